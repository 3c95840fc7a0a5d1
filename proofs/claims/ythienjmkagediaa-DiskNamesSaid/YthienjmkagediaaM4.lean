/- The contracts of a disk's Write that is refused, and of Read. -/
import Derived.Test.YthienjmkagediaaM3
set_option linter.unusedVariables false
set_option linter.unusedSimpArgs false
namespace Go.Proofs.YthienjmkagediaaM
open Go.RowKit
attribute [local go_sem ↓] exec_load71 exec_load69 exec_store71 exec_store69 exec_alloc71 exec_alloc69 exec_build71 exec_one71
attribute [local go_sem] via_alloc71 via_alloc69 via_build71 via_one71
theorem write_nil (k : Int) (bv : Value) (w : World) :
    Calls Try.prog 11 #[.pointer none, .int .i64 k, bv] w fun e w' => e = .returned (.int .i64 1) ∧ w = w' := by
  go_enter Try.func11, Try.ntmps11
  go_wp2_with (go_at_call 33; refine (is_nil _).mono ?_; rintro e w' ⟨rfl, rfl⟩)
  go_ret
  exact ⟨rfl, rfl⟩
theorem write_out (p g n : Nat) (v : Value) (w : World) (hb : Blk w p [.slice (some ⟨g, 0, none⟩) n n, v] 66) (hn : 0 < n) (k : Int) (hk : k < 0 ∨ (n : Int) ≤ k) (bv : Value) :
    Calls Try.prog 11 #[.pointer (some ⟨p, 0, none⟩), .int .i64 k, bv] w fun e w' => e = .returned (.int .i64 2) ∧ w = w' := by
  have HB := Lib.hid hb
  have HK := Lib.hid hk
  clear hb hk
  go_enter Try.func11, Try.ntmps11
  go_wp2_with (first | (go_at_call 33; refine (is_yes p g n _ _ HB.out hn).mono ?_; rintro e w' ⟨rfl, rfl⟩) | (go_at_call 34; refine (has_no p g n _ _ HB.out k HK.out).mono ?_; rintro e w' ⟨rfl, rfl⟩))
  go_ret
  exact ⟨rfl, rfl⟩
theorem write_long (p g n : Nat) (v : Value) (w : World) (hb : Blk w p [.slice (some ⟨g, 0, none⟩) n n, v] 66) (hn : 0 < n) (k : Nat) (hk : k < n) (a : Option Addr) (l c : Nat) (hl : 512 < l) :
    Calls Try.prog 11 #[.pointer (some ⟨p, 0, none⟩), .int .i64 (k : Int), .slice a l c] w fun e w' => e = .returned (.int .i64 4) ∧ w = w' := by
  have HB := Lib.hid hb
  clear hb
  have hl' : (512 : Int) < (l : Int) := by omega
  go_enter Try.func11, Try.ntmps11
  go_wp2_with (first | (go_at_call 33; refine (is_yes p g n _ _ HB.out hn).mono ?_; rintro e w' ⟨rfl, rfl⟩) | (go_at_call 34; refine (has_yes p g n _ _ HB.out k hk).mono ?_; rintro e w' ⟨rfl, rfl⟩))
  go_ret
  exact ⟨rfl, rfl⟩
theorem read_nil (k : Int) (w : World) :
    Calls Try.prog 23 #[.pointer none, .int .i64 k] w fun e w' => e = .returned (.tuple #[.slice none 0 0, .int .i64 1]) ∧ w = w' := by
  go_enter Try.func23, Try.ntmps23
  go_wp2_with (go_at_call 33; refine (is_nil _).mono ?_; rintro e w' ⟨rfl, rfl⟩)
  go_ret2
  exact ⟨rfl, rfl⟩
theorem read_out (p g n : Nat) (v : Value) (w : World) (hb : Blk w p [.slice (some ⟨g, 0, none⟩) n n, v] 66) (hn : 0 < n) (k : Int) (hk : k < 0 ∨ (n : Int) ≤ k) :
    Calls Try.prog 23 #[.pointer (some ⟨p, 0, none⟩), .int .i64 k] w fun e w' => e = .returned (.tuple #[.slice none 0 0, .int .i64 2]) ∧ w = w' := by
  have HB := Lib.hid hb
  have HK := Lib.hid hk
  clear hb hk
  go_enter Try.func23, Try.ntmps23
  go_wp2_with (first | (go_at_call 33; refine (is_yes p g n _ _ HB.out hn).mono ?_; rintro e w' ⟨rfl, rfl⟩) | (go_at_call 34; refine (has_no p g n _ _ HB.out k HK.out).mono ?_; rintro e w' ⟨rfl, rfl⟩))
  go_ret2
  exact ⟨rfl, rfl⟩
/-- A sector's bytes; what is read of it. -/
def sec (D : List UInt8) (i : Nat) : List UInt8 := (D.drop (i * 512)).take 512
def readP (D : List UInt8) (P : List (Nat × List UInt8)) (i : Nat) : List UInt8 := P.foldl (fun s x => if x.1 = i then x.2 else s) (sec D i)
theorem sec_length {D : List UInt8} {n i : Nat} (h : D.length = n * 512) (hi : i < n) : (sec D i).length = 512 := by
  unfold sec
  rw [List.length_take, List.length_drop, h]
  omega
theorem readP_length {D : List UInt8} {n i : Nat} (h : D.length = n * 512) (hi : i < n) : ∀ (P : List (Nat × List UInt8)), (∀ x ∈ P, x.1 < n ∧ x.2.length = 512) → (readP D P i).length = 512 := by
  have : ∀ (P : List (Nat × List UInt8)) (s : List UInt8), s.length = 512 → (∀ x ∈ P, x.1 < n ∧ x.2.length = 512) → (P.foldl (fun s x => if x.1 = i then x.2 else s) s).length = 512 := by
    intro P
    induction P with
    | nil => intro s hs _; exact hs
    | cons x P ih =>
      intro s hs hP
      rw [List.foldl_cons]
      refine ih _ ?_ fun y hy => hP y (List.mem_cons_of_mem _ hy)
      split
      · exact (hP x List.mem_cons_self).2
      · exact hs
  exact fun P hP => this P _ (sec_length h hi) hP
theorem readP_snoc (D : List UInt8) (P : List (Nat × List UInt8)) (i k : Nat) (h : k < P.length) : readP D (P.take (k + 1)) i = if (P[k]).1 = i then (P[k]).2 else readP D (P.take k) i := by
  unfold readP
  rw [List.take_succ_eq_append_getElem h, List.foldl_append]
  rfl
theorem range_sec {w : World} {g n : Nat} {D : List UInt8} (h : Blk w g (byteCells D) 69) (hD : D.length = n * 512) (i : Nat) (hi : i < n) : w.rangeAt g (i * 512) (byteCells (sec D i)) := fun j u hu => by
  rw [h.cell]
  unfold sec at hu
  rw [byteCells_take, byteCells_drop, List.getElem?_take, List.getElem?_drop] at hu
  split at hu
  · exact hu
  · cases hu
theorem encP_take (P : List (Nat × List UInt8)) (hP : ∀ x ∈ P, x.2.length = 512) (k : Nat) (h : k < P.length) : ((encP P).drop (k * 513)).take 513 = cellW (P[k]).1 (P[k]).2 := by
  induction P generalizing k with
  | nil => simp at h
  | cons x P ih =>
    have hx : (cellW x.1 x.2).length = 513 := by rw [cellW_length, hP x List.mem_cons_self]
    have e : encP (x :: P) = cellW x.1 x.2 ++ encP P := by simp [encP, cellW]
    rw [e]
    cases k with
    | zero =>
      rw [Nat.zero_mul, List.drop_zero, List.take_append_of_le_length (by omega), List.take_of_length_le (by omega)]
      rfl
    | succ k =>
      rw [List.drop_append, List.drop_eq_nil_of_le (by omega), List.nil_append, hx, show (k + 1) * 513 - 513 = k * 513 by omega]
      exact ih (fun y hy => hP y (List.mem_cons_of_mem _ hy)) k (by simpa using h)
theorem range_pend {w : World} {B q cap : Nat} {P : List (Nat × List UInt8)} (h : w.ownsRow B 71 513 (.slice (some ⟨q, 0, none⟩) P.length cap) P.length (encP P)) (hP : ∀ x ∈ P, x.2.length = 512) (k : Nat) (hk : k < P.length) : w.rangeAt q (k * 513) (cellW (P[k]).1 (P[k]).2) := fun j u hu => by
  have hc := h.cells (g := q) rfl (k * 513 + j) u
  rw [addr_add, Nat.zero_add] at hc
  apply hc
  rw [← encP_take P hP k hk, List.getElem?_take] at hu
  split at hu
  · rw [List.getElem?_drop] at hu
    exact hu
  · cases hu
end Go.Proofs.YthienjmkagediaaM
