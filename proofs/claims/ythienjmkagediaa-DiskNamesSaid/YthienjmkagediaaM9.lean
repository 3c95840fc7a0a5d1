/- The contract of a disk's Image: what is read is what a sync would make durable. -/
import Derived.Test.YthienjmkagediaaM8
set_option linter.unusedVariables false
set_option linter.unusedSimpArgs false
namespace Go.Proofs.YthienjmkagediaaM
open Go.RowKit
attribute [local go_sem ↓] exec_load71 exec_load69 exec_store71 exec_store69 exec_alloc71 exec_alloc69 exec_build71 exec_one71
attribute [local go_sem] via_alloc71 via_alloc69 via_build71 via_one71
theorem splice_get {α : Type} (L cs : List α) (o j : Nat) (h : o + cs.length ≤ L.length) : (splice L o cs)[j]? = if o ≤ j ∧ j < o + cs.length then cs[j - o]? else L[j]? := by
  unfold splice
  have ho : (L.take o).length = o := by rw [List.length_take]; omega
  by_cases h1 : j < o
  · rw [List.getElem?_append_left (by omega), List.getElem?_take, if_pos h1, if_neg (by omega)]
  · rw [List.getElem?_append_right (by omega), ho]
    by_cases h2 : j < o + cs.length
    · rw [List.getElem?_append_left (by omega), if_pos (by omega)]
    · rw [List.getElem?_append_right (by omega), if_neg (by omega), List.getElem?_drop]
      congr 1
      omega
theorem sec_get (D : List UInt8) (i j : Nat) : (sec D i)[j]? = if j < 512 then D[i * 512 + j]? else none := by
  unfold sec
  rw [List.getElem?_take, List.getElem?_drop]
theorem sec_splice (L b : List UInt8) (n x i : Nat) (hL : L.length = n * 512) (hx : x < n) (hb : b.length = 512) : sec (splice L (x * 512) b) i = if x = i then b else sec L i := by
  apply List.ext_getElem?
  intro j
  rw [sec_get, splice_get _ _ _ _ (by omega)]
  by_cases hj : j < 512
  · rw [if_pos hj]
    by_cases he : x = i
    · subst he
      rw [if_pos (by omega), if_pos rfl]
      congr 1
      omega
    · rw [if_neg (by omega), if_neg he, sec_get, if_pos hj]
  · rw [if_neg hj]
    split
    · rw [List.getElem?_eq_none (by omega)]
    · rw [sec_get, if_neg hj]
/-- What a sync makes durable. -/
def syncD (D : List UInt8) (P : List (Nat × List UInt8)) : List UInt8 := crashK D P (fun _ => 512) P.length
theorem syncD_length {D : List UInt8} {n : Nat} (P : List (Nat × List UInt8)) (h : D.length = n * 512) (hP : ∀ x ∈ P, x.1 < n ∧ x.2.length = 512) : (syncD D P).length = n * 512 := crashK_length P _ h hP _ (Nat.le_refl _)
theorem readP_sync {D : List UInt8} {n : Nat} (P : List (Nat × List UInt8)) (h : D.length = n * 512) (hP : ∀ x ∈ P, x.1 < n ∧ x.2.length = 512) (i : Nat) : ∀ k, k ≤ P.length → readP D (P.take k) i = sec (crashK D P (fun _ => 512) k) i
  | 0, _ => rfl
  | k + 1, hk => by
    have hlt : k < P.length := by omega
    have ih := readP_sync P h hP i k (by omega)
    have hx := hP _ (List.getElem_mem hlt)
    rw [readP_snoc D P i k hlt, ih]
    show _ = sec (splice _ _ _) i
    rw [List.getD_eq_getElem?_getD, List.getElem?_eq_getElem hlt, Option.getD_some, List.take_of_length_le (by show (P[k]).2.length ≤ 512; omega), sec_splice _ _ n _ _ (crashK_length P _ h hP k (by omega)) hx.1 hx.2]
theorem readP_sec {D : List UInt8} {n : Nat} (P : List (Nat × List UInt8)) (h : D.length = n * 512) (hP : ∀ x ∈ P, x.1 < n ∧ x.2.length = 512) (i : Nat) : readP D P i = sec (syncD D P) i := by
  have := readP_sync P h hP i P.length (Nat.le_refl _)
  rw [List.take_length] at this
  exact this
set_option maxRecDepth 100000 in
set_option maxHeartbeats 400000 in
theorem image_ok (B p g n : Nat) (v : Value) (D : List UInt8) (P : List (Nat × List UInt8)) (w : World) (h : DiskAt w B p g n v D P) :
    Calls Try.prog 19 #[.pointer (some ⟨p, 0, none⟩)] w (Gives w (syncD D P)) := by
  have H := Lib.hid h
  have hn := h.top
  have HL := Lib.hid (syncD_length P h.len h.ok)
  have HR := Lib.hid (readP_sec P h.len h.ok)
  clear h
  obtain ⟨i0, hi0, hz0, hz1, hz2⟩ := info_parts info5
  have HI := Lib.hid (And.intro hi0 (And.intro hz0 (And.intro hz1 hz2)))
  clear hi0 hz0 hz1 hz2
  obtain ⟨S, hS⟩ : ∃ S, S = syncD D P := ⟨_, rfl⟩
  rw [← hS] at HL HR ⊢
  clear hS
  go_enter Try.func19, Try.ntmps19
  go_wp2_with (go_at_call 24; refine (sectors p g n _ _ H.out.blk H.out.pos).mono ?_; rintro e w' ⟨rfl, rfl⟩)
  go_loopw [3, 9] (fun ov iv wr => ∃ k : Nat, k ≤ n ∧ iv = .int .i64 (k : Int) ∧ Hid (wr.ownsRow w.heap.size 5 1 ov (k * 512) (byteCells (S.take (k * 512)))) ∧ Hid (Below w.heap.size w wr)) (fun _ iv _ => n - (intOf iv).toNat)
  case atStart => exact ⟨0, Nat.zero_le _, rfl, World.ownsRow_nil _ _ _ _, Below.refl _ _⟩
  case round =>
    obtain ⟨k, hk, rfl, HO, HW⟩ := hrel
    by_cases hlt : k < n
    · have HD := Lib.hid (H.out.new HW.out)
      have hsz := HW.out.size
      have HT := Lib.hid (take_sec S n k HL.out hlt)
      have HK := Lib.hid (sec_length HL.out hlt)
      have hk' : (k : Int) < (n : Int) := by omega
      go_wp2_with fail
      refine (read_ok B p g n v D P wr HD.out k hlt).mono ?_
      rintro e w1 ⟨rfl, hb1, hw1⟩
      rw [HR.out] at hb1
      have HN := Lib.hid (show ∀ j u, (byteCells (sec S k))[j]? = some u → w1.cell? ((⟨wr.heap.size, 0, none⟩ : Addr).add j) = some u from fun j u hu => by
        rw [addr_add, hb1.cell, Nat.zero_add]
        exact hu)
      have HO1 := Lib.hid (ownsRow_kept HO.out (Elses.of_below' (S := fun k => wr.heap.size ≤ k) hw1) fun j hj => by have := (HO.out.lt j hj).2; omega)
      have HW1 := Lib.hid (HW.out.trans (hw1.mono hsz))
      have hsz1 := hw1.size
      clear hb1 hw1
      go_wp2_with (at_builtin; refine wpList_append_lies _ rfl _ _ 30 rfl w.heap.size 5 i0 (.int .u8 0) 1 1 Try.underlying30 HI.out.1 HI.out.2.1 HI.out.2.2.1 HI.out.2.2.2 rfl (by decide) u3 (k * 512) (byteCells (S.take (k * 512))) rfl HO1.out ⟨wr.heap.size, 0, none⟩ 512 512 (byteCells (sec S k)) rfl (by rw [byteCells_length]; exact HK.out) HN.out (byteCells_one _) (by omega) (by unfold maxLen; omega) (by omega) (by omega) w1.heap.size rfl ?_; intro gg cc w2 hown1 hgrow hat1 hlt1)
      rw [← byteCells_append, HT.out] at hown1
      have HG := Lib.hid (And.intro hown1 (HW1.out.grown hgrow (by omega) fun j hj => (HO1.out.lt j hj).1))
      clear hown1 hgrow hat1 hlt1
      go_wp2
      go_roundw
      case rel => exact ⟨k + 1, by omega, by go_num, show World.ownsRow _ _ _ _ _ _ _ by rw [show (k + 1) * 512 = k * 512 + 512 by omega] at *; exact HG.out.1, show Below _ _ _ from HG.out.2⟩
      case measure => simp [intOf]; omega
    · have hk' : ¬ (k : Int) < (n : Int) := by omega
      obtain rfl : k = n := by omega
      go_wp2
      go_ret
      refine ⟨_, rfl, ?_, HW.out⟩
      have := HO.out
      rw [← HL.out, List.take_length] at this
      exact this
end Go.Proofs.YthienjmkagediaaM
