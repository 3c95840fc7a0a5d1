/- The contract of disk.Of. -/
import Derived.Test.YthienjmkagediaaM9
set_option linter.unusedVariables false
set_option linter.unusedSimpArgs false
namespace Go.Proofs.YthienjmkagediaaM
open Go.RowKit
attribute [local go_sem ↓] exec_load71 exec_load69 exec_store71 exec_store69 exec_alloc71 exec_alloc69 exec_build71 exec_one71
attribute [local go_sem] via_alloc71 via_alloc69 via_build71 via_one71
theorem of_odd (a : Option Addr) (l c : Nat) (h : l % 512 ≠ 0) (w : World) :
    Calls Try.prog 22 #[.slice a l c] w fun e w' => e = .returned (.tuple #[.pointer none, .int .i64 2]) ∧ w = w' := by
  have h1 : ((l : Int) % 512 == 0) = false := by rw [beq_eq_false_iff_ne]; omega
  have h2 : ((l : Int) % 512 != 0) = true := by rw [bne_iff_ne]; omega
  have h3 : ¬ ((l : Int) % 512 = 0) := by omega
  go_enter Try.func22, Try.ntmps22
  go_wp2
  go_ret2
  exact ⟨rfl, rfl⟩
set_option maxHeartbeats 1000000 in
theorem of_size (a : Option Addr) (l c n : Nat) (h : l = n * 512) (hm : l ≤ maxLen) (hn : n < 1 ∨ 1024 < n) (w : World) :
    Calls Try.prog 22 #[.slice a l c] w fun e w' => e = .returned (.tuple #[.pointer none, .int .i64 2]) ∧ w = w' := by
  subst h
  have h1 : ((↑(n * 512) : Int) % 512 == 0) = true := by rw [beq_iff_eq]; omega
  have h2 : ((↑(n * 512) : Int) % 512 != 0) = false := by rw [bne_eq_false_iff_eq]; omega
  have h3 : ((n : Int) * 512) % 512 = 0 := by omega
  have h4 : ((n : Int) * 512) / 512 = n := by omega
  unfold maxLen at hm
  have hm' : (n : Int) ≤ 100000000000000000 := by omega
  have hn0 : (0 : Int) ≤ (n : Int) := by omega
  have HN := Lib.hid (show (n : Int) < 1 ∨ 1024 < (n : Int) by omega)
  clear hn
  go_enter Try.func22, Try.ntmps22
  go_wp2_with (go_at_call 10; ((with_reducible refine (new_no n HN.out _).mono ?_); rintro e w' ⟨rfl, rfl⟩))
  go_ret2
  exact ⟨rfl, rfl⟩
theorem sec_zero_step (img : List UInt8) (n k : Nat) (h : img.length = n * 512) (hk : k < n) : splice (img.take (k * 512) ++ zeros ((n - k) * 512)) (k * 512) (sec img k) = img.take ((k + 1) * 512) ++ zeros ((n - (k + 1)) * 512) := by
  have hl : (img.take (k * 512)).length = k * 512 := by rw [List.length_take]; omega
  have hs := sec_length h hk
  unfold splice
  rw [List.take_append_of_le_length (by omega), List.take_of_length_le (by omega), List.drop_append, List.drop_eq_nil_of_le (by omega), List.nil_append, hl, hs, ← List.append_assoc, take_sec img n k h hk]
  congr 1
  unfold zeros
  rw [List.drop_replicate]
  congr 1
  omega
set_option maxRecDepth 100000 in
set_option maxHeartbeats 1000000 in
theorem of_ok (img : List UInt8) (n : Nat) (hl : img.length = n * 512) (h1 : 0 < n) (h2 : n ≤ 1024) (w : World) (s cap : Nat) (hcap : n * 512 ≤ cap) (hcm : cap ≤ maxLen) (hsrc : ∀ j u, (byteCells img)[j]? = some u → w.cell? ⟨s, j, none⟩ = some u) :
    Calls Try.prog 22 #[.slice (some ⟨s, 0, none⟩) (n * 512) cap] w fun e w' => e = .returned (.tuple #[.pointer (some ⟨w.heap.size + 1, 0, none⟩), .int .i64 0]) ∧
      DiskAt w' w.heap.size (w.heap.size + 1) w.heap.size n (.slice none 0 0) img [] ∧ Below w.heap.size w w' := by
  have hs : s < w.heap.size := by
    have h0 : 0 < (byteCells img).length := by rw [byteCells_length]; omega
    exact World.block_lt_of_cell? w _ (hsrc 0 _ (List.getElem?_eq_getElem h0))
  have HS := Lib.hid hsrc
  have HL := Lib.hid hl
  clear hl
  unfold maxLen at hcm
  have h1a : ((↑(n * 512) : Int) % 512 == 0) = true := by rw [beq_iff_eq]; omega
  have h2a : ((↑(n * 512) : Int) % 512 != 0) = false := by rw [bne_eq_false_iff_eq]; omega
  have h3a : ((n : Int) * 512) % 512 = 0 := by omega
  have h4a : ((n : Int) * 512) / 512 = n := by omega
  clear hsrc
  go_enter Try.func22, Try.ntmps22
  go_wp2_with (go_at_call 10; refine (new_ok n h1 h2 _).mono ?_; rintro e w1 ⟨rfl, hd1, hb1⟩; have HD1 := Lib.hid (And.intro hd1 hb1); have hc0 := hd1.c0; clear hd1 hb1)
  go_loopw [26] (fun iv wr => ∃ k : Nat, k ≤ n ∧ iv = .int .i64 (k : Int) ∧ Hid (DiskAt wr w.heap.size (w.heap.size + 1) w.heap.size n (.slice none 0 0) (img.take (k * 512) ++ zeros ((n - k) * 512)) []) ∧ Hid (Below w.heap.size w wr)) (fun iv _ => n - (intOf iv).toNat)
  case atStart => exact ⟨0, Nat.zero_le _, rfl, show DiskAt _ _ _ _ _ _ _ _ by simpa using HD1.out.1, HD1.out.2⟩
  case round =>
    obtain ⟨k, hk, rfl, HD, HW⟩ := hrel
    by_cases hlt : k < n
    · have hc := HD.out.c0
      have hk' : (k : Int) < (n : Int) := by omega
      have hk0 : (0 : Int) ≤ (k : Int) := by omega
      have b0 : (0 : Int) ≤ (k : Int) * 512 := by omega
      have b1 : (k : Int) * 512 ≤ ((n * 512 : Nat) : Int) := by omega
      have b2 : (k : Int) * 512 ≤ (n : Int) * 512 := by omega
      have b3 : (k : Int) * 512 ≤ (cap : Int) := by omega
      have b4 : IntKind.i64.wrap ((k : Int) * 512) = (k : Int) * 512 := by rw [IntKind.wrap_i64]; omega
      have b5 : ((k : Int) * 512).toNat = k * 512 := by omega
      have b6 : ¬ cap = k * 512 := by omega
      have HC := Lib.hid (And.intro (sec_zero_step img n k HL.out hlt) (sec_length HL.out hlt))
      have HN := Lib.hid (show ∀ j u, (byteCells (sec img k))[j]? = some u → wr.drew.cell? ((⟨s, k * 512, none⟩ : Addr).add j) = some u from fun j u hu => by
        show wr.cell? _ = _
        rw [addr_add, HW.out.cell (p := ⟨s, k * 512 + j, none⟩) hs]
        apply HS.out
        unfold sec at hu
        rw [byteCells_take, byteCells_drop, List.getElem?_take] at hu
        split at hu
        · rw [List.getElem?_drop] at hu
          exact hu
        · cases hu)
      go_wp2
      go_region_law ((refine step_copy_at rfl (.tmp 35) (.tmp 39) 30 30 (by rfl) 5 Try.underlying30 (by kernel_rfl) w.heap.size (k * 512) 512 512 (some ⟨s, k * 512, none⟩) (n * 512 - k * 512) (cap - k * 512) (by rfl) (by rfl) (byteCells (img.take (k * 512) ++ zeros ((n - k) * 512))) 69 HD.out.dur.drew (byteCells (sec img k)) (by rw [byteCells_length, HC.out.2]; exact (Nat.min_eq_right (by omega)).symm) (fun _ => ⟨_, rfl, HN.out⟩) (by rw [byteCells_length, byteCells_length, HC.out.2, List.length_append, List.length_take, zeros_length, HL.out]; omega) (byteCells_one _) ?_; rw [← byteCells_splice, HC.out.1]))
      all_goals
        go_wp2
        go_roundw
        case rel => exact ⟨k + 1, by omega, by go_num, show DiskAt _ _ _ _ _ _ _ _ from HD.out.drew.stored rfl (by rw [List.length_append, List.length_take, zeros_length, HL.out]; omega), show Below _ _ _ from below_setRow HW.out.drew (Nat.le_refl _) _⟩
        case measure => simp [intOf]; omega
    · have hk' : ¬ (k : Int) < (n : Int) := by omega
      obtain rfl : k = n := by omega
      go_wp2
      go_ret2
      have := HD.out
      rw [← HL.out, List.take_length, Nat.sub_self, Nat.zero_mul] at this
      exact ⟨rfl, by simpa [zeros] using this, HW.out⟩
end Go.Proofs.YthienjmkagediaaM
