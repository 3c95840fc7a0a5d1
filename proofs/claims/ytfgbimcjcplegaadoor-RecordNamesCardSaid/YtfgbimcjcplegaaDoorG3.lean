/- The contracts of record's reader: take, rest, end, number: what they return, and when they give up. -/
import Derived.Test.YtfgbimcjcplegaaDoorGa
import Derived.Test.YtfgbimcjcplegaaDoorX2
import Derived.Defers
import Derived.Recover
import Derived.Laws.BitsAllLaws
set_option linter.unusedVariables false
set_option linter.unusedSimpArgs false
namespace Go.Proofs.YtfgbimcjcplegaaDoorG
open Go.RowKit Go.Proofs.YtfgbimcjcplegaaDoorW.PrintWords Go.Proofs.YtfgbimcjcplegaaDoorX Go.Proofs.YtfgbimcjcplegaaDoorW.PrintMore
/-- The panic by which a reader gives up with e. -/
def gives (e : Int) : Ending := .panicked [{ v := .iface 38 (.agg #[.int .i64 e]), recovered := false }]
theorem take_ok (B : Nat) (s : ByteArray) (n : Int) (w : World) (hB : Blk w B #[.string s] 42) (h0 : 0 ≤ n) (hn : n ≤ s.size) :
    Calls Tryd.prog 28 #[.pointer (some ⟨B, 0, none⟩), .int .i64 n] w fun e w' => e = .returned (.string (s.extract 0 n.toNat)) ∧ Else B w w' ∧ Blk w' B #[.string (s.extract n.toNat s.size)] 42 := by
  have hc := hB.cell 0
  have hz := hB.frozen 0
  have hE := (Else.refl B w).set 0 (.string (s.extract n.toNat s.size))
  have hA := hB.set 0 (.string (s.extract n.toNat s.size))
  have HE := Lib.hid hE
  have HA := Lib.hid hA
  clear hE hA
  go_enter Tryd.func28, Tryd.ntmps28
  go_wp2
  go_ret
  exact ⟨rfl, HE.out, HA.out⟩
theorem take_short (B : Nat) (s : ByteArray) (n : Int) (w : World) (hB : Blk w B #[.string s] 42) (hn : (s.size : Int) < n) :
    Calls Tryd.prog 28 #[.pointer (some ⟨B, 0, none⟩), .int .i64 n] w fun e w' => e = gives 3 ∧ w' = w := by
  have hc := hB.cell 0
  go_enter Tryd.func28, Tryd.ntmps28
  go_wp2
  exact ⟨rfl, rfl, rfl⟩
theorem rest_any (B : Nat) (s : ByteArray) (w : World) (hB : Blk w B #[.string s] 42) (hs : s.size ≤ 6000) :
    Calls Tryd.prog 29 #[.pointer (some ⟨B, 0, none⟩)] w fun e w' => e = .returned (.string s) ∧ Else B w w' ∧ Blk w' B #[.string ByteArray.empty] 42 := by
  have hc := hB.cell 0
  have HB := Lib.hid hB
  clear hB
  go_enter Tryd.func29, Tryd.ntmps29
  go_wp2_with fail
  refine (take_ok B s s.size w HB.out (by omega) (by omega)).mono ?_
  rintro e w' ⟨rfl, hE, hA⟩
  have h1 : s.extract 0 (s.size : Int).toNat = s := by simp
  have h2 : s.extract (s.size : Int).toNat s.size = ByteArray.empty := by simp
  rw [h1]
  rw [h2] at hA
  have HE := Lib.hid hE
  have HA := Lib.hid hA
  clear hE hA
  go_wp2_with fail
  go_ret
  exact ⟨rfl, HE.out, HA.out⟩
theorem end_ok (B : Nat) (s : ByteArray) (w : World) (hB : Blk w B #[.string s] 42) (hs : s = ByteArray.empty) :
    Calls Tryd.prog 31 #[.pointer (some ⟨B, 0, none⟩)] w fun e w' => e = .returned (.tuple #[]) ∧ w' = w := by
  subst hs
  have hc := hB.cell 0
  go_enter Tryd.func31, Tryd.ntmps31
  go_wp2
  go_end0
  exact ⟨rfl, rfl⟩
theorem end_bad (B : Nat) (s : ByteArray) (w : World) (hB : Blk w B #[.string s] 42) (hs : s ≠ ByteArray.empty) :
    Calls Tryd.prog 31 #[.pointer (some ⟨B, 0, none⟩)] w fun e w' => e = gives 5 ∧ w' = w := by
  have hc := hB.cell 0
  have he : s.toList.isEmpty = false := by
    rw [ByteArray.toList_eq, Bool.eq_false_iff]
    intro h
    apply hs
    have h2 : s.data.toList = [] := List.isEmpty_iff.1 h
    have h3 : s.data = #[] := by
      rw [← Array.toArray_toList (xs := s.data), h2]
    cases s
    simp only at h3
    subst h3
    rfl
  have HS := Lib.hid hs
  clear hs
  go_enter Tryd.func31, Tryd.ntmps31
  go_wp2
  exact ⟨rfl, rfl, rfl⟩
theorem bytesCell (W : World) (t : ByteArray) (cap : Nat) (m : Nat × Nat) (hm : t.size ≤ m.1 ∨ m.2 = 0) (i : Nat) (hi : i < t.size) : (W.alloc (.cells (bytesRow t cap) 5 m)).cell? ⟨W.heap.size, i, none⟩ = some (.int .u8 (bt t i)) := by
  have h := RowI.of_string W t cap 5 m hm
  have h2 := h.cell (j := i) (by rw [bytesOf_length]; exact hi)
  rw [h2, ← rd_bytesOf]
  unfold rd
  simp
/-- The number that the first k bytes are, the highest first. -/
def numP (t : ByteArray) : Nat → Int
  | 0 => 0
  | k + 1 => numP t k * 256 + bt t k
theorem numP_range (t : ByteArray) : ∀ k, 0 ≤ numP t k ∧ numP t k < 256 ^ k
  | 0 => by simp [numP]
  | k + 1 => by
    obtain ⟨h1, h2⟩ := numP_range t k
    have h3 := bt_range t k
    have h4 : (256 : Int) ^ (k + 1) = 256 ^ k * 256 := by rw [Int.pow_succ]
    unfold numP
    rw [h4]
    omega
theorem or_step (x b : Int) (hx : 0 ≤ x) (hx2 : x < 72057594037927936) (hb0 : 0 ≤ b) (hb : b ≤ 255) : bits BinOp.or IntKind.u64 (IntKind.u64.wrap (x * 256)) (IntKind.u64.wrap b) = x * 256 + b := by
  have h1 : IntKind.u64.wrap (x * 256) = x * 256 := by simp [IntKind.wrap_u64]; omega
  have h2 : IntKind.u64.wrap b = b := by simp [IntKind.wrap_u64]; omega
  rw [h1, h2]
  obtain ⟨a, rfl⟩ := Int.eq_ofNat_of_zero_le hx
  obtain ⟨c, rfl⟩ := Int.eq_ofNat_of_zero_le hb0
  have h3 := u64_or_nat (a * 256) c (by omega) (by omega)
  have h4 : a * 256 ||| c = a * 256 + c := by
    have := Nat.two_pow_add_eq_or_of_lt (i := 8) (b := c) (by omega) a
    rw [Nat.mul_comm]
    exact this.symm
  rw [h4] at h3
  rw [show ((a : Int) * 256) = ((a * 256 : Nat) : Int) by omega, h3]
  omega
theorem numP_step (t : ByteArray) (k : Nat) (hk : k < 8) : bits BinOp.or IntKind.u64 (IntKind.u64.wrap (numP t k * 256)) (IntKind.u64.wrap (bt t k)) = numP t (k + 1) := by
  obtain ⟨h1, h2⟩ := numP_range t k
  obtain ⟨h3, h4⟩ := bt_range t k
  have h5 : (256 : Int) ^ k ≤ 72057594037927936 := by
    have : (256 : Nat) ^ k ≤ 256 ^ 7 := Nat.pow_le_pow_right (by decide) (by omega)
    have h6 : ((256 ^ k : Nat) : Int) = (256 : Int) ^ k := by simp
    omega
  rw [or_step _ _ h1 (by omega) h3 h4]
  rfl
set_option maxHeartbeats 2000000 in
theorem number_ok (B : Nat) (s : ByteArray) (w : World) (hB : Blk w B #[.string s] 42) (hs : 8 ≤ s.size) (hs2 : s.size ≤ 6000) :
    Calls Tryd.prog 30 #[.pointer (some ⟨B, 0, none⟩)] w fun e w' => e = .returned (.int .u64 (numP (s.extract 0 8) 8)) ∧ Else B w w' ∧ Blk w' B #[.string (s.extract 8 s.size)] 42 := by
  have HB := Lib.hid hB
  clear hB
  go_enter Tryd.func30, Tryd.ntmps30
  go_wp2_with fail
  refine (take_ok B s 8 w HB.out (by omega) (by omega)).mono ?_
  rintro e w' ⟨rfl, hE, hA⟩
  have HE := Lib.hid hE
  have HA := Lib.hid hA
  clear hE hA
  have hcv := fun (W : World) => run_bytes_of_string (P := Tryd.prog) W 9 46 5 (s.extract 0 8) Tryd.underlying9 Tryd.underlying46 Tryd.underlying5
  have hts : (s.extract 0 8).size = 8 := by simp; omega
  have b0 := bytesCell w' (s.extract 0 8) (grownCap w' (s.extract 0 8).size 0 5) ((bytesRow (s.extract 0 8) (grownCap w' (s.extract 0 8).size 0 5)).size, (bytesRow (s.extract 0 8) (grownCap w' (s.extract 0 8).size 0 5)).size + 1) (Or.inl (bytesRow_size _ _))
  simp only [hts] at b0
  have HB0 := Lib.hid b0
  have HT := Lib.hid hts
  clear b0
  go_wp2_with fail
  go_loop [3, 10] (fun n i => ∃ k : Nat, k ≤ 8 ∧ i = .int .i64 k ∧ n = .int .u64 (numP (s.extract 0 8) k)) (fun n i => 8 - (intOf i).toNat)
  case atStart => exact ⟨0, Nat.zero_le _, rfl, rfl⟩
  case round =>
    obtain ⟨k, hk, rfl, rfl⟩ := hrel
    by_cases hlt : k < 8
    · have hc := HB0.out k hlt
      go_wp2
      refine ⟨⟨k + 1, by omega, by go_num, ?_⟩, by simp [intOf]; omega⟩
      rw [numP_step _ _ hlt]
    · have hk8 : k = 8 := by omega
      subst hk8
      go_wp2
      go_ret
      exact ⟨rfl, (HE.out.alloc _).drew, (HA.out.alloc _).drew⟩
theorem number_short (B : Nat) (s : ByteArray) (w : World) (hB : Blk w B #[.string s] 42) (hs : s.size < 8) :
    Calls Tryd.prog 30 #[.pointer (some ⟨B, 0, none⟩)] w fun e w' => e = gives 3 ∧ w' = w := by
  have HB := Lib.hid hB
  clear hB
  go_enter Tryd.func30, Tryd.ntmps30
  go_wp2_with fail
  refine (take_short B s 8 w HB.out (by omega)).mono ?_
  rintro e w' ⟨he, rfl⟩
  rw [gives] at he
  subst he
  go_wp2_with fail
  exact ⟨rfl, rfl, rfl⟩
end Go.Proofs.YtfgbimcjcplegaaDoorG
