/- The contracts of Lower, the program's and the reference's: each byte in lower case, for every string that fits in memory. -/
import Derived.Test.YtppgoppkciakgaaG2
import Derived.Test.YtppgoppkciakgaaX0
set_option linter.unusedVariables false
set_option linter.unusedSimpArgs false
namespace Go.Proofs.YtppgoppkciakgaaG
open Go.RowKit Go.Proofs.YtppgoppkciakgaaW.PrintWords Go.Proofs.YtppgoppkciakgaaX
def lowI (c : Int) : Int := if 65 ≤ c ∧ c ≤ 90 then c + 32 else c
def lowB (b : UInt8) : UInt8 := if 65 ≤ b ∧ b ≤ 90 then b + 32 else b
theorem lowI_toNat (b : UInt8) : lowI (b.toNat : Int) = ((lowB b).toNat : Int) := by
  unfold lowI lowB
  have h1 : (65 ≤ b ∧ b ≤ 90) ↔ (65 ≤ (b.toNat : Int) ∧ (b.toNat : Int) ≤ 90) := by
    rw [UInt8.le_iff_toNat_le, UInt8.le_iff_toNat_le]
    show (65 ≤ b.toNat ∧ b.toNat ≤ 90) ↔ _
    omega
  by_cases h : 65 ≤ b ∧ b ≤ 90
  · rw [if_pos h, if_pos (h1.1 h), UInt8.toNat_add]
    have := h1.1 h
    show _ = (((b.toNat + 32) % 256 : Nat) : Int)
    omega
  · rw [if_neg h, if_neg (fun x => h (h1.2 x))]
def lowerS (s : ByteArray) : ByteArray := ⟨s.data.map lowB⟩
/-- The bytes of s, the first k of them in lower case. -/
def part (s : ByteArray) (k : Nat) : List Int := ((bytesOf s).take k).map lowI ++ (bytesOf s).drop k
theorem part_length (s : ByteArray) (k : Nat) : (part s k).length = s.size := by
  unfold part
  rw [List.length_append, List.length_map, List.length_take, List.length_drop, bytesOf_length]
  omega
theorem part_zero (s : ByteArray) : part s 0 = bytesOf s := by unfold part; simp
theorem part_at (s : ByteArray) (k : Nat) (hk : k < s.size) : (part s k).getD k 0 = (s[k].toNat : Int) := by
  unfold part
  have hl : ((bytesOf s).take k).length = k := by rw [List.length_take, bytesOf_length]; omega
  have hd : k < s.data.size := hk
  have hx : s.data[k]? = some s.data[k] := Array.getElem?_eq_getElem hd
  rw [List.getD, List.getElem?_append_right (by rw [List.length_map, hl]; omega), List.length_map, hl]
  simp [bytesOf, hx]
  rfl
theorem part_succ (s : ByteArray) (k : Nat) (hk : k < s.size) : part s (k + 1) = (part s k).set k (lowI (s[k].toNat : Int)) := by
  have hl : ((bytesOf s).take k).length = k := by rw [List.length_take, bytesOf_length]; omega
  have hb : k < (bytesOf s).length := by rw [bytesOf_length]; exact hk
  have he : (bytesOf s)[k] = (s[k].toNat : Int) := by simp [bytesOf]; rfl
  unfold part
  rw [List.take_succ_eq_append_getElem hb, List.map_append, List.set_append, if_neg (by rw [List.length_map, hl]; omega), List.length_map, hl, List.drop_eq_getElem_cons hb]
  simp [he]
theorem part_keep (s : ByteArray) (k : Nat) (hk : k < s.size) (h : lowI (s[k].toNat : Int) = (s[k].toNat : Int)) : part s (k + 1) = part s k := by
  rw [part_succ s k hk, h]
  have := part_at s k hk
  rw [← this]
  apply List.ext_getElem?
  intro i
  rw [List.getElem?_set]
  split
  · rename_i e
    subst e
    have : k < (part s k).length := by rw [part_length]; exact hk
    simp [this, List.getD]
  · rfl
theorem part_all (s : ByteArray) : strOfNums (part s s.size) = lowerS s := by
  unfold part lowerS
  rw [List.take_of_length_le (by rw [bytesOf_length]; exact Nat.le_refl _), List.drop_eq_nil_of_le (by rw [bytesOf_length]; exact Nat.le_refl _), List.append_nil, ← strOfNums_map s lowB]
  congr 1
  unfold bytesOf
  rw [List.map_map]
  exact List.map_congr_left fun b _ => lowI_toNat b
set_option maxHeartbeats 1000000 in
theorem lower_any (s : ByteArray) (w : World) (hs : s.size ≤ 140737488351232) :
    Calls Try.prog 11 #[.string s] w fun e w' => e = .returned (.string (lowerS s)) ∧ Below w.heap.size w w' := by
  have hcv := fun (W : World) => run_bytes_of_string (P := Try.prog) W 9 31 5 s Try.underlying9 Try.underlying31 Try.underlying5
  go_enter Try.func11, Try.ntmps11
  go_wp2
  have hb0 : RowI (w.alloc (.cells (bytesRow s (grownCap w s.size 0 5)) 5 ((bytesRow s (grownCap w s.size 0 5)).size, (bytesRow s (grownCap w s.size 0 5)).size + 1))).drew w.heap.size (part s 0) := by
    rw [part_zero]
    exact (RowI.of_string w s _ 5 _ (.inl (bytesRow_size _ _))).of_block rfl
  have HB0 := Lib.hid hb0
  clear hb0
  go_loopw [10] (fun i wr => ∃ k : Nat, k ≤ s.size ∧ i = .int .i64 k ∧ Hid (RowI wr w.heap.size (part s k)) ∧ Below w.heap.size w wr) (fun i _ => s.size - (intOf i).toNat)
  case atStart => exact ⟨0, Nat.zero_le _, rfl, HB0, ((Below.refl _ _).alloc (Nat.le_refl _) _).drew⟩
  case round =>
    obtain ⟨k, hk, rfl, HR, hB⟩ := hrel
    clear HB0
    by_cases hlt : k < s.size
    · have hc : wr.cell? ⟨w.heap.size, k, none⟩ = some (.int .u8 (s[k].toNat : Int)) := by rw [HR.out.cell (by rw [part_length]; exact hlt), part_at s k hlt]
      have hf : wr.frozen? ⟨w.heap.size, k, none⟩ = false := HR.out.frozen (by rw [part_length]; exact hlt)
      by_cases hup : 65 ≤ (s[k].toNat : Int) ∧ (s[k].toNat : Int) ≤ 90
      · obtain ⟨h65, h90⟩ := hup
        have HS : Hid (RowI (wr.setCell ⟨w.heap.size, k, none⟩ (.int .u8 ((s[k].toNat : Int) - 65 + 97))) w.heap.size (part s (k + 1))) := by
          have := HR.out.set (j := k) (by rw [part_length]; exact hlt) ((s[k].toNat : Int) - 65 + 97)
          rw [part_succ s k hlt, show lowI (s[k].toNat : Int) = (s[k].toNat : Int) - 65 + 97 from by unfold lowI; rw [if_pos ⟨h65, h90⟩]; omega]
          exact this
        go_wp2
        go_roundw
        case rel => exact ⟨k + 1, by omega, by go_num, HS, hB.setCell (Nat.le_refl _) _⟩
        case measure => simp [intOf]; omega
      · have HS : Hid (RowI wr w.heap.size (part s (k + 1))) := by
          rw [part_keep s k hlt (by unfold lowI; rw [if_neg hup])]
          exact HR.out
        by_cases h65 : 65 ≤ (s[k].toNat : Int)
        · have h90 : ¬ (s[k].toNat : Int) ≤ 90 := fun h => hup ⟨h65, h⟩
          clear hup
          go_wp2
          go_roundw
          case rel => exact ⟨k + 1, by omega, by go_num, HS, hB⟩
          case measure => simp [intOf]; omega
        · clear hup
          go_wp2
          go_roundw
          case rel => exact ⟨k + 1, by omega, by go_num, HS, hB⟩
          case measure => simp [intOf]; omega
    · obtain rfl : k = s.size := by omega
      have hend := run_convert_bytes_arg (P := Try.prog) wr 31 5 Try.underlying31 Try.underlying5 w.heap.size 0 s.size (grownCap w s.size 0 5) (part s s.size) (part_length _ _) (fun i hi => by rw [Nat.zero_add]; exact HR.out.cell (by rw [part_length]; exact hi)) 9 Try.underlying9
      rw [part_all] at hend
      go_wp2
      go_ret
      exact ⟨rfl, hB⟩
set_option maxHeartbeats 1000000 in
theorem refLower_any (s : ByteArray) (w : World) (hs : s.size ≤ 140737488351232) :
    Calls Try.prog 22 #[.string s] w fun e w' => e = .returned (.string (lowerS s)) ∧ Below w.heap.size w w' := by
  have hcv := fun (W : World) => run_bytes_of_string (P := Try.prog) W 9 31 5 s Try.underlying9 Try.underlying31 Try.underlying5
  go_enter Try.func22, Try.ntmps22
  go_wp2
  have hb0 : RowI (w.alloc (.cells (bytesRow s (grownCap w s.size 0 5)) 5 ((bytesRow s (grownCap w s.size 0 5)).size, (bytesRow s (grownCap w s.size 0 5)).size + 1))).drew w.heap.size (part s 0) := by
    rw [part_zero]
    exact (RowI.of_string w s _ 5 _ (.inl (bytesRow_size _ _))).of_block rfl
  have HB0 := Lib.hid hb0
  clear hb0
  go_loopw [4] (fun i wr => ∃ k : Nat, k ≤ s.size ∧ i = .int .i64 k ∧ Hid (RowI wr w.heap.size (part s k)) ∧ Below w.heap.size w wr) (fun i _ => s.size - (intOf i).toNat)
  case atStart => exact ⟨0, Nat.zero_le _, rfl, HB0, ((Below.refl _ _).alloc (Nat.le_refl _) _).drew⟩
  case round =>
    obtain ⟨k, hk, rfl, HR, hB⟩ := hrel
    clear HB0
    by_cases hlt : k < s.size
    · have hc : wr.cell? ⟨w.heap.size, k, none⟩ = some (.int .u8 (s[k].toNat : Int)) := by rw [HR.out.cell (by rw [part_length]; exact hlt), part_at s k hlt]
      have hf : wr.frozen? ⟨w.heap.size, k, none⟩ = false := HR.out.frozen (by rw [part_length]; exact hlt)
      by_cases hup : 65 ≤ (s[k].toNat : Int) ∧ (s[k].toNat : Int) ≤ 90
      · obtain ⟨h65, h90⟩ := hup
        have HS : Hid (RowI (wr.setCell ⟨w.heap.size, k, none⟩ (.int .u8 ((s[k].toNat : Int) + 32))) w.heap.size (part s (k + 1))) := by
          have := HR.out.set (j := k) (by rw [part_length]; exact hlt) ((s[k].toNat : Int) + 32)
          rw [part_succ s k hlt, show lowI (s[k].toNat : Int) = (s[k].toNat : Int) + 32 from if_pos ⟨h65, h90⟩]
          exact this
        go_wp2
        go_roundw
        case rel => exact ⟨k + 1, by omega, by go_num, HS, hB.setCell (Nat.le_refl _) _⟩
        case measure => simp [intOf]; omega
      · have HS : Hid (RowI wr w.heap.size (part s (k + 1))) := by
          rw [part_keep s k hlt (by unfold lowI; rw [if_neg hup])]
          exact HR.out
        by_cases h65 : 65 ≤ (s[k].toNat : Int)
        · have h90 : ¬ (s[k].toNat : Int) ≤ 90 := fun h => hup ⟨h65, h⟩
          clear hup
          go_wp2
          go_roundw
          case rel => exact ⟨k + 1, by omega, by go_num, HS, hB⟩
          case measure => simp [intOf]; omega
        · clear hup
          go_wp2
          go_roundw
          case rel => exact ⟨k + 1, by omega, by go_num, HS, hB⟩
          case measure => simp [intOf]; omega
    · obtain rfl : k = s.size := by omega
      have hend := run_convert_bytes_arg (P := Try.prog) wr 31 5 Try.underlying31 Try.underlying5 w.heap.size 0 s.size (grownCap w s.size 0 5) (part s s.size) (part_length _ _) (fun i hi => by rw [Nat.zero_add]; exact HR.out.cell (by rw [part_length]; exact hi)) 9 Try.underlying9
      rw [part_all] at hend
      go_wp2
      go_ret
      exact ⟨rfl, hB⟩
end Go.Proofs.YtppgoppkciakgaaG
