/- The document's log (outlawref20): Big, sector, Of, Need. -/
import Derived.Test.YtbbnjnpbaekfgaaRd
set_option linter.unusedVariables false
set_option linter.unusedSimpArgs false
namespace Go.Proofs.YtbbnjnpbaekfgaaM
open Go.RowKit Go.Proofs.YtbbnjnpbaekfgaaW.PrintMore
attribute [local go_sem ↓] exec_conv
theorem be_get : ∀ (j n k : Nat), k < j → (be j n)[k]? = some (UInt8.ofNat (n / 256 ^ (j - 1 - k)))
  | 0, _, _, h => by omega
  | j + 1, n, 0, _ => by simp [be]
  | j + 1, n, k + 1, h => by
    simp only [be, List.getElem?_cons_succ]
    rw [be_get j n k (by omega)]
    congr 4
    omega
def bigK (n k : Nat) : List Value := byteCells ((be 8 n).take k ++ zeros (8 - k))
theorem bigK_len (n k : Nat) (h : k ≤ 8) : (bigK n k).length = 8 := by
  unfold bigK
  rw [byteCells_length, List.length_append, List.length_take, be_length, zeros_length]
  omega
theorem bigK_set (n k : Nat) (h : k < 8) : (bigK n k).set k (.int .u8 ((UInt8.ofNat (n / 256 ^ (7 - k))).toNat : Int)) = bigK n (k + 1) := by
  apply List.ext_getElem?
  intro i
  have hl := bigK_len n k (by omega)
  have hb := be_length 8 n
  unfold bigK byteCells at *
  by_cases e : k = i
  · subst e
    rw [List.getElem?_set_self (by rw [hl]; omega), List.getElem?_map, List.getElem?_append_left (by rw [List.length_take]; omega), List.getElem?_take, if_pos (by omega), be_get 8 n k h]
    rfl
  · rw [List.getElem?_set_ne e, List.getElem?_map, List.getElem?_map]
    congr 1
    by_cases h1 : i < k
    · rw [List.getElem?_append_left (by rw [List.length_take]; omega), List.getElem?_append_left (by rw [List.length_take]; omega), List.getElem?_take, List.getElem?_take, if_pos h1, if_pos (by omega)]
    · rw [List.getElem?_append_right (by rw [List.length_take]; omega), List.getElem?_append_right (by rw [List.length_take]; omega), List.length_take, List.length_take, hb]
      unfold zeros
      rw [List.getElem?_replicate, List.getElem?_replicate]
      by_cases h2 : i < 8
      · rw [if_pos (by omega), if_pos (by omega)]
      · rw [if_neg (by omega), if_neg (by omega)]
set_option maxHeartbeats 1000000 in
theorem big_ok (n : Nat) (hn : n < 18446744073709551616) (w : World) :
    Calls Try.prog 69 #[.int .u64 (n : Int)] w fun e w' => e = .returned (.string (bs (be 8 n))) ∧ Below w.heap.size w w' := by
  have hmk := run_makeB w 8 (by decide)
  go_enter Try.func69, Try.ntmps69
  go_wp2_with (at_make; refine wpList_makes rfl _ _ _ rfl _ _ hmk ?_)
  clear hmk
  have HB0 := Lib.hid (show Blk (w.alloc (.cells (byteCells (zeros 8)).toArray 5)) w.heap.size (bigK n 0) 5 from Blk.new w _ 5)
  go_loopw [4] (fun iv wr => ∃ k : Nat, k ≤ 8 ∧ iv = .int .i64 (k : Int) ∧ Hid (Blk wr w.heap.size (bigK n k) 5) ∧ Hid (Below w.heap.size w wr)) (fun iv _ => 8 - (intOf iv).toNat)
  case atStart => exact ⟨0, by omega, rfl, HB0.out, (Below.refl _ _).alloc (Nat.le_refl _) _⟩
  case round =>
    obtain ⟨k, hk, rfl, HK, HW⟩ := hrel
    by_cases hlt : k < 8
    · have hk' : (k : Int) < 8 := by omega
      have hsh := shr_byte n (7 - k)
      obtain ⟨x, hx⟩ : ∃ x, (bigK n k)[k]? = some x := ⟨_, List.getElem?_eq_getElem (by rw [bigK_len _ _ (by omega)]; exact hlt)⟩
      have hc := (HK.out.cell k).trans hx
      have hf := HK.out.frozen k
      have hs1 : (56 : Int) - 8 * (k : Int) = ((8 * (7 - k) : Nat) : Int) := by omega
      have HS := Lib.hid hsh
      clear hx hsh
      go_wp2
      go_roundw
      case rel =>
        refine ⟨k + 1, by omega, by go_num, ?_, ?_⟩
        · show Blk _ _ _ _
          rw [HS.out, ← bigK_set n k hlt]
          exact HK.out.set _ _
        · exact HW.out.setCell (p := ⟨w.heap.size, k, none⟩) (Nat.le_refl _) _
      case measure => simp [intOf]; omega
    · have hk' : ¬ (k : Int) < 8 := by omega
      obtain rfl : k = 8 := by omega
      have hcv := conv_cells (w := wr) (a := ⟨w.heap.size, 0, none⟩) (l := be 8 n) (c := 8) fun j u hu => by
        rw [addr_add, Nat.zero_add, HK.out.cell]
        unfold bigK
        rw [List.take_of_length_le (by rw [be_length]; omega)]
        simpa [zeros] using hu
      rw [be_length] at hcv
      go_wp2_with fail
      go_ret
      exact ⟨rfl, HW.out⟩
theorem rneed_ok (m : Nat) (h : m ≤ 4400) (w : World) : Calls Try.prog 33 #[.int .i64 (m : Int)] w fun e w' => e = .returned (.int .i64 (needN m : Int)) ∧ w = w' := by
  have h0 : ¬ ((m : Int) < 0) := by omega
  have h1 : ¬ (4400 < (m : Int)) := by omega
  have hd0 : decide ((m : Int) < 0) = false := decide_eq_false h0
  have hd1 : decide (4400 < (m : Int)) = false := decide_eq_false h1
  have hm0 : (0 : Int) ≤ m := by omega
  have hm1 : (m : Int) ≤ 4400 := by omega
  have hn := need_eq m
  go_enter Try.func33, Try.ntmps33
  go_wp2
  go_ret
  exact ⟨rfl, rfl⟩
theorem rneed_no (m : Int) (h : m < 0 ∨ 4400 < m) (w : World) : Calls Try.prog 33 #[.int .i64 m] w fun e w' => e = .returned (.int .i64 0) ∧ w = w' := by
  rcases h with h | h
  · have hd0 : decide (m < 0) = true := by simpa using h
    go_enter Try.func33, Try.ntmps33
    go_wp2
    go_ret
    exact ⟨rfl, rfl⟩
  · have hd0 : decide (m < 0) = false := by rw [decide_eq_false_iff_not]; omega
    have hd1 : decide (4400 < m) = true := by simpa using h
    go_enter Try.func33, Try.ntmps33
    go_wp2
    go_ret
    exact ⟨rfl, rfl⟩
theorem nought_at (m : Nat) (h : m ≤ 493) (w : World) : Calls Try.prog 58 #[.int .i64 (493 - (m : Int))] w fun e w' => e = .returned (.string (bs (zeros (493 - m)))) ∧ Below w.heap.size w w' := by
  have := noughtS (493 - m) (by omega) w
  rw [show ((493 - m : Nat) : Int) = 493 - (m : Int) by omega] at this
  exact this
theorem sector_str (a : Nat) (l : Bool) (p : List UInt8) (hp : p.length ≤ 493) (B C Z : List UInt8) (hB : B = be 8 (a + 1)) (hC : C = be 2 p.length) (hZ : Z = zeros (493 - p.length)) : ∃ X1 X2 X3 X4 : List UInt8,
    bs B ++ bs [if l then 1 else 0] = bs X1 ∧ bs X1 ++ bs C = bs X2 ∧ bs X2 ++ bs p = bs X3 ∧ bs X3 ++ bs Z = bs X4 ∧ bs X4 ++ bs B = bs (secF a l p) ∧
    (bs B).size = 8 ∧ (bs C).size = 2 ∧ (bs Z).size ≤ 493 ∧ (bs X1).size = 9 ∧ (bs X2).size = 11 ∧ (bs X3).size ≤ 504 ∧ (bs X4).size ≤ 504 := by
  subst hB hC hZ
  refine ⟨_, _, _, _, bs_append _ _, bs_append _ _, bs_append _ _, bs_append _ _, ?_, ?_⟩
  · rw [bs_append]
    unfold secF
    congr 1
    simp
  · refine ⟨?_, ?_, ?_, ?_, ?_, ?_, ?_⟩ <;> simp only [bs_size, List.length_append, be_length, zeros_length, List.length_cons, List.length_nil] <;> omega
attribute [local go_sem] max2_int min2_int max_two min_two
theorem conv_2 (m : Nat) (hm : m ≤ 65535) (w : World) : (ConvVia (.slice (some ⟨w.heap.size, 0, none⟩) 2 2)).run Try.prog (w.alloc (.cells #[.int .u8 ((m : Int) / 256), .int .u8 ((m : Int) % 256)] 5)) = .ok (.value (.string (bs (be 2 m)))) (w.alloc (.cells #[.int .u8 ((m : Int) / 256), .int .u8 ((m : Int) % 256)] 5)) := by
  have e0 : (Value.int .u8 ((m : Int) / 256)) = .int .u8 ((UInt8.ofNat (m / 256 ^ 1)).toNat : Int) := by
    congr 1
    simp
    omega
  have e1 : (Value.int .u8 ((m : Int) % 256)) = .int .u8 ((UInt8.ofNat (m / 256 ^ 0)).toNat : Int) := by
    congr 1
    simp
  rw [e0, e1]
  have := conv_cells (w := w.alloc (.cells (byteCells (be 2 m)).toArray 5)) (a := ⟨w.heap.size, 0, none⟩) (l := be 2 m) (c := 2) fun j u hu => by
    rw [addr_add, Nat.zero_add, (Blk.new w (byteCells (be 2 m)) 5).cell]
    exact hu
  rw [be_length] at this
  exact this
set_option maxRecDepth 100000 in
set_option maxHeartbeats 1000000 in
theorem sector_ok (x : Int) (a : Nat) (ha : a + 1 < 18446744073709551616) (hx : IntKind.u64.wrap x = (a : Int)) (l : Bool) (p : List UInt8) (hp : p.length ≤ 493) (w : World) :
    Calls Try.prog 57 #[.int .i64 x, .bool l, .string (bs p)] w fun e w' => e = .returned (.string (bs (secF a l p))) ∧ Below w.heap.size w w' := by
  have hsz : (bs p).size = p.length := bs_size p
  have hw1 : IntKind.u64.wrap ((a : Int) + 1) = (a : Int) + 1 := IntWalk.u64_in _ (by omega)
  have hpi : (p.length : Int) ≤ 493 := by omega
  have hp0 : (0 : Int) ≤ (p.length : Int) := by omega
  have hcv := conv_2 p.length (by omega) w
  have HBG := Lib.hid (show ∀ w, Calls Try.prog 69 #[.int .u64 ((a : Int) + 1)] w fun e w' => e = .returned (.string (bs (be 8 (a + 1)))) ∧ Below w.heap.size w w' from fun w => big_ok (a + 1) ha w)
  obtain ⟨B, hB⟩ : ∃ B, B = be 8 (a + 1) := ⟨_, rfl⟩
  obtain ⟨C, hC⟩ : ∃ C, C = be 2 p.length := ⟨_, rfl⟩
  obtain ⟨Z, hZ⟩ : ∃ Z, Z = zeros (493 - p.length) := ⟨_, rfl⟩
  have HNZ := Lib.hid (show ∀ w, Calls Try.prog 58 #[.int .i64 (493 - (p.length : Int))] w fun e w' => e = .returned (.string (bs Z)) ∧ Below w.heap.size w w' from fun w => by rw [hZ]; exact nought_at p.length hp w)
  rw [← hB] at HBG
  rw [← hC] at hcv
  obtain ⟨X1, X2, X3, X4, g1, g2, g3, g4, g5, s0, sc, sz, s1, s2, s3, s4⟩ := sector_str a l p hp B C Z hB hC hZ
  obtain ⟨S, hS⟩ : ∃ S, S = secF a l p := ⟨_, rfl⟩
  rw [← hS] at g5 ⊢
  clear hB hC hZ hS
  go_enter Try.func57, Try.ntmps57
  cases l
  · have g1 : bs B ++ (⟨#[0]⟩ : ByteArray) = bs X1 := g1
    go_wp2_with fail
    refine (HBG.out _).mono ?_
    rintro e w1 ⟨rfl, hb1⟩
    have HB1 := Lib.hid (((Below.refl w.heap.size w).alloc (Nat.le_refl _) (.cells #[Value.int .u8 ((p.length : Int) / 256), Value.int .u8 ((p.length : Int) % 256)] 5)).trans (hb1.mono (by simp)))
    clear hb1 hcv
    go_wp2_with fail
    refine (HNZ.out _).mono ?_
    rintro e w2 ⟨rfl, hb2⟩
    have HB2 := Lib.hid (HB1.out.trans (hb2.mono HB1.out.size))
    clear hb2
    go_wp2_with fail
    refine (HBG.out _).mono ?_
    rintro e w3 ⟨rfl, hb3⟩
    have HB3 := Lib.hid (HB2.out.trans (hb3.mono HB2.out.size))
    clear hb3
    go_wp2_with fail
    go_ret
    exact ⟨rfl, HB3.out⟩
  · have g1 : bs B ++ (⟨#[1]⟩ : ByteArray) = bs X1 := g1
    go_wp2_with fail
    refine (HBG.out _).mono ?_
    rintro e w1 ⟨rfl, hb1⟩
    have HB1 := Lib.hid (((Below.refl w.heap.size w).alloc (Nat.le_refl _) (.cells #[Value.int .u8 ((p.length : Int) / 256), Value.int .u8 ((p.length : Int) % 256)] 5)).trans (hb1.mono (by simp)))
    clear hb1 hcv
    go_wp2_with fail
    refine (HNZ.out _).mono ?_
    rintro e w2 ⟨rfl, hb2⟩
    have HB2 := Lib.hid (HB1.out.trans (hb2.mono HB1.out.size))
    clear hb2
    go_wp2_with fail
    refine (HBG.out _).mono ?_
    rintro e w3 ⟨rfl, hb3⟩
    have HB3 := Lib.hid (HB2.out.trans (hb3.mono HB2.out.size))
    clear hb3
    go_wp2_with fail
    go_ret
    exact ⟨rfl, HB3.out⟩
end Go.Proofs.YtbbnjnpbaekfgaaM
