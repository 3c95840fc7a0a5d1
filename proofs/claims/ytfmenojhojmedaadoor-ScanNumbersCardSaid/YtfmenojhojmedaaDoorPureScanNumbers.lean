import Derived.Test.YtfmenojhojmedaaDoorPBx2
import Derived.Test.YtfmenojhojmedaaDoorU7
set_option linter.unusedVariables false
set_option linter.unusedSimpArgs false
namespace Go.Proofs.YtfmenojhojmedaaDoor.Pure
open Go.RowKit Go.Lib Go.Proofs.YtfmenojhojmedaaDoor.PB Go.Proofs.YtfmenojhojmedaaDoorG Go.Proofs.YtfmenojhojmedaaDoorX Go.Proofs.YtfmenojhojmedaaDoorV
open Go.Proofs.YtfmenojhojmedaaDoorW.PrintWords hiding encs encs_append
theorem livesB : outlawlaw01_lives.f = some true := by kernel_rfl
theorem num_val {n : Int} (h0 : -9007199254740991 ≤ n) (h1 : n ≤ 9007199254740991) : scan_Number.f n = some (itoaS n, 0) := by
  unfold scan_Number.f strconv_FormatInt.f
  rw [if_neg (by omega), if_neg (by omega), if_pos ⟨by omega, by omega, rfl⟩]
  rfl
theorem num_bad {n : Int} (h : n < -9007199254740991 ∨ 9007199254740991 < n) : scan_Number.f n = some (⟨#[]⟩, 2) := by
  unfold scan_Number.f
  by_cases h0 : n < -9007199254740991
  · rw [if_pos h0]
  · rw [if_neg h0, if_pos (by omega)]
theorem itoaS_small {n : Int} (h0 : -9007199254740991 ≤ n) (h1 : n ≤ 9007199254740991) : (itoaS n).size ≤ 21 := by
  rw [itoaS_size]
  exact itoa_length_le n (by omega) (by omega)
theorem itoaS_inj {m n : Int} (m0 : -9007199254740991 ≤ m) (m1 : m ≤ 9007199254740991) (n0 : -9007199254740991 ≤ n) (n1 : n ≤ 9007199254740991) (h : (itoaS m).toList = (itoaS n).toList) : m = n := by
  rw [toList_data, toList_data] at h
  have e := bytes_ext h
  have hn : NoDigit (⟨#[]⟩ : ByteArray).data.toList := by intro c t h; simp at h
  have k1 := readS_num m0 m1 hn
  have k2 := readS_num n0 n1 hn
  rw [e, k2] at k1
  exact (Prod.mk.inj k1).1.symm
theorem way (a0 a1 : Int) (b : ByteArray) (hb : b.size ≤ 2000) (hd : NoDigit b.data.toList) : Ev (fun k => outlawlaw01_ScanNumbers.j0 k a0 a1 b false) true := by
  refine ⟨2, fun k hk => ?_⟩
  obtain ⟨k, rfl⟩ : ∃ m, k = m + 2 := ⟨k - 2, by omega⟩
  (try dsimp only)
  rw [outlawlaw01_ScanNumbers.j0, if_neg Bool.false_ne_true]
  by_cases h : a1 < -9007199254740991 ∨ 9007199254740991 < a1
  · rw [num_bad h, Option.bind_some]
    have hj : outlawlaw01_ScanNumbers.j1 (k + 1) a0 a1 b (⟨#[]⟩ : ByteArray) 2 true = some true := by
      rw [outlawlaw01_ScanNumbers.j1, if_pos rfl, if_pos rfl, toList_data]
      rfl
    dsimp only
    by_cases h0 : a1 < -9007199254740991
    · rw [if_pos h0, hj]
    · rw [if_neg h0, decide_eq_true (by omega), hj]
  · have h0 : -9007199254740991 ≤ a1 := by omega
    have h1 : a1 ≤ 9007199254740991 := by omega
    have hs := itoaS_small h0 h1
    have hr : scan_ReadNumber.f (itoaS a1 ++ b) = some (a1, ((itoaS a1).size : Int), 0) := by
      unfold scan_ReadNumber.f
      rw [if_pos (by rw [ByteArray.size_append]; omega), readS_num h0 h1 hd]
    rw [num_val h0 h1, Option.bind_some]
    dsimp only
    rw [if_neg (by omega), decide_eq_false (by omega), outlawlaw01_ScanNumbers.j1, if_neg Bool.false_ne_true]
    by_cases g : a0 < -9007199254740991 ∨ 9007199254740991 < a0
    · rw [num_bad g, Option.bind_some, if_pos (by omega), hr, Option.bind_some]
      dsimp only
      rw [if_pos rfl, if_pos rfl, if_pos rfl, if_pos rfl, if_neg (by decide)]
    · have g0 : -9007199254740991 ≤ a0 := by omega
      have g1 : a0 ≤ 9007199254740991 := by omega
      rw [num_val g0 g1, Option.bind_some, if_pos (by omega), hr, Option.bind_some]
      dsimp only
      rw [if_pos rfl, if_pos rfl, if_pos rfl, if_pos rfl, if_pos rfl]
      by_cases c : a0 = a1
      · subst c
        simp
      · have c2 : ¬ (itoaS a1).toList = (itoaS a0).toList := fun e => c (itoaS_inj h0 h1 g0 g1 e).symm
        rw [beq_eq_false_iff_ne.2 c2, beq_eq_false_iff_ne.2 c]
        rfl
theorem ScanNumbers : outlawlaw01_ScanNumbers.Pure := by
  intro a0 a1 b _ _ _
  refine Ev.rounds (g := fun k => outlawlaw01_ScanNumbers.f k a0 a1 b) ?_
  have out : Ev (fun k => outlawlaw01_ScanNumbers.j0 k a0 a1 b true) true := by
    refine ⟨1, fun k hk => ?_⟩
    obtain ⟨k, rfl⟩ : ∃ m, k = m + 1 := ⟨k - 1, by omega⟩
    (try dsimp only)
    rw [outlawlaw01_ScanNumbers.j0, if_pos rfl]
  have hf : ∀ k, outlawlaw01_ScanNumbers.f k a0 a1 b = if (b.size : Int) > 2000 then (outlawlaw01_ScanNumbers.j0 k a0 a1 b true) else (if b.toList = ([] : List UInt8) then (outlawlaw01_ScanNumbers.j0 k a0 a1 b false) else (if 0 < (b.size : Int) then (if (bt b 0) ≥ 48 then (outlawlaw01_ScanNumbers.j0 k a0 a1 b (decide ((bt b 0) ≤ 57))) else (outlawlaw01_ScanNumbers.j0 k a0 a1 b false)) else (none))) := fun k => by
    unfold outlawlaw01_ScanNumbers.f
    rw [livesB, Option.bind_some]
    exact if_pos rfl
  by_cases c1 : (b.size : Int) > 2000
  · exact Ev.congr (fun k => by rw [hf, if_pos c1]) out
  by_cases c2 : b.toList = ([] : List UInt8)
  · refine Ev.congr (fun k => by rw [hf, if_neg c1, if_pos c2]) (way a0 a1 b (by omega) ?_)
    rw [toList_data] at c2
    rw [c2]
    intro c t h
    simp at h
  have hpos : 0 < b.size := by
    rw [toList_data] at c2
    rw [← size_list]
    exact List.length_pos_iff.2 c2
  have hhead : ∀ c t, b.data.toList = c :: t → bt b 0 = (c.toNat : Int) := by
    intro c t e
    have h1 := bt_nat hpos
    have h2 := bt_list hpos
    rw [e] at h2
    rw [show ((0 : Nat) : Int) = 0 from rfl] at h1
    rw [h1]
    simp only [List.getElem?_cons_zero, Option.some.injEq] at h2
    rw [h2]
  by_cases c3 : bt b 0 ≥ 48
  · by_cases c4 : bt b 0 ≤ 57
    · exact Ev.congr (fun k => by rw [hf, if_neg c1, if_neg c2, if_pos (by omega), if_pos c3, decide_eq_true c4]) out
    · refine Ev.congr (fun k => by rw [hf, if_neg c1, if_neg c2, if_pos (by omega), if_pos c3, decide_eq_false c4]) (way a0 a1 b (by omega) ?_)
      intro c t e
      have := hhead c t e
      omega
  · refine Ev.congr (fun k => by rw [hf, if_neg c1, if_neg c2, if_pos (by omega), if_neg c3]) (way a0 a1 b (by omega) ?_)
    intro c t e
    have := hhead c t e
    omega
end Go.Proofs.YtfmenojhojmedaaDoor.Pure
