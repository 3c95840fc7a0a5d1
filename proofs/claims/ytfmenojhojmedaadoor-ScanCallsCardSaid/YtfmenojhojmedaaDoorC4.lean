/- The contract of scan.ReadNumber. -/
import Derived.Test.YtfmenojhojmedaaDoorC3
import Derived.Outline
import Derived.WalkMore
import Derived.Deep.RegionWith
import Derived.BigGuard
set_option linter.unusedVariables false
set_option linter.unusedSimpArgs false
namespace Go.Proofs.YtfmenojhojmedaaDoorG
open Go.RowKit Go.Proofs Go.Proofs.YtfmenojhojmedaaDoorX Go.Proofs.YtfmenojhojmedaaDoorB Go.Proofs.YtfmenojhojmedaaDoorW.PrintWords
/-- The digits' loop: the number so far, whether it is too long, how many digits. -/
def rdLoop : List UInt8 → Int → Bool → Nat → Int × Bool × Nat
  | [], n, long, i => (n, long, i)
  | c :: l, n, long, i => if c.toNat < 48 ∨ 57 < c.toNat then (n, long, i) else if long = true ∨ (9007199254740991 - ((c.toNat : Int) - 48)) / 10 < n then rdLoop l n true (i + 1) else rdLoop l (10 * n + ((c.toNat : Int) - 48)) long (i + 1)
/-- What is told of the digits' text: less is whether there is a sign. -/
def readR (d : List UInt8) (less : Bool) : Int × Int × Int :=
  let r := rdLoop d 0 false 0
  if r.2.2 = 0 ∨ d.head? = some 48 ∧ (1 < r.2.2 ∨ less = true) then (0, 0, 5)
  else if r.2.1 = true then (0, 0, 4)
  else if less = true then (-r.1, r.2.2 + 1, 0) else (r.1, r.2.2, 0)
theorem drop_at {D : ByteArray} {k : Nat} (h : k < D.size) : D.data.toList.drop k = D[k] :: D.data.toList.drop (k + 1) := by
  rw [List.drop_eq_getElem_cons (by rw [size_list]; exact h)]
  rfl
theorem rd_end {D : ByteArray} {k : Nat} {v : Int} {b : Bool} (hk : k ≤ D.size) (h : ¬ k < D.size) : rdLoop (D.data.toList.drop k) v b k = (v, b, k) := by
  rw [List.drop_eq_nil_of_le (by rw [size_list]; omega)]
  rfl
theorem rd_stop {D : ByteArray} {k : Nat} {v : Int} {b : Bool} (h : k < D.size) (hd : D[k].toNat < 48 ∨ 57 < D[k].toNat) : rdLoop (D.data.toList.drop k) v b k = (v, b, k) := by
  rw [drop_at h, rdLoop, if_pos hd]
theorem rd_long {D : ByteArray} {k : Nat} {v : Int} {b : Bool} (h : k < D.size) (hd : ¬ (D[k].toNat < 48 ∨ 57 < D[k].toNat)) (hb : b = true ∨ (9007199254740991 - ((D[k].toNat : Int) - 48)) / 10 < v) : rdLoop (D.data.toList.drop k) v b k = rdLoop (D.data.toList.drop (k + 1)) v true (k + 1) := by
  rw [drop_at h, rdLoop, if_neg hd, if_pos hb]
theorem rd_more {D : ByteArray} {k : Nat} {v : Int} {b : Bool} (h : k < D.size) (hd : ¬ (D[k].toNat < 48 ∨ 57 < D[k].toNat)) (hb : ¬ (b = true ∨ (9007199254740991 - ((D[k].toNat : Int) - 48)) / 10 < v)) : rdLoop (D.data.toList.drop k) v b k = rdLoop (D.data.toList.drop (k + 1)) (10 * v + ((D[k].toNat : Int) - 48)) b (k + 1) := by
  rw [drop_at h, rdLoop, if_neg hd, if_neg hb]
theorem readR_is {D : ByteArray} {k : Nat} {v : Int} {b less : Bool} (h0 : 0 < D.size) (hr : rdLoop D.data.toList 0 false 0 = (v, b, k)) : readR D.data.toList less = if (k : Int) = 0 ∨ (D[0].toNat : Int) = 48 ∧ (1 < (k : Int) ∨ less = true) then (0, 0, 5) else if b = true then (0, 0, 4) else if less = true then (-v, (k : Int) + 1, 0) else (v, (k : Int), 0) := by
  have hh : D.data.toList.head? = some D[0] := by
    have := drop_at h0
    rw [List.drop_zero] at this
    rw [this]
    rfl
  have hc : (D[0] = (48 : UInt8)) ↔ (D[0].toNat : Int) = 48 := by
    constructor
    · intro h; rw [h]; rfl
    · intro h
      have : D[0].toNat = 48 := by omega
      rw [← UInt8.ofNat_toNat (x := D[0]), this]
      rfl
  unfold readR
  rw [hr, hh]
  simp only [Option.some.injEq, hc]
  have e1 : (k = 0) ↔ ((k : Int) = 0) := by omega
  have e2 : (1 < k) ↔ (1 < (k : Int)) := by omega
  simp only [e1, e2]
theorem toList_isE {D : ByteArray} : (D.toList.isEmpty = false) = (0 < D.size) := by
  rw [Lib.toList_data, ← size_list]
  cases D.data.toList <;> simp
set_option maxHeartbeats 4000000 in
set_option maxRecDepth 100000 in
theorem read_any (s D : ByteArray) (less : Bool) (w : World) (hs : s.size ≤ 140737488351232) (hc : Calls Tryd.prog 36 #[.string s, .string ⟨#[45]⟩] w fun e w' => e = .returned (.string D) ∧ w' = w) (hl : decide (D.size < s.size) = less) (hD : D.size ≤ s.size) (h0 : D.toList.isEmpty = false) :
    Calls Tryd.prog 17 #[.string s] w fun e w' => e = .returned (.tuple #[.int .i64 (readR D.data.toList less).1, .int .i64 (readR D.data.toList less).2.1, .int .i64 (readR D.data.toList less).2.2]) ∧ w' = w := by
  have HC := Lib.hid hc
  clear hc
  go_enter Tryd.func17, Tryd.ntmps17
  go_wp2
  go_step3
  go_wp2_with (go_at_call 36; refine HC.out.mono ?_; rintro e w' ⟨rfl, rfl⟩)
  go_step3
  go_wp2
  go_loop [2, 7, 8] (fun n lg i => ∃ (k : Nat) (v : Int) (b : Bool), k ≤ D.size ∧ i = .int .i64 k ∧ n = .int .i64 v ∧ lg = .bool b ∧ 0 ≤ v ∧ v ≤ 9007199254740991 ∧ Hid (rdLoop (D.data.toList.drop k) v b k = rdLoop D.data.toList 0 false 0)) (fun n lg i => D.size - (intOf i).toNat)
  case atStart => exact ⟨0, 0, false, Nat.zero_le _, rfl, rfl, rfl, by decide, by decide, Lib.hid rfl⟩
  case round =>
    obtain ⟨k, v, b, hk, rfl, rfl, rfl, hv0, hv1, HR⟩ := hrel
    have h0s : 0 < D.size := by
      rw [toList_isE] at h0
      exact h0
    by_cases hlt : k < D.size
    · by_cases hd : D[k].toNat < 48 ∨ 57 < D[k].toNat
      · have hrd := readR_is (less := less) h0s (HR.out.symm.trans (rd_stop hlt hd))
        clear HR
        go_wp2
        all_goals (try rw [Exit.noGoto_ret])
        all_goals go_ret3
        all_goals rw [hrd]
        all_goals simp_all
        all_goals (try omega)
        all_goals (rw [if_neg (by omega)]; exact ⟨rfl, rfl, rfl⟩)
      · have hd1 : 48 ≤ D[k].toNat := by omega
        have hd2 : D[k].toNat ≤ 57 := by omega
        have HD := Lib.hid hd
        clear hd
        cases b with
        | true =>
          have hr := HR.out.symm.trans (rd_long hlt HD.out (.inl rfl))
          clear HR
          have HR := Lib.hid hr
          clear hr
          go_wp2
          all_goals (first | (exfalso; omega) | (refine ⟨⟨k + 1, v, true, by omega, by simp, rfl, rfl, hv0, hv1, Lib.hid HR.out.symm⟩, by simp [intOf]; omega⟩))
        | false =>
          by_cases ht : (9007199254740991 - ((D[k].toNat : Int) - 48)) / 10 < v
          · have hr := HR.out.symm.trans (rd_long hlt HD.out (.inr ht))
            clear HR
            have HR := Lib.hid hr
            clear hr
            go_wp2
            all_goals (first | (exfalso; omega) | (refine ⟨⟨k + 1, v, true, by omega, by simp, rfl, rfl, hv0, hv1, Lib.hid HR.out.symm⟩, by simp [intOf]; omega⟩))
          · have hr := HR.out.symm.trans (rd_more hlt HD.out (by simp [ht]))
            clear HR
            have HR := Lib.hid hr
            clear hr
            go_wp2
            all_goals (first | (exfalso; omega) | (refine ⟨⟨k + 1, 10 * v + ((D[k].toNat : Int) - 48), false, by omega, by simp, rfl, rfl, by omega, by omega, Lib.hid HR.out.symm⟩, by simp [intOf]; omega⟩))
    · have hrd := readR_is (less := less) h0s (HR.out.symm.trans (rd_end hk hlt))
      clear HR
      go_wp2
      all_goals (try rw [Exit.noGoto_ret])
      all_goals go_ret3
      all_goals rw [hrd]
      all_goals simp_all
      all_goals (try omega)
      all_goals (rw [if_neg (by omega)]; exact ⟨rfl, rfl, rfl⟩)
end Go.Proofs.YtfmenojhojmedaaDoorG
