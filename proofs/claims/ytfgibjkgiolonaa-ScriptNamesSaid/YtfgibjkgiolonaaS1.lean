/- script.wrong: what is wrong with a step. -/
import Derived.Test.YtfgibjkgiolonaaPAx0
import Derived.Test.YtfgibjkgiolonaaG2
import Derived.Outline
set_option linter.unusedVariables false
set_option linter.unusedSimpArgs false
namespace Go.Proofs.YtfgibjkgiolonaaS
open Go.RowKit Go.Proofs.YtfgibjkgiolonaaW.PrintWords Go.Proofs.YtfgibjkgiolonaaW.PrintLast Go.Proofs.YtfgibjkgiolonaaW.PrintMore Go.Proofs.YtfgibjkgiolonaaG Go.Proofs.YtfgibjkgiolonaaX
def badCut (n : Int) : Bool := decide (n < 0) || decide (n > 600)
theorem cut_any (n : Int) (w : World) : Calls Try.prog 48 #[.int .i64 n] w fun e w' => e = .returned (.bool (badCut n)) ∧ w = w' := by
 go_enter Try.func48, Try.ntmps48
 go_wp2
 all_goals
  go_ret
  refine ⟨?_, rfl⟩
  simp_all [badCut]
theorem at_int {w : World} {A : Option Addr} {n : Nat} {xs : List Int} (h : Kd.C (Kd.int .i64) w A n xs) (i : Nat) (hi : i < n) : ∃ ad, A = some ad ∧ w.cell? (ad.add i) = some (.int .i64 (xs.getD i 0)) := by
 obtain ⟨ad, c, hA, hl, hK, hc⟩ := Kd.C_get h 0 (i : Int) (by omega) (by omega)
 obtain rfl : c = [.int .i64 (xs.getD i 0)] := hK
 have h0 := hc 0 _ rfl
 refine ⟨ad, hA, ?_⟩
 have e : (i : Int).toNat * (Kd.int .i64).sz + 0 = i := by show (i : Int).toNat * 1 + 0 = i; omega
 rw [e] at h0
 exact h0
def Found (l : List Int) (w : World) (e : Ending) (w' : World) : Prop := ∃ r : Int, e = .returned (.int .i64 r) ∧ w = w' ∧ decide (r ≥ 0) = l.any badCut
set_option maxHeartbeats 1000000 in
theorem index_any (A : Option Addr) (c : Nat) (l : List Int) (w : World) (hr : Kd.C (Kd.int .i64) w A l.length l) (hl : l.length ≤ 1000000000000) :
  Calls Try.prog 67 #[.slice A l.length c, .func (.func 48) #[] #[]] w (Found l w) := by
 have HR := Lib.hid hr
 clear hr
 go_enter Try.func67, Try.ntmps67
 go_wp2
 go_loop [8] (fun i => ∃ k : Nat, k ≤ l.length ∧ i = .int .i64 k ∧ Hid ((l.take k).any badCut = false)) (fun i => l.length - (intOf i).toNat)
 case atStart => exact ⟨0, Nat.zero_le _, rfl, Lib.hid rfl⟩
 case round =>
  obtain ⟨k, hk, rfl, HP⟩ := hrel
  by_cases hlt : k < l.length
  ·obtain ⟨ad, hA, hcell⟩ := at_int HR.out k hlt
   subst hA
   have hts : l.take (k + 1) = l.take k ++ [l.getD k 0] := by
    rw [List.take_succ_eq_append_getElem hlt]
    simp [List.getD_eq_getElem?_getD, List.getElem?_eq_getElem hlt]
   have HN : Hid ((l.take (k + 1)).any badCut = badCut (l.getD k 0)) := Lib.hid (by rw [hts, List.any_append, HP.out]; simp)
   have HM := Lib.hid (show badCut (l.getD k 0) = true → l.any badCut = true from fun h => by
    rw [← List.take_append_drop (k + 1) l, List.any_append, HN.out, h]; rfl)
   clear hts
   obtain ⟨x, hx⟩ : ∃ x, x = l.getD k 0 := ⟨_, rfl⟩
   rw [← hx] at hcell
   have HX := Lib.hid hx
   clear hx
   by_cases hb : badCut x = true
   ·go_wp2_with (go_at_call 48; refine (cut_any _ _).mono ?_; rintro e w' ⟨rfl, rfl⟩)
    go_ret
    exact ⟨k, rfl, rfl, by rw [HM.out (by rw [← HX.out]; exact hb)]; simp⟩
   ·have hb' : badCut x = false := by simpa using hb
    clear hb
    go_wp2_with (go_at_call 48; refine (cut_any _ _).mono ?_; rintro e w' ⟨rfl, rfl⟩)
    go_round
    case rel => exact ⟨k + 1, by omega, by go_num, Lib.hid (by rw [HN.out, ← HX.out]; exact hb')⟩
    case measure => simp [intOf]; omega
  ·go_wp2
   go_ret
   obtain rfl : k = l.length := by omega
   exact ⟨-1, rfl, rfl, by have := HP.out; rw [List.take_length] at this; rw [this]; simp⟩
def errCuts (crash : Bool) (l : List Int) : Int := if crash = false ∧ 0 < l.length then 2 else if 16 < l.length then 4 else if l.any badCut = true then 2 else 0
theorem contains_any (A : Option Addr) (c : Nat) (l : List Int) (w : World) (hr : Kd.C (Kd.int .i64) w A l.length l) (hl : l.length ≤ 1000000000000) :
  Calls Try.prog 47 #[.slice A l.length c, .func (.func 48) #[] #[]] w fun e w' => e = .returned (.bool (l.any badCut)) ∧ w = w' := by
 have HR := Lib.hid hr
 clear hr
 go_enter Try.func47, Try.ntmps47
 go_wp2_with (go_at_call 67; refine (index_any A c l w HR.out hl).mono ?_; rintro e w' ⟨r, rfl, rfl, hr2⟩)
 go_ret
 exact ⟨rfl, rfl⟩
theorem record_check (k c n : Int) (ok : Bool) (t : ByteArray) (w : World) : Calls Try.prog 46 #[.agg #[.int .i64 k, .int .i64 c, .int .i64 n, .bool ok, .string t]] w fun e w' => e = .returned (.int .i64 (checkI k c n ok t)) ∧ Below w.heap.size w w' := record_Check.calls k c n ok t _ w rfl
def wrongI (cr : Bool) (k c n : Int) (ok : Bool) (t : ByteArray) (l : List Int) : Int := if checkI k c n ok t = 0 then errCuts cr l else checkI k c n ok t
set_option maxHeartbeats 4000000 in
theorem wrong_err (cr : Bool) (k c n : Int) (ok : Bool) (t : ByteArray) (A : Option Addr) (cap : Nat) (l : List Int) (w : World) (x : Int) (hx : x = checkI k c n ok t) (h : (x != 0) = true) :
  Calls Try.prog 26 #[.agg #[.bool cr, .int .i64 k, .int .i64 c, .int .i64 n, .bool ok, .string t, .slice A l.length cap]] w fun e w' => e = .returned (.int .i64 x) ∧ Below w.heap.size w w' := by
 have HX := Lib.hid hx
 clear hx
 go_enter Try.func26, Try.ntmps26
 go_wp2_with fail
 refine (record_check k c n ok t _).mono ?_
 rintro e w1 ⟨rfl, hb1⟩
 rw [← HX.out]
 have HB := Lib.hid hb1
 clear hb1
 go_wp2_with fail
 go_ret
 exact ⟨rfl, ((Below.refl _ w).alloc (Nat.le_refl _) _).trans (HB.out.mono (by simp))⟩
set_option maxHeartbeats 4000000 in
theorem wrong_cuts (cr : Bool) (k c n : Int) (ok : Bool) (t : ByteArray) (A : Option Addr) (cap : Nat) (l : List Int) (w : World) (x : Int) (hx : x = checkI k c n ok t) (h : (x != 0) = false) (hr : Kd.C (Kd.int .i64) w A l.length l) (hl : l.length ≤ 1000000000000) :
  Calls Try.prog 26 #[.agg #[.bool cr, .int .i64 k, .int .i64 c, .int .i64 n, .bool ok, .string t, .slice A l.length cap]] w fun e w' => e = .returned (.int .i64 (errCuts cr l)) ∧ Below w.heap.size w w' := by
 have HX := Lib.hid hx
 clear hx
 have HN := Lib.hid (Blk.new w #[.bool cr, .int .i64 k, .int .i64 c, .int .i64 n, .bool ok, .string t, .slice A l.length cap] 45)
 have HA := Lib.hid ((Below.refl _ w).alloc (Nat.le_refl _) (.cells #[.bool cr, .int .i64 k, .int .i64 c, .int .i64 n, .bool ok, .string t, .slice A l.length cap] 45))
 have HR := Lib.hid hr
 clear hr
 go_enter Try.func26, Try.ntmps26
 go_wp2_with fail
 refine (record_check k c n ok t _).mono ?_
 rintro e w1 ⟨rfl, hb1⟩
 rw [← HX.out]
 have HK := Lib.hid (HN.out.below hb1 HN.out.lt)
 have HB := Lib.hid (HA.out.trans (hb1.mono HA.out.size))
 clear hb1
 have c0 := HK.out.cell 0
 have c6 := HK.out.cell 6
 simp at c0 c6
 have HC := Lib.hid (Kd.C_below HR.out HB.out)
 by_cases h1 : cr = false ∧ 0 < l.length
 ·have HE := Lib.hid (show errCuts cr l = 2 by unfold errCuts; rw [if_pos h1])
  obtain ⟨rfl, h1⟩ := h1
  have hd : decide ((l.length : Int) > 0) = true := by simpa using h1
  go_wp2_with fail
  go_ret
  exact ⟨by rw [HE.out]; rfl, HB.out⟩
 by_cases h2 : 16 < l.length
 ·have HE := Lib.hid (show errCuts cr l = 4 by unfold errCuts; rw [if_neg h1, if_pos h2])
  obtain rfl : cr = true := by cases cr; exact absurd ⟨rfl, by omega⟩ h1; rfl
  clear h1
  go_wp2_with fail
  go_ret
  exact ⟨by rw [HE.out]; rfl, HB.out⟩
 have HE := Lib.hid (show errCuts cr l = if l.any badCut = true then 2 else 0 by unfold errCuts; rw [if_neg h1, if_neg h2])
 cases cr with
 | true =>
  clear h1
  go_wp2_with (go_at_call 47; refine (contains_any A cap l w1 HC.out hl).mono ?_; rintro e w' ⟨rfl, rfl⟩)
  all_goals
   go_ret
   refine ⟨?_, HB.out⟩
   rw [HE.out]
   first | rfl | simp_all
 | false =>
  have h0 : ¬ 0 < l.length := fun h => h1 ⟨rfl, h⟩
  have hd : decide ((l.length : Int) > 0) = false := decide_eq_false (by omega)
  clear h1
  go_wp2_with (go_at_call 47; refine (contains_any A cap l w1 HC.out hl).mono ?_; rintro e w' ⟨rfl, rfl⟩)
  all_goals
   go_ret
   refine ⟨?_, HB.out⟩
   rw [HE.out]
   first | rfl | simp_all
def script_wrong.f (cr : Bool) (k c n : Int) (ok : Bool) (t : ByteArray) (l : List Int) : Option Int := if l.length ≤ 1000000000000 then some (wrongI cr k c n ok t l) else none
theorem script_wrong.calls (a0_0 : Bool) (a0_1 a0_2 a0_3 : Int) (a0_4 : Bool) (a0_5 : ByteArray) (A0_6 : Option Addr) (c0_6 : Nat) (l0_6 : List Int) (r : Int) (w : World) (hr0_6 : Kd.C (Kd.int .i64) w A0_6 l0_6.length l0_6) (hc0_6 : l0_6.length ≤ c0_6) (h : script_wrong.f a0_0 a0_1 a0_2 a0_3 a0_4 a0_5 l0_6 = some r) :
  Calls Try.prog 26 #[.agg #[.bool a0_0, .int .i64 a0_1, .int .i64 a0_2, .int .i64 a0_3, .bool a0_4, .string a0_5, .slice A0_6 l0_6.length c0_6]] w fun e w' => e = .returned (.int .i64 r) ∧ Below w.heap.size w w' := by
 unfold script_wrong.f at h
 by_cases hl : l0_6.length ≤ 1000000000000
 ·rw [if_pos hl] at h
  obtain rfl := Option.some.inj h
  by_cases hx : checkI a0_1 a0_2 a0_3 a0_4 a0_5 = 0
  ·have : wrongI a0_0 a0_1 a0_2 a0_3 a0_4 a0_5 l0_6 = errCuts a0_0 l0_6 := by unfold wrongI; rw [if_pos hx]
   rw [this]
   exact wrong_cuts a0_0 a0_1 a0_2 a0_3 a0_4 a0_5 A0_6 c0_6 l0_6 w _ rfl (by rw [hx]; rfl) hr0_6 hl
  ·have : wrongI a0_0 a0_1 a0_2 a0_3 a0_4 a0_5 l0_6 = checkI a0_1 a0_2 a0_3 a0_4 a0_5 := by unfold wrongI; rw [if_neg hx]
   rw [this]
   exact wrong_err a0_0 a0_1 a0_2 a0_3 a0_4 a0_5 A0_6 c0_6 l0_6 w _ rfl (by simpa using hx)
 ·rw [if_neg hl] at h
  simp at h
end Go.Proofs.YtfgibjkgiolonaaS
