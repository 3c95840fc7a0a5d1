import Derived.Test.YtfgibjkgiolonaaSa
import Derived.Test.YtfgibjkgiolonaaPAx1
import Derived.Test.YtfgibjkgiolonaaPQx1
import Derived.Test.YtfgibjkgiolonaaS6
set_option linter.unusedVariables false
set_option linter.unusedSimpArgs false
namespace Go.Proofs.YtfgibjkgiolonaaS
open Go.RowKit Go.Proofs.YtfgibjkgiolonaaW.PrintWords Go.Proofs.YtfgibjkgiolonaaW.PrintLast Go.Proofs.YtfgibjkgiolonaaW.PrintMore Go.Proofs.YtfgibjkgiolonaaX Go.Proofs.Ytfgibjkgiolonaa.PA Go.Proofs.YtfgibjkgiolonaaG
open Go.Proofs.Ytfgibjkgiolonaa.PQ (slices_Equal_int_int.f slices_Equal_int_int.l0 slices_Equal_int_int.calls)
attribute [local go_sem high] eqA42
theorem eql_loop (l m : List Int) (h : l.length = m.length) (hl : l.length ≤ 1000000000000) : ∀ (d q i : Nat), l.length - i = d → i ≤ l.length → slices_Equal_int_int.l0 (q + d + 1) l m (l.length : Int) (i : Int) = some (l.drop i == m.drop i) := by
 intro d
 induction d with
 | zero =>
  intro q i hd hi
  obtain rfl : i = l.length := by omega
  simp only [slices_Equal_int_int.l0]
  rw [if_neg (by omega), List.drop_length, h, List.drop_length]
  rfl
 | succ d ih =>
  intro q i hd hi
  have hlt : i < l.length := by omega
  have hlt2 : i < m.length := by omega
  rw [show q + (d + 1) + 1 = (q + d + 1) + 1 by omega, slices_Equal_int_int.l0]
  have r1 : rd l (i : Int) = l[i] := by unfold rd; simp [List.getD_eq_getElem?_getD, List.getElem?_eq_getElem hlt]
  have r2 : rd m (i : Int) = m[i] := by unfold rd; simp [List.getD_eq_getElem?_getD, List.getElem?_eq_getElem hlt2]
  rw [if_pos (by omega), if_pos (by omega), if_pos (by omega), if_pos (by omega), r1, r2, List.drop_eq_getElem_cons hlt, List.drop_eq_getElem_cons hlt2]
  by_cases hv : l[i] = m[i]
  ·rw [if_pos hv, show wrap64 ((i : Int) + 1) = ((i + 1 : Nat) : Int) by unfold wrap64; omega, ih q (i + 1) (by omega) (by omega)]
   congr 1
   rw [hv]
   simp only [List.cons_beq_cons, beq_self_eq_true, Bool.true_and]
  ·rw [if_neg hv]
   congr 1
   symm
   rw [beq_eq_false_iff_ne]
   intro he
   injection he with h1 h2
   exact hv h1
theorem eql_val (l m : List Int) (hl : l.length ≤ 1000000000000) : slices_Equal_int_int.f (l.length + 1) l m = some (l == m) := by
 unfold slices_Equal_int_int.f
 by_cases h : l.length = m.length
 ·rw [if_pos (by omega)]
  have := eql_loop l m h hl l.length 0 0 (by omega) (Nat.zero_le _)
  rw [Nat.zero_add] at this
  simpa using this
 ·rw [if_neg (by omega)]
  congr 1
  symm
  rw [beq_eq_false_iff_ne]
  intro he
  exact h (by rw [he])
theorem eql_call (A0 : Option Addr) (c0 : Nat) (l0 : List Int) (A1 : Option Addr) (c1 : Nat) (l1 : List Int) (w : World) (hr0 : Kd.C (Kd.int .i64) w A0 l0.length l0) (hc0 : l0.length ≤ c0) (hr1 : Kd.C (Kd.int .i64) w A1 l1.length l1) (hc1 : l1.length ≤ c1) (hl : l0.length ≤ 1000000000000) (b : Bool) (hb : (l0 == l1) = b) :
  Calls Try.prog 33 #[.slice A0 l0.length c0, .slice A1 l1.length c1] w fun e w' => e = .returned (.bool b) ∧ Drawn0 w w' :=
 slices_Equal_int_int.calls _ A0 c0 l0 A1 c1 l1 b w hr0 hc0 hr1 hc1 ((eql_val l0 l1 hl).trans (congrArg some hb))
def sameIn (x y : S42) : Bool := x.f0 == y.f0 && (x.f1 == y.f1 && (x.f2 == y.f2 && (x.f3 == y.f3 && (x.f4.toList == y.f4.toList))))
def sameStep (x y : S45) : Bool := x.f0 == y.f0 && sameIn x.f1 y.f1 && (x.f2 == y.f2)
def cells45 (x : S45) (A : Option Addr) (c : Nat) : Array Value := #[.bool x.f0, .int .i64 x.f1.f0, .int .i64 x.f1.f1, .int .i64 x.f1.f2, .bool x.f1.f3, .string x.f1.f4, .slice A x.f2.length c]
set_option maxHeartbeats 4000000 in
theorem same_steps (x y : S45) (A B : Option Addr) (c d : Nat) (w : World) (hx : Kd.C (Kd.int .i64) w A x.f2.length x.f2) (hxc : x.f2.length ≤ c) (hy : Kd.C (Kd.int .i64) w B y.f2.length y.f2) (hyc : y.f2.length ≤ d) (hl : x.f2.length ≤ 1000000000000) :
  Calls Try.prog 32 #[.agg #[.bool x.f0, .int .i64 x.f1.f0, .int .i64 x.f1.f1, .int .i64 x.f1.f2, .bool x.f1.f3, .string x.f1.f4, .slice A x.f2.length c], .agg #[.bool y.f0, .int .i64 y.f1.f0, .int .i64 y.f1.f1, .int .i64 y.f1.f2, .bool y.f1.f3, .string y.f1.f4, .slice B y.f2.length d]] w fun e w' => e = .returned (.bool (sameStep x y)) ∧ Below w.heap.size w w' := by
 have HX := Lib.hid hx
 have HY := Lib.hid hy
 have HC := Lib.hid (And.intro hxc (And.intro hyc hl))
 clear hx hy hxc hyc hl
 by_cases h1 : x.f0 = y.f0
 ·by_cases h2 : sameIn x.f1 y.f1 = true
  ·have h1b : (x.f0 == y.f0) = true := by simpa using h1
   have HE := Lib.hid (show sameStep x y = (x.f2 == y.f2) by unfold sameStep; rw [h1b, h2]; simp)
   have h2b : (x.f1.f0 == y.f1.f0 && (x.f1.f1 == y.f1.f1 && (x.f1.f2 == y.f1.f2 && (x.f1.f3 == y.f1.f3 && (x.f1.f4.toList == y.f1.f4.toList))))) = true := h2
   clear h1 h2
   go_enter Try.func32, Try.ntmps32
   go_wp2_with fail
   refine (eql_call A c x.f2 B d y.f2 _ (Kd.C_alloc (Kd.C_alloc HX.out _) _) HC.out.1 (Kd.C_alloc (Kd.C_alloc HY.out _) _) HC.out.2.1 HC.out.2.2 _ rfl).mono ?_
   rintro e w1 ⟨rfl, hd⟩
   have HD := Lib.hid hd.below
   clear hd
   go_wp2_with fail
   go_ret
   exact ⟨by rw [HE.out]; rfl, (((Below.refl _ w).alloc (Nat.le_refl _) _).alloc (by simp) _).trans (HD.out.mono (by simp; omega))⟩
  ·have h1b : (x.f0 == y.f0) = true := by simpa using h1
   have h2f : sameIn x.f1 y.f1 = false := by simpa using h2
   have HE := Lib.hid (show sameStep x y = false by unfold sameStep; rw [h1b, h2f]; simp)
   have h2b : (x.f1.f0 == y.f1.f0 && (x.f1.f1 == y.f1.f1 && (x.f1.f2 == y.f1.f2 && (x.f1.f3 == y.f1.f3 && (x.f1.f4.toList == y.f1.f4.toList))))) = false := h2f
   clear h1 h2 h2f
   go_enter Try.func32, Try.ntmps32
   go_wp2_with fail
   go_ret
   exact ⟨by rw [HE.out]; rfl, ((Below.refl _ w).alloc (Nat.le_refl _) _).alloc (by simp) _⟩
 ·have h1b : (x.f0 == y.f0) = false := by simpa using h1
  have HE := Lib.hid (show sameStep x y = false by unfold sameStep; rw [h1b]; simp)
  clear h1
  go_enter Try.func32, Try.ntmps32
  go_wp2_with fail
  go_ret
  exact ⟨by rw [HE.out]; rfl, ((Below.refl _ w).alloc (Nat.le_refl _) _).alloc (by simp) _⟩
end Go.Proofs.YtfgibjkgiolonaaS
set_option linter.unusedVariables false
set_option linter.unusedSimpArgs false
namespace Go.Proofs.YtfgibjkgiolonaaS
open Go.RowKit Go.Proofs.YtfgibjkgiolonaaW.PrintWords Go.Proofs.YtfgibjkgiolonaaW.PrintLast Go.Proofs.YtfgibjkgiolonaaW.PrintMore Go.Proofs.YtfgibjkgiolonaaX Go.Proofs.Ytfgibjkgiolonaa.PA Go.Proofs.YtfgibjkgiolonaaG
def sameSteps : List S45 → List S45 → Bool
 | [], [] => true
 | x :: l, y :: m => sameStep x y && sameSteps l m
 | _, _ => false
theorem sameSteps_len : ∀ {l m : List S45}, sameSteps l m = true → l.length = m.length
 | [], [], _ => rfl
 | [], _ :: _, h => by cases h
 | _ :: _, [], h => by cases h
 | x :: l, y :: m, h => by
  simp only [sameSteps, Bool.and_eq_true] at h
  rw [List.length_cons, List.length_cons, sameSteps_len h.2]
theorem sameSteps_ne {l m : List S45} (h : l.length ≠ m.length) : sameSteps l m = false := by
 cases hs : sameSteps l m with
 | false => rfl
 | true => exact absurd (sameSteps_len hs) h
theorem sameSteps_drop {l m : List S45} {i : Nat} (h1 : i < l.length) (h2 : i < m.length) : sameSteps (l.drop i) (m.drop i) = (sameStep (rd_T45 l i) (rd_T45 m i) && sameSteps (l.drop (i + 1)) (m.drop (i + 1))) := by
 have r1 : rd_T45 l (i : Int) = l[i] := by unfold rd_T45; simp [List.getD_eq_getElem?_getD, List.getElem?_eq_getElem h1]
 have r2 : rd_T45 m (i : Int) = m[i] := by unfold rd_T45; simp [List.getD_eq_getElem?_getD, List.getElem?_eq_getElem h2]
 rw [List.drop_eq_getElem_cons h1, List.drop_eq_getElem_cons h2, r1, r2]
 rfl
set_option maxHeartbeats 8000000 in
set_option maxRecDepth 100000 in
theorem equalFunc (A B : Option Addr) (c d : Nat) (l m : List S45) (w : World) (hl : Kd.C k45 w A l.length l) (hm : Kd.C k45 w B m.length m) (hf : fewCuts l) (hb : l.length ≤ 1000000000000) (hb2 : m.length ≤ 9223372036854775807) (T : Bool) (hT : sameSteps l m = T) :
  Calls Try.prog 31 #[.slice A l.length c, .slice B m.length d, .func (.func 32) #[] #[]] w fun e w' => e = .returned (.bool T) ∧ Below w.heap.size w w' := by
 have HL := Lib.hid hl
 have HM := Lib.hid hm
 have HF := Lib.hid hf
 have HT := Lib.hid hT
 clear hl hm hf hT
 by_cases hn : l.length = m.length
 ·have HN := Lib.hid hn
  have hnb : ((l.length : Int) != (m.length : Int)) = false := by simp [hn]
  clear hn
  go_enter Try.func31, Try.ntmps31
  go_wp2
  go_loopw [17] (fun i wr => ∃ k : Nat, k ≤ l.length ∧ i = .int .i64 k ∧ Hid (Below w.heap.size w wr ∧ sameSteps (l.drop k) (m.drop k) = T)) (fun i _ => l.length - (intOf i).toNat)
  case atStart => exact ⟨0, Nat.zero_le _, rfl, Lib.hid ⟨Below.refl _ _, HT.out⟩⟩
  case round =>
   obtain ⟨k, hk, rfl, HR⟩ := hrel
   by_cases hlt : k < l.length
   ·have hlt2 : k < m.length := by rw [← HN.out]; exact hlt
    obtain ⟨ad, A6, c6, hA, e0, e1, e2, e3, e4, e5, e6, hc6, hC6⟩ := at_T45 (Kd.C_below HL.out HR.out.1) (k : Int) (by omega) (by omega)
    obtain ⟨bd, B6, d6, hB, f0, f1, f2, f3, f4, f5, f6, hd6, hD6⟩ := at_T45 (Kd.C_below HM.out HR.out.1) (k : Int) (by omega) (by omega)
    subst hA hB
    have HS := Lib.hid (HR.out.2.symm.trans (sameSteps_drop hlt hlt2))
    have HX := Lib.hid (HF.out (rd_T45 l k) (by unfold rd_T45; simp [List.getD_eq_getElem?_getD, List.getElem?_eq_getElem hlt]))
    obtain ⟨x, hx⟩ : ∃ x, rd_T45 l (k : Int) = x := ⟨_, rfl⟩
    obtain ⟨y, hy⟩ : ∃ y, rd_T45 m (k : Int) = y := ⟨_, rfl⟩
    rw [hx] at e0 e1 e2 e3 e4 e5 e6 hc6 hC6 HX HS
    rw [hy] at f0 f1 f2 f3 f4 f5 f6 hd6 hD6 HS
    simp only [Int.toNat_natCast] at e0 e1 e2 e3 e4 e5 e6 f0 f1 f2 f3 f4 f5 f6
    have HC := Lib.hid (And.intro hC6 (And.intro hc6 (And.intro hD6 hd6)))
    clear hx hy hC6 hc6 hD6 hd6
    have hbl := World.block_lt_of_cell? wr _ f0
    go_wp2_with fail
    have HQ := Lib.hid (((Below.refl wr.heap.size wr).alloc (Nat.le_refl _) (.cells #[.bool x.f0, .int .i64 x.f1.f0, .int .i64 x.f1.f1, .int .i64 x.f1.f2, .bool x.f1.f3, .string x.f1.f4, .slice A6 x.f2.length c6] 45)).alloc (by simp) (.cells #[.bool y.f0, .int .i64 y.f1.f0, .int .i64 y.f1.f1, .int .i64 y.f1.f2, .bool y.f1.f3, .string y.f1.f4, .slice B6 y.f2.length d6] 45))
    have HG := Lib.hid (same_steps x y A6 B6 c6 d6 _ (Kd.C_below HC.out.1 HQ.out) HC.out.2.1 (Kd.C_below HC.out.2.2.1 HQ.out) HC.out.2.2.2 HX.out)
    cases hs : sameStep x y with
    | true =>
     rw [hs] at HG HS
     rw [Bool.true_and] at HS
     refine HG.out.mono ?_
     rintro e w3 ⟨rfl, hb3⟩
     have HB3 := Lib.hid ((HR.out.1.trans (HQ.out.mono HR.out.1.size)).trans (hb3.mono (Nat.le_trans HR.out.1.size HQ.out.size)))
     clear hb3
     go_wp2_with fail
     go_roundw
     case rel => exact ⟨k + 1, by omega, by go_num, Lib.hid ⟨HB3.out, HS.out.symm⟩⟩
     case measure => simp [intOf]; omega
    | false =>
     rw [hs] at HG HS
     rw [Bool.false_and] at HS
     refine HG.out.mono ?_
     rintro e w3 ⟨rfl, hb3⟩
     have HB3 := Lib.hid ((HR.out.1.trans (HQ.out.mono HR.out.1.size)).trans (hb3.mono (Nat.le_trans HR.out.1.size HQ.out.size)))
     clear hb3
     obtain rfl := HS.out
     go_wp2_with fail
     go_ret
     exact ⟨rfl, HB3.out⟩
   ·obtain rfl : k = l.length := by omega
    have HE := Lib.hid (show T = true by rw [← HR.out.2, List.drop_length, HN.out, List.drop_length]; rfl)
    obtain rfl := HE.out
    go_wp2
    go_ret
    exact ⟨rfl, HR.out.1⟩
 ·have hnb : ((l.length : Int) != (m.length : Int)) = true := by simpa using fun h => hn (by omega)
  have HS := Lib.hid (show T = false by rw [← HT.out]; exact sameSteps_ne hn)
  clear hn
  go_enter Try.func31, Try.ntmps31
  go_wp2
  go_ret
  exact ⟨by rw [HS.out]; rfl, Below.refl _ _⟩
def sameS (b1 : ByteArray) (s1 : Int) (l : List S45) (b2 : ByteArray) (s2 : Int) (m : List S45) : Bool := b1.toList == b2.toList && s1 == s2 && sameSteps l m
set_option maxHeartbeats 4000000 in
theorem same_any (b1 : ByteArray) (s1 : Int) (A : Option Addr) (c : Nat) (l : List S45) (b2 : ByteArray) (s2 : Int) (B : Option Addr) (d : Nat) (m : List S45) (w : World) (hl : Kd.C k45 w A l.length l) (hm : Kd.C k45 w B m.length m) (hf : fewCuts l) (hb : l.length ≤ 1000000000000) (hb2 : m.length ≤ 1000000000000) :
  Calls Try.prog 13 #[.agg #[.string b1, .int .i64 s1, .slice A l.length c], .agg #[.string b2, .int .i64 s2, .slice B m.length d]] w fun e w' => e = .returned (.bool (sameS b1 s1 l b2 s2 m)) ∧ Below w.heap.size w w' := by
 have HL := Lib.hid (And.intro hl (And.intro hm (And.intro hf (And.intro hb hb2))))
 have HB := Lib.hid (((Below.refl w.heap.size w).alloc (Nat.le_refl _) (.cells #[.string b1, .int .i64 s1, .slice A l.length c] 24)).alloc (by simp) (.cells #[.string b2, .int .i64 s2, .slice B m.length d] 24))
 clear hl hm hf hb hb2
 by_cases h1 : (b1.toList == b2.toList) = true
 ·by_cases h2 : (s1 == s2) = true
  ·have HE := Lib.hid (show sameS b1 s1 l b2 s2 m = sameSteps l m by unfold sameS; rw [h1, h2]; simp)
   go_enter Try.func13, Try.ntmps13
   go_wp2_with fail
   refine (equalFunc A B c d l m _ (Kd.C_below HL.out.1 HB.out) (Kd.C_below HL.out.2.1 HB.out) HL.out.2.2.1 HL.out.2.2.2.1 (Nat.le_trans HL.out.2.2.2.2 (by decide)) _ rfl).mono ?_
   rintro e w1 ⟨rfl, hb1⟩
   have HB1 := Lib.hid (HB.out.trans (hb1.mono HB.out.size))
   clear hb1
   go_wp2_with fail
   go_ret
   exact ⟨by rw [HE.out]; rfl, HB1.out⟩
  ·have h2f : (s1 == s2) = false := by simpa using h2
   have HE := Lib.hid (show sameS b1 s1 l b2 s2 m = false by unfold sameS; rw [h1, h2f]; simp)
   clear h2
   go_enter Try.func13, Try.ntmps13
   go_wp2_with fail
   go_ret
   exact ⟨by rw [HE.out]; rfl, HB.out⟩
 ·have h1f : (b1.toList == b2.toList) = false := by simpa using h1
  have HE := Lib.hid (show sameS b1 s1 l b2 s2 m = false by unfold sameS; rw [h1f]; simp)
  clear h1
  go_enter Try.func13, Try.ntmps13
  go_wp2_with fail
  go_ret
  exact ⟨by rw [HE.out]; rfl, HB.out⟩
instance (l : List S45) : Decidable (fewCuts l) := inferInstanceAs (Decidable (∀ x ∈ l, x.f2.length ≤ 1000000000000))
def script_Same.f (b1 : ByteArray) (s1 : Int) (l : List S45) (b2 : ByteArray) (s2 : Int) (m : List S45) : Option Bool := if fewCuts l ∧ l.length ≤ 1000000000000 ∧ m.length ≤ 1000000000000 then some (sameS b1 s1 l b2 s2 m) else none
theorem script_Same.calls (a0_0 : ByteArray) (a0_1 : Int) (A0_2 : Option Addr) (c0_2 : Nat) (l0_2 : List S45) (a1_0 : ByteArray) (a1_1 : Int) (A1_2 : Option Addr) (c1_2 : Nat) (l1_2 : List S45) (r : Bool) (w : World) (hr0_2 : Kd.C k45 w A0_2 l0_2.length l0_2) (hc0_2 : l0_2.length ≤ c0_2) (hr1_2 : Kd.C k45 w A1_2 l1_2.length l1_2) (hc1_2 : l1_2.length ≤ c1_2) (h : script_Same.f a0_0 a0_1 l0_2 a1_0 a1_1 l1_2 = some r) :
  Calls Try.prog 13 #[.agg #[.string a0_0, .int .i64 a0_1, .slice A0_2 l0_2.length c0_2], .agg #[.string a1_0, .int .i64 a1_1, .slice A1_2 l1_2.length c1_2]] w fun e w' => e = .returned (.bool r) ∧ Below w.heap.size w w' := by
 unfold script_Same.f at h
 by_cases hh : fewCuts l0_2 ∧ l0_2.length ≤ 1000000000000 ∧ l1_2.length ≤ 1000000000000
 ·rw [if_pos hh] at h
  obtain rfl := Option.some.inj h
  exact same_any a0_0 a0_1 A0_2 c0_2 l0_2 a1_0 a1_1 A1_2 c1_2 l1_2 w hr0_2 hr1_2 hh.1 hh.2.1 hh.2.2
 ·rw [if_neg hh] at h
  simp at h
end Go.Proofs.YtfgibjkgiolonaaS
