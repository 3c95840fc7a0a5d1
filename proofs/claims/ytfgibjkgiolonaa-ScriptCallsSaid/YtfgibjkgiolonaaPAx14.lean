import Derived.Test.YtfgibjkgiolonaaWm
import Derived.Test.YtfgibjkgiolonaaPAx0
import Derived.Test.YtfgibjkgiolonaaPAx2
import Derived.Test.YtfgibjkgiolonaaPAx3
import Derived.Test.YtfgibjkgiolonaaPAx4
import Derived.Test.YtfgibjkgiolonaaPAx5
import Derived.Test.YtfgibjkgiolonaaPAx7
import Derived.Test.YtfgibjkgiolonaaPAx10
import Derived.Test.YtfgibjkgiolonaaPAx12
import Derived.Test.YtfgibjkgiolonaaPAx13
import Derived.Test.YtfgibjkgiolonaaS7
import Derived.Test.YtfgibjkgiolonaaSh
import Derived.Test.YtfgibjkgiolonaaSb
import Derived.Test.YtfgibjkgiolonaaSr
import Derived.Test.YtfgibjkgiolonaaSs
namespace Go.Proofs.Ytfgibjkgiolonaa.PA
open Go.RowKit Go.Proofs.YtfgibjkgiolonaaW.PrintWords Go.Proofs.YtfgibjkgiolonaaW.PrintLast Go.Proofs.YtfgibjkgiolonaaW.PrintMore Go.Proofs.YtfgibjkgiolonaaG Go.Proofs.YtfgibjkgiolonaaX Go.Proofs.YtfgibjkgiolonaaI Go.Proofs.Ytfgibjkgiolonaa.PR Go.Proofs.YtfgibjkgiolonaaS
attribute [local go_sem] max2_int min2_int max_two min_two max_three min_three max_four min_four
set_option linter.unusedVariables false
set_option linter.unusedSimpArgs false
def outlawlaw25_ScriptCalls.j0 : Nat → ByteArray → Bool → ByteArray → Int → List (S45) → ByteArray → Int → List (S45) → Option (Bool)
 | 0, _, _, _, _, _, _, _, _ => none
 | k + 1, x2, x33, x447000, x447001, x447002, x448000, x448001, x448002 => if x33 = true then (some true) else ((outlawlaw25_own.f k x447000 x447001 x447002).bind fun bt451 => ((script_Check.f k bt451.1 bt451.2.1 bt451.2.2).bind fun bt456 => ((outlawref25_Check.f k x447000 x447001 x447002).bind fun bt458 => ((outlawlaw25_own.f k x447000 x447001 x447002).bind fun bt460 => ((script_Bytes.f k bt460.1 bt460.2.1 bt460.2.2).bind fun bt465 => ((outlawref25_Bytes.f x447000 x447001 x447002).bind fun bt467 => ((script_Read.f x2).bind fun bt469 => ((outlawref25_Read.f x2).bind fun bt476 => (if bt456.1 = bt458.1 then (if bt456.2 = bt458.2 then (if bt465.1.toList = bt467.1.toList then (if bt465.2 = bt467.2 then ((outlawref25_Same.f bt469.1 bt469.2.1 bt469.2.2.1 bt476.1 bt476.2.1 bt476.2.2.1).bind fun t483 => (if t483 = true then (if bt469.2.2.2 = bt476.2.2.2 then ((script_Same.f x447000 x447001 x447002 x448000 x448001 x448002).bind fun t484 => ((outlawref25_Same.f x447000 x447001 x447002 x448000 x448001 x448002).bind fun t485 => (if (t484 == t485) = true then ((outlawlaw25_own.f k x447000 x447001 x447002).bind fun bt486 => ((script_Same.f x447000 x447001 x447002 bt486.1 bt486.2.1 bt486.2.2).bind fun t491 => (if t491 = true then ((script_Inputs.f k x447000 x447001 x447002).bind fun t492 => ((outlawlaw25_inputs.f k x447000 x447001 x447002).bind fun t495 => ((api_Input.f k t492 t495).bind fun t498 => (some t498)))) else (some false)))) else (some false)))) else (some false)) else (some false))) else (some false)) else (some false)) else (some false)) else (some false))))))))))
def outlawlaw25_ScriptCalls.f (k : Nat) (a0_0 : ByteArray) (a0_1 : Int) (l0_2 : List (S45)) (a1_0 : ByteArray) (a1_1 : Int) (l1_2 : List (S45)) (a2 : ByteArray) : Option (Bool) := (outlawlaw25_lives.f k).bind fun t448 => (if t448 = true then ((outlawlaw25_light.f k a0_0 a0_1 l0_2).bind fun t449 => (if t449 = true then ((outlawlaw25_light.f k a1_0 a1_1 l1_2).bind fun t450 => (if t450 = true then (outlawlaw25_ScriptCalls.j0 k a2 (decide ((a2.size : Int) > 40000)) a0_0 a0_1 l0_2 a1_0 a1_1 l1_2) else (outlawlaw25_ScriptCalls.j0 k a2 true a0_0 a0_1 l0_2 a1_0 a1_1 l1_2))) else (outlawlaw25_ScriptCalls.j0 k a2 true a0_0 a0_1 l0_2 a1_0 a1_1 l1_2))) else (some false))
theorem outlawlaw25_ScriptCalls.mono_l : ∀ k, (∀ y0 y1 y2 y3 y4 y5 y6 y7, LeO (outlawlaw25_ScriptCalls.j0 k y0 y1 y2 y3 y4 y5 y6 y7) (outlawlaw25_ScriptCalls.j0 (k + 1) y0 y1 y2 y3 y4 y5 y6 y7))
 | 0 => fun _ _ _ _ _ _ _ _ r h => by simp [outlawlaw25_ScriptCalls.j0] at h
 | k + 1 => by
  have ih0 := outlawlaw25_ScriptCalls.mono_l k
  ·intro y0 y1 y2 y3 y4 y5 y6 y7
   unfold outlawlaw25_ScriptCalls.j0
   repeat' first
   | (with_reducible exact ih0 _ _ _ _ _ _ _ _)
   | (with_reducible exact api_Input.mono _ _ _)
   | (with_reducible exact outlawlaw25_inputs.mono _ _ _ _)
   | (with_reducible exact outlawlaw25_light.mono _ _ _ _)
   | (with_reducible exact outlawlaw25_lives.mono _)
   | (with_reducible exact outlawlaw25_own.mono _ _ _ _)
   | (with_reducible exact outlawref25_Check.mono _ _ _ _)
   | (with_reducible exact script_Bytes.mono _ _ _ _)
   | (with_reducible exact script_Check.mono _ _ _ _)
   | (with_reducible exact script_Inputs.mono _ _ _ _)
   | (with_reducible exact LeO.refl _)
   | (with_reducible exact LeO.none _)
   | (with_reducible refine LeO.ite ?_ ?_)
   | (with_reducible refine LeO.bind ?_ (fun _ => ?_))
   | refine LeO.ite ?_ ?_
   | refine LeO.bind ?_ (fun _ => ?_)
theorem outlawlaw25_ScriptCalls.mono : ∀ a0 a1 a2 a3 a4 a5 a6 k, LeO (outlawlaw25_ScriptCalls.f k a0 a1 a2 a3 a4 a5 a6) (outlawlaw25_ScriptCalls.f (k + 1) a0 a1 a2 a3 a4 a5 a6) := by
 intro a0 a1 a2 a3 a4 a5 a6 k
 have ih0 := outlawlaw25_ScriptCalls.mono_l k
 unfold outlawlaw25_ScriptCalls.f
 repeat' first
   | (with_reducible exact ih0 _ _ _ _ _ _ _ _)
   | (with_reducible exact api_Input.mono _ _ _)
   | (with_reducible exact outlawlaw25_inputs.mono _ _ _ _)
   | (with_reducible exact outlawlaw25_light.mono _ _ _ _)
   | (with_reducible exact outlawlaw25_lives.mono _)
   | (with_reducible exact outlawlaw25_own.mono _ _ _ _)
   | (with_reducible exact outlawref25_Check.mono _ _ _ _)
   | (with_reducible exact script_Bytes.mono _ _ _ _)
   | (with_reducible exact script_Check.mono _ _ _ _)
   | (with_reducible exact script_Inputs.mono _ _ _ _)
   | (with_reducible exact LeO.refl _)
   | (with_reducible exact LeO.none _)
   | (with_reducible refine LeO.ite ?_ ?_)
   | (with_reducible refine LeO.bind ?_ (fun _ => ?_))
   | refine LeO.ite ?_ ?_
   | refine LeO.bind ?_ (fun _ => ?_)
def outlawlaw25_ScriptCalls.T11 : Bool × List (List Nat × List Nat) := (true, [([], []), ([], []), ([0, 1], [0, 1]), ([2], [2]), ([3], [3]), ([3], [3]), ([4, 5, 3], [3, 4, 5]), ([3, 6], [3, 6]), ([7, 3], [7]), ([8], [8]), ([8], [8]), ([9, 10, 8], [8, 9, 10]), ([8, 11], [8, 11]), ([12, 8], [12]), ([13], [13]), ([13], [13]), ([14, 15, 13], [13, 14, 15]), ([13, 16], [13, 16]), ([17, 13], [17]), ([18], [18]), ([18], [18]), ([19, 20, 18, 18], [18, 19, 20]), ([18, 21], [18, 21]), ([22, 21], [22]), ([23], [23]), ([23], [23]), ([24, 25, 23], [23, 24, 25]), ([23, 26], [23, 26]), ([27, 23], [27]), ([28], [28]), ([28], [28]), ([29, 30, 28, 28], [28, 29, 30]), ([28], [28]), ([28], [28]), ([32, 33, 31, 28], [28, 32, 33]), ([31, 34, 28], [28, 31, 34]), ([28, 35], [28, 35]), ([36, 34], [36]), ([37], [37]), ([37], [37]), ([39, 37, 37], [37, 39]), ([38, 40, 40, 37], [37, 38, 40]), ([37, 41], [37, 41]), ([42, 41], [42]), ([43], [43]), ([44, 43, 43], [43, 44]), ([43], [43]), ([46, 45, 43], [43, 46]), ([45, 47, 47, 43], [43, 45, 47]), ([43, 48], [43, 48]), ([49, 48, 0, 1, 2, 3, 4, 5, 6, 7, 8, 9, 10, 11, 12, 13, 14, 15, 16, 17, 18, 19, 20, 21, 22, 23, 24, 25, 26, 27, 28, 29, 30, 31, 32, 33, 34, 35, 36, 37, 38, 39, 40, 41, 42, 43, 44, 45, 46, 47, 48, 49], [49])])
def outlawlaw25_ScriptCalls.B11 : List Nat := [0, 0, 3, 7, 15, 15, 63, 127, 255, 511, 511, 2047, 4095, 8191, 16383, 16383, 65535, 131071, 262143, 524287, 524287, 2097151, 4194303, 8388607, 16777215, 16777215, 67108863, 134217727, 268435455, 536870911, 536870911, 2147483647, 536870911, 536870911, 17179869183, 34359738367, 68719476735, 137438953471, 274877906943, 274877906943, 824633720831, 2199023255551, 4398046511103, 8796093022207, 17592186044415, 35184372088831, 17592186044415, 140737488355327, 281474976710655, 562949953421311, 1125899906842623]
theorem outlawlaw25_ScriptCalls.tab11 : rtab .any (opsOf Try.f7 11) = outlawlaw25_ScriptCalls.T11 := by kernel_rfl
theorem outlawlaw25_ScriptCalls.bits11 : waitsOk outlawlaw25_ScriptCalls.T11.2 outlawlaw25_ScriptCalls.B11 = true := by kernel_rfl
set_option maxHeartbeats 8000000 in
set_option maxRecDepth 100000 in
theorem outlawlaw25_ScriptCalls.calls (k : Nat) (a0_0 : ByteArray) (a0_1 : Int) (A0_2 : Option Addr) (c0_2 : Nat) (l0_2 : List (S45)) (a1_0 : ByteArray) (a1_1 : Int) (A1_2 : Option Addr) (c1_2 : Nat) (l1_2 : List (S45)) (a2 : ByteArray) (r : Bool) (w : World) (hr_ : Aside0 (r = true)) (hr0_2 : Kd.C k45 w A0_2 l0_2.length l0_2) (hc0_2 : l0_2.length ≤ c0_2) (hr1_2 : Kd.C k45 w A1_2 l1_2.length l1_2) (hc1_2 : l1_2.length ≤ c1_2) (h : outlawlaw25_ScriptCalls.f k a0_0 a0_1 l0_2 a1_0 a1_1 l1_2 a2 = some r) :
  Calls Try.prog 7 #[.agg #[.string a0_0, .int .i64 a0_1, .slice A0_2 l0_2.length c0_2], .agg #[.string a1_0, .int .i64 a1_1, .slice A1_2 l1_2.length c1_2], .string a2] w fun e w' => e = .returned (.bool r) ∧ Below w.heap.size w w' := by
 have hu24 := Try.underlying24
 have HR0_2 := Aside0.mk hr0_2
 have HC0_2 := Aside0.mk hc0_2
 clear hr0_2 hc0_2
 have HR1_2 := Aside0.mk hr1_2
 have HC1_2 := Aside0.mk hc1_2
 clear hr1_2 hc1_2
 have HB := Aside0.mk (Below.refl w.heap.size w)
 have H : ((outlawlaw25_lives.f k).bind fun t448 => (if t448 = true then ((outlawlaw25_light.f k a0_0 a0_1 l0_2).bind fun t449 => (if t449 = true then ((outlawlaw25_light.f k a1_0 a1_1 l1_2).bind fun t450 => (if t450 = true then (outlawlaw25_ScriptCalls.j0 k a2 (decide ((a2.size : Int) > 40000)) a0_0 a0_1 l0_2 a1_0 a1_1 l1_2) else (outlawlaw25_ScriptCalls.j0 k a2 true a0_0 a0_1 l0_2 a1_0 a1_1 l1_2))) else (outlawlaw25_ScriptCalls.j0 k a2 true a0_0 a0_1 l0_2 a1_0 a1_1 l1_2))) else (some false))) = some r := h
 clear h
 replace H := Option.bind_eq_some_iff.mp H
 obtain ⟨t448, A40, H⟩ := H
 have A4 := Aside0.mk A40
 clear A40
 by_cases c5 : t448 = true
 ·subst c5
  rw [if_pos rfl] at H
  have HC6 := Aside0.mk H
  clear H
  go_enter Try.func7, Try.ntmps7
  go_upto_region 3 with (first | ((with_reducible refine gate_dst (N := 3) rfl ?_); (try (refine gate_guard (by rfl) ?_; dsimp only)); refine be_ 3 #[.string a0_0, .int .i64 a0_1, .slice A0_2 l0_2.length c0_2] 24 ?_; intro gb446 hg w7 hbox hb; have n0_ := Aside0.mk (below_step (bl_ HB) hb); have n1_ := Aside0.mk (hbox); have n2_ := Aside0.mk ((by rw [hg]; exact (below_size (bl_ HB)) : w.heap.size ≤ gb446)); have n3_ := Aside0.mk ((by rw [hg]; exact (below_size (bl_ HB)) : w.heap.size ≤ gb446)); clear HB; have HB := n0_; have BK446 := n1_; have GW446 := n2_; have GE446 := n3_; clear n0_ n1_ n2_ n3_; clear hb hbox hg) | ((with_reducible refine gate_dst (N := 4) rfl ?_); (try (refine gate_guard (by rfl) ?_; dsimp only)); refine be_ 4 #[.string a1_0, .int .i64 a1_1, .slice A1_2 l1_2.length c1_2] 24 ?_; intro gb447 hg w8 hbox hb; have n0_ := Aside0.mk (blk_below (kb_ BK446) hb); have n1_ := Aside0.mk (below_step (bl_ HB) hb); have n2_ := Aside0.mk (hbox); have n3_ := Aside0.mk ((by rw [hg]; exact (below_size (bl_ HB)) : w.heap.size ≤ gb447)); have n4_ := Aside0.mk ((by rw [hg]; exact (below_size (bl_ HB)) : w.heap.size ≤ gb447)); have n5_ := Aside0.mk ((by rw [hg]; exact Nat.ne_of_lt (blk_lt (kb_ BK446)) : gb446 ≠ gb447)); have n6_ := Aside0.mk ((by rw [hg]; exact Nat.ne_of_gt (blk_lt (kb_ BK446)) : gb447 ≠ gb446)); clear BK446; clear HB; have BK446 := n0_; have HB := n1_; have BK447 := n2_; have GW447 := n3_; have GE447 := n4_; have NB446_447 := n5_; have NB447_446 := n6_; clear n0_ n1_ n2_ n3_ n4_ n5_ n6_; clear hb hbox hg) | ((with_reducible refine gate_callee (f := 8) rfl ?_); refine gl_ (some 19) Try.func8 #[] ?_; (with_reducible refine (outlawlaw25_lives.calls k  true _ A4.out).mono ?_); rintro e w9 ⟨rfl, hb⟩; refine ⟨_, rfl, ?_⟩; have n0_ := Aside0.mk (blk_below (kb_ BK446) hb); have n1_ := Aside0.mk (blk_below (kb_ BK447) hb); have n2_ := Aside0.mk (below_step (bl_ HB) hb); clear BK446; clear BK447; clear HB; have BK446 := n0_; have BK447 := n1_; have HB := n2_; clear n0_ n1_ n2_; (try clear hb); (try clear hk)))
  (try simp only [Act.put, List.setIfInBounds_toArray, List.set_cons_zero, List.set_cons_succ])
  go_cut [33] (fun v33 wc => ∃ (kq : Nat) (x33_5 : Bool), v33 = .bool x33_5 ∧ Aside0 (outlawlaw25_ScriptCalls.j0 kq a2 x33_5 a0_0 a0_1 l0_2 a1_0 a1_1 l1_2 = some r) ∧ Aside0 (kq ≤ k) ∧ Aside0 (wc.heap[gb446]? = some (.cells #[.string a0_0, .int .i64 a0_1, (.slice A0_2 l0_2.length c0_2)] 24 (0, 0))) ∧ Aside0 (wc.heap[gb447]? = some (.cells #[.string a1_0, .int .i64 a1_1, (.slice A1_2 l1_2.length c1_2)] 24 (0, 0))) ∧ Aside0 (Below w.heap.size w wc))
  case first =>
   have H := HC6.out
   clear HC6
   replace H := Option.bind_eq_some_iff.mp H
   obtain ⟨t449, A100, H⟩ := H
   have A10 := Aside0.mk A100
   clear A100
   by_cases c11 : t449 = true
   ·subst c11
    rw [if_pos rfl] at H
    replace H := Option.bind_eq_some_iff.mp H
    obtain ⟨t450, A120, H⟩ := H
    have A12 := Aside0.mk A120
    clear A120
    by_cases c13 : t450 = true
    ·subst c13
     rw [if_pos rfl] at H
     have H' := Aside0.mk H
     clear H
     have hnb14 := NB446_447.out
     have hnc14 := NB447_446.out
     obtain ⟨hcz15_0, hcz15_1, hcz15_2, hfz15_0, hfz15_1, hfz15_2⟩ := bb3_ BK446.out
     go_wp2_with (first | ((with_reducible refine gate_callee (f := 9) rfl ?_); refine gl_ (some 22) Try.func9 #[.agg #[.string a0_0, .int .i64 a0_1, .slice A0_2 l0_2.length c0_2]] ?_; (with_reducible refine (outlawlaw25_light.calls k a0_0 a0_1 _ _ l0_2 true _ ?side1 ?side2 A10.out).mono ?_); (case side1 => repeat (first | exact (Kd.C_below HR0_2.out HB.out) | (with_reducible refine Kd.C_alloc ?_ _) | (with_reducible refine Kd.C_drewN ?_ _) | (with_reducible refine Kd.C_drew ?_))); (case side2 => exact HC0_2.out); rintro e w16 ⟨rfl, hb⟩; refine ⟨_, rfl, ?_⟩; have n0_ := Aside0.mk (blk_below (kb_ BK446) hb); have n1_ := Aside0.mk (blk_below (kb_ BK447) hb); have n2_ := Aside0.mk (below_step (bl_ HB) hb); clear BK446; clear BK447; clear HB; have BK446 := n0_; have BK447 := n1_; have HB := n2_; clear n0_ n1_ n2_; (try clear hb); (try clear hk); obtain ⟨hcz17_0, hcz17_1, hcz17_2, hfz17_0, hfz17_1, hfz17_2⟩ := bb3_ BK447.out) | (go_at_call 9; (with_reducible refine (outlawlaw25_light.calls k a1_0 a1_1 _ _ l1_2 true _ ?side1 ?side2 A12.out).mono ?_); (case side1 => repeat (first | exact (Kd.C_below HR1_2.out HB.out) | (with_reducible refine Kd.C_alloc ?_ _) | (with_reducible refine Kd.C_drewN ?_ _) | (with_reducible refine Kd.C_drew ?_))); (case side2 => exact HC1_2.out); rintro e w18 ⟨rfl, hb⟩; have n0_ := Aside0.mk (blk_below (kb_ BK446) hb); have n1_ := Aside0.mk (blk_below (kb_ BK447) hb); have n2_ := Aside0.mk (below_step (bl_ HB) hb); clear BK446; clear BK447; clear HB; have BK446 := n0_; have BK447 := n1_; have HB := n2_; clear n0_ n1_ n2_; (try clear hb); (try clear hk)))
     all_goals
      go_meet
      case rel => exact ⟨_, (decide ((a2.size : Int) > 40000)), r_, H', ⟨by first | omega | exact Nat.le_refl _⟩, ⟨kb_ BK446⟩, ⟨kb_ BK447⟩, ⟨bl_ HB⟩⟩
    ·replace c13 := Bool.eq_false_iff.mpr c13
     subst c13
     rw [if_neg (show ¬ (false = true) by decide)] at H
     have H' := Aside0.mk H
     clear H
     have hnb19 := NB446_447.out
     have hnc19 := NB447_446.out
     obtain ⟨hcz20_0, hcz20_1, hcz20_2, hfz20_0, hfz20_1, hfz20_2⟩ := bb3_ BK446.out
     go_wp2_with (first | ((with_reducible refine gate_callee (f := 9) rfl ?_); refine gl_ (some 22) Try.func9 #[.agg #[.string a0_0, .int .i64 a0_1, .slice A0_2 l0_2.length c0_2]] ?_; (with_reducible refine (outlawlaw25_light.calls k a0_0 a0_1 _ _ l0_2 true _ ?side1 ?side2 A10.out).mono ?_); (case side1 => repeat (first | exact (Kd.C_below HR0_2.out HB.out) | (with_reducible refine Kd.C_alloc ?_ _) | (with_reducible refine Kd.C_drewN ?_ _) | (with_reducible refine Kd.C_drew ?_))); (case side2 => exact HC0_2.out); rintro e w21 ⟨rfl, hb⟩; refine ⟨_, rfl, ?_⟩; have n0_ := Aside0.mk (blk_below (kb_ BK446) hb); have n1_ := Aside0.mk (blk_below (kb_ BK447) hb); have n2_ := Aside0.mk (below_step (bl_ HB) hb); clear BK446; clear BK447; clear HB; have BK446 := n0_; have BK447 := n1_; have HB := n2_; clear n0_ n1_ n2_; (try clear hb); (try clear hk); obtain ⟨hcz22_0, hcz22_1, hcz22_2, hfz22_0, hfz22_1, hfz22_2⟩ := bb3_ BK447.out) | (go_at_call 9; (with_reducible refine (outlawlaw25_light.calls k a1_0 a1_1 _ _ l1_2 false _ ?side1 ?side2 A12.out).mono ?_); (case side1 => repeat (first | exact (Kd.C_below HR1_2.out HB.out) | (with_reducible refine Kd.C_alloc ?_ _) | (with_reducible refine Kd.C_drewN ?_ _) | (with_reducible refine Kd.C_drew ?_))); (case side2 => exact HC1_2.out); rintro e w23 ⟨rfl, hb⟩; have n0_ := Aside0.mk (blk_below (kb_ BK446) hb); have n1_ := Aside0.mk (blk_below (kb_ BK447) hb); have n2_ := Aside0.mk (below_step (bl_ HB) hb); clear BK446; clear BK447; clear HB; have BK446 := n0_; have BK447 := n1_; have HB := n2_; clear n0_ n1_ n2_; (try clear hb); (try clear hk)))
     all_goals
      go_meet
      case rel => exact ⟨_, (true), r_, H', ⟨by first | omega | exact Nat.le_refl _⟩, ⟨kb_ BK446⟩, ⟨kb_ BK447⟩, ⟨bl_ HB⟩⟩
   ·replace c11 := Bool.eq_false_iff.mpr c11
    subst c11
    rw [if_neg (show ¬ (false = true) by decide)] at H
    have H' := Aside0.mk H
    clear H
    have hnb24 := NB446_447.out
    have hnc24 := NB447_446.out
    obtain ⟨hcz25_0, hcz25_1, hcz25_2, hfz25_0, hfz25_1, hfz25_2⟩ := bb3_ BK446.out
    go_wp2_with (first | ((with_reducible refine gate_callee (f := 9) rfl ?_); refine gl_ (some 22) Try.func9 #[.agg #[.string a0_0, .int .i64 a0_1, .slice A0_2 l0_2.length c0_2]] ?_; (with_reducible refine (outlawlaw25_light.calls k a0_0 a0_1 _ _ l0_2 false _ ?side1 ?side2 A10.out).mono ?_); (case side1 => repeat (first | exact (Kd.C_below HR0_2.out HB.out) | (with_reducible refine Kd.C_alloc ?_ _) | (with_reducible refine Kd.C_drewN ?_ _) | (with_reducible refine Kd.C_drew ?_))); (case side2 => exact HC0_2.out); rintro e w26 ⟨rfl, hb⟩; refine ⟨_, rfl, ?_⟩; have n0_ := Aside0.mk (blk_below (kb_ BK446) hb); have n1_ := Aside0.mk (blk_below (kb_ BK447) hb); have n2_ := Aside0.mk (below_step (bl_ HB) hb); clear BK446; clear BK447; clear HB; have BK446 := n0_; have BK447 := n1_; have HB := n2_; clear n0_ n1_ n2_; (try clear hb); (try clear hk)))
    all_goals
     go_meet
     case rel => exact ⟨_, (true), r_, H', ⟨by first | omega | exact Nat.le_refl _⟩, ⟨kb_ BK446⟩, ⟨kb_ BK447⟩, ⟨bl_ HB⟩⟩
  case rest =>
   clear HC6
   try clear c1
   try clear c2
   try clear p2
   try clear c5
   try clear c7
   try clear c8
   try clear c9
   try clear c11
   try clear c13
   try clear c14
   try clear c19
   try clear c24
   try clear hcz15_0 hcz15_1 hcz15_2
   try clear hcz17_0 hcz17_1 hcz17_2
   try clear hcz20_0 hcz20_1 hcz20_2
   try clear hcz22_0 hcz22_1 hcz22_2
   try clear hcz25_0 hcz25_1 hcz25_2
   try clear hfz15_0 hfz15_1 hfz15_2
   try clear hfz17_0 hfz17_1 hfz17_2
   try clear hfz20_0 hfz20_1 hfz20_2
   try clear hfz22_0 hfz22_1 hfz22_2
   try clear hfz25_0 hfz25_1 hfz25_2
   obtain ⟨kq, x33_5, rfl, HA, HJ5, BK446, BK447, HB⟩ := hcut
   cases kq with
   | zero => exact absurd HA.out (by simp [outlawlaw25_ScriptCalls.j0])
   | succ kj5 =>
    have H := HA.out
    clear HA
    simp only [outlawlaw25_ScriptCalls.j0] at H
    by_cases c27 : x33_5 = true
    ·subst c27
     rw [if_pos rfl] at H
     obtain rfl := Option.some.inj H
     go_wp2
     go_ret
     exact ⟨rfl, bl_ HB⟩
    ·replace c27 := Bool.eq_false_iff.mpr c27
     subst c27
     rw [if_neg (show ¬ (false = true) by decide)] at H
     replace H := Option.bind_eq_some_iff.mp H
     obtain ⟨⟨t451, t452, t453⟩, A280, H⟩ := H
     have A28 := Aside0.mk A280
     clear A280
     replace H := Option.bind_eq_some_iff.mp H
     obtain ⟨⟨t456, t457⟩, A290, H⟩ := H
     have A29 := Aside0.mk A290
     clear A290
     replace H := Option.bind_eq_some_iff.mp H
     obtain ⟨⟨t458, t459⟩, A300, H⟩ := H
     have A30 := Aside0.mk A300
     clear A300
     replace H := Option.bind_eq_some_iff.mp H
     obtain ⟨⟨t460, t461, t462⟩, A310, H⟩ := H
     have A31 := Aside0.mk A310
     clear A310
     replace H := Option.bind_eq_some_iff.mp H
     obtain ⟨⟨t465, t466⟩, A320, H⟩ := H
     have A32 := Aside0.mk A320
     clear A320
     replace H := Option.bind_eq_some_iff.mp H
     obtain ⟨⟨t467, t468⟩, A330, H⟩ := H
     have A33 := Aside0.mk A330
     clear A330
     replace H := Option.bind_eq_some_iff.mp H
     obtain ⟨⟨t469, t470, t471, t474⟩, A340, H⟩ := H
     have A34 := Aside0.mk A340
     clear A340
     replace H := Option.bind_eq_some_iff.mp H
     obtain ⟨⟨t476, t477, t478, t481⟩, A350, H⟩ := H
     have A35 := Aside0.mk A350
     clear A350
     by_cases c36 : t456 = t458
     ·rw [if_pos c36] at H
      have c36b0 : (t456 == t458) = true := beq_iff_eq.mpr c36
      have c36b1 : (t456 != t458) = false := bne_eq_false_iff_eq.mpr c36
      clear c36
      by_cases c37 : t457 = t459
      ·rw [if_pos c37] at H
       have c37b0 : (t457 == t459) = true := beq_iff_eq.mpr c37
       have c37b1 : (t457 != t459) = false := bne_eq_false_iff_eq.mpr c37
       clear c37
       by_cases c38 : t465.toList = t467.toList
       ·rw [if_pos c38] at H
        have c38b0 : (t465.toList == t467.toList) = true := beq_iff_eq.mpr c38
        have c38b1 : (t465.toList != t467.toList) = false := bne_eq_false_iff_eq.mpr c38
        clear c38
        by_cases c39 : t466 = t468
        ·rw [if_pos c39] at H
         have c39b0 : (t466 == t468) = true := beq_iff_eq.mpr c39
         have c39b1 : (t466 != t468) = false := bne_eq_false_iff_eq.mpr c39
         clear c39
         replace H := Option.bind_eq_some_iff.mp H
         obtain ⟨t483, A400, H⟩ := H
         have A40 := Aside0.mk A400
         clear A400
         by_cases c41 : t483 = true
         ·subst c41
          rw [if_pos rfl] at H
          by_cases c42 : t474 = t481
          ·rw [if_pos c42] at H
           have c42b0 : (t474 == t481) = true := beq_iff_eq.mpr c42
           have c42b1 : (t474 != t481) = false := bne_eq_false_iff_eq.mpr c42
           clear c42
           replace H := Option.bind_eq_some_iff.mp H
           obtain ⟨t484, A430, H⟩ := H
           have A43 := Aside0.mk A430
           clear A430
           replace H := Option.bind_eq_some_iff.mp H
           obtain ⟨t485, A440, H⟩ := H
           have A44 := Aside0.mk A440
           clear A440
           by_cases c45 : (t484 == t485) = true
           ·rw [if_pos c45] at H
            have c45b0 : (t484 == t485) = true := c45
            (try (have c45b1 : decide (t484 = t485) = true := by simpa using c45))
            (try (have c45b2 : (t484 == t485) = true := by simpa using c45))
            clear c45
            replace H := Option.bind_eq_some_iff.mp H
            obtain ⟨⟨t486, t487, t488⟩, A460, H⟩ := H
            have A46 := Aside0.mk A460
            clear A460
            replace H := Option.bind_eq_some_iff.mp H
            obtain ⟨t491, A470, H⟩ := H
            have A47 := Aside0.mk A470
            clear A470
            by_cases c48 : t491 = true
            ·subst c48
             rw [if_pos rfl] at H
             replace H := Option.bind_eq_some_iff.mp H
             obtain ⟨t492, A490, H⟩ := H
             have A49 := Aside0.mk A490
             clear A490
             replace H := Option.bind_eq_some_iff.mp H
             obtain ⟨t495, A500, H⟩ := H
             have A50 := Aside0.mk A500
             clear A500
             replace H := Option.bind_eq_some_iff.mp H
             obtain ⟨t498, A510, H⟩ := H
             have A51 := Aside0.mk A510
             clear A510
             obtain rfl := Option.some.inj H
             have hnb52 := NB446_447.out
             have hnc52 := NB447_446.out
             obtain ⟨hcz53_0, hcz53_1, hcz53_2, hfz53_0, hfz53_1, hfz53_2⟩ := bb3_ BK446.out
             try go_wp2_with (first | ((with_reducible refine gate_callee (f := 15) rfl ?_); refine gl_ (some 36) Try.func15 #[.agg #[.string a0_0, .int .i64 a0_1, .slice A0_2 l0_2.length c0_2]] ?_; (with_reducible refine (outlawlaw25_own.calls kj5 a0_0 a0_1 (fun k_ => k_ < w.heap.size) _ _ l0_2 t451 t452 t453 _ ?side1 A28.out).mono ?_); (case side1 => exact Kd.V_mk HC0_2.out (Kd.F_below (Kd.C_F k45_heap HR0_2.out) (bl_ HB))); rintro e w54 ⟨v454, rfl, ho0, hb⟩; refine ⟨_, rfl, ?_⟩; have n0_ := Aside0.mk (Kd.N_lower (Kd.N_mono (ok' := fun k_ => k_ ≠ gb446 ∧ k_ ≠ gb447) ho0 (fun k_ hk_ => ⟨Or.elim hk_ (fun hs_ => fun e_ => Nat.not_le.2 hs_ (by rw [e_]; exact GW446.out)) (fun hn_ => (Kd.freshB (kb_ BK446) k_ hn_)), Or.elim hk_ (fun hs_ => fun e_ => Nat.not_le.2 hs_ (by rw [e_]; exact GW447.out)) (fun hn_ => (Kd.freshB (kb_ BK447) k_ hn_))⟩)) (below_size (bl_ HB))); have n1_ := Aside0.mk (blk_below (kb_ BK446) hb); have n2_ := Aside0.mk (blk_below (kb_ BK447) hb); have n3_ := Aside0.mk (below_step (bl_ HB) hb); clear BK446; clear BK447; clear HB; have HO455 := n0_; have BK446 := n1_; have BK447 := n2_; have HB := n3_; clear n0_ n1_ n2_ n3_; (try clear hb); (try clear hk); (try clear ho0); obtain ⟨Ao55, co55, eo55⟩ := Kd.N_slice HO455.out; subst eo55) | ((with_reducible refine gate_callee (f := 10) rfl ?_); refine gl_ (some 37) Try.func10 #[.agg #[.string t451, .int .i64 t452, .slice Ao55 t453.length co55]] ?_; (with_reducible refine (script_Check.calls kj5 t451 t452 _ _ t453 t456 t457 _ ?side1 ?side2 A29.out).mono ?_); (case side1 => repeat (first | exact (Kd.N_reads' HO455.out).2.2 | (with_reducible refine Kd.C_alloc ?_ _) | (with_reducible refine Kd.C_drewN ?_ _) | (with_reducible refine Kd.C_drew ?_))); (case side2 => exact (Kd.N_reads' HO455.out).2.1); rintro e w56 ⟨rfl, hb⟩; refine ⟨_, rfl, ?_⟩; have n0_ := Aside0.mk (Kd.N_below (kn_ HO455) hb); have n1_ := Aside0.mk (blk_below (kb_ BK446) hb); have n2_ := Aside0.mk (blk_below (kb_ BK447) hb); have n3_ := Aside0.mk (below_step (bl_ HB) hb); clear HO455; clear BK446; clear BK447; clear HB; have HO455 := n0_; have BK446 := n1_; have BK447 := n2_; have HB := n3_; clear n0_ n1_ n2_ n3_; (try clear hb); (try clear hk); obtain ⟨hcz57_0, hcz57_1, hcz57_2, hfz57_0, hfz57_1, hfz57_2⟩ := bb3_ BK446.out) | ((with_reducible refine gate_callee (f := 18) rfl ?_); refine gl_ (some 42) Try.func18 #[.agg #[.string a0_0, .int .i64 a0_1, .slice A0_2 l0_2.length c0_2]] ?_; (with_reducible refine (outlawref25_Check.calls kj5 a0_0 a0_1 _ _ l0_2 t458 t459 _ ?side1 ?side2 A30.out).mono ?_); (case side1 => repeat (first | exact (Kd.C_below HR0_2.out HB.out) | (with_reducible refine Kd.C_alloc ?_ _) | (with_reducible refine Kd.C_drewN ?_ _) | (with_reducible refine Kd.C_drew ?_))); (case side2 => exact HC0_2.out); rintro e w58 ⟨rfl, hb⟩; refine ⟨_, rfl, ?_⟩; have n0_ := Aside0.mk (Kd.N_below (kn_ HO455) hb); have n1_ := Aside0.mk (blk_below (kb_ BK446) hb); have n2_ := Aside0.mk (blk_below (kb_ BK447) hb); have n3_ := Aside0.mk (below_step (bl_ HB) hb); clear HO455; clear BK446; clear BK447; clear HB; have HO455 := n0_; have BK446 := n1_; have BK447 := n2_; have HB := n3_; clear n0_ n1_ n2_ n3_; (try clear hb); (try clear hk); obtain ⟨hcz59_0, hcz59_1, hcz59_2, hfz59_0, hfz59_1, hfz59_2⟩ := bb3_ BK446.out) | ((with_reducible refine gate_callee (f := 15) rfl ?_); refine gl_ (some 47) Try.func15 #[.agg #[.string a0_0, .int .i64 a0_1, .slice A0_2 l0_2.length c0_2]] ?_; (with_reducible refine (outlawlaw25_own.calls kj5 a0_0 a0_1 (fun k_ => k_ < w.heap.size) _ _ l0_2 t460 t461 t462 _ ?side1 A31.out).mono ?_); (case side1 => exact Kd.V_mk HC0_2.out (Kd.F_below (Kd.C_F k45_heap HR0_2.out) (bl_ HB))); rintro e w60 ⟨v463, rfl, ho0, hb⟩; refine ⟨_, rfl, ?_⟩; have n0_ := Aside0.mk (Kd.N_elder' (kn_ HO455) (Kd.N_base ho0) hb); have n1_ := Aside0.mk (Kd.N_lower (Kd.N_mono (ok' := fun k_ => some k_ ≠ (.slice Ao55 t453.length co55 : Value).ownBlock ∧ k_ ≠ gb446 ∧ k_ ≠ gb447) ho0 (fun k_ hk_ => ⟨Or.elim hk_ (fun hs_ => fun e_ => Nat.not_le.2 hs_ (Kd.N_base HO455.out k_ e_.symm)) (fun hn_ => (Kd.fresh' (Kd.N_lt (kn_ HO455)) k_ hn_)), Or.elim hk_ (fun hs_ => fun e_ => Nat.not_le.2 hs_ (by rw [e_]; exact GW446.out)) (fun hn_ => (Kd.freshB (kb_ BK446) k_ hn_)), Or.elim hk_ (fun hs_ => fun e_ => Nat.not_le.2 hs_ (by rw [e_]; exact GW447.out)) (fun hn_ => (Kd.freshB (kb_ BK447) k_ hn_))⟩)) (below_size (bl_ HB))); have n2_ := Aside0.mk (blk_below (kb_ BK446) hb); have n3_ := Aside0.mk (blk_below (kb_ BK447) hb); have n4_ := Aside0.mk (below_step (bl_ HB) hb); clear HO455; clear BK446; clear BK447; clear HB; have HO455 := n0_; have HO464 := n1_; have BK446 := n2_; have BK447 := n3_; have HB := n4_; clear n0_ n1_ n2_ n3_ n4_; (try clear hb); (try clear hk); (try clear ho0); obtain ⟨Ao61, co61, eo61⟩ := Kd.N_slice HO464.out; subst eo61) | ((with_reducible refine gate_callee (f := 11) rfl ?_); refine gl_ (some 48) Try.func11 #[.agg #[.string t460, .int .i64 t461, .slice Ao61 t462.length co61]] ?_; (with_reducible refine (script_Bytes.calls kj5 t460 t461 _ _ t462 t465 t466 _ ?side1 ?side2 A32.out).mono ?_); (case side1 => repeat (first | exact (Kd.N_reads' HO464.out).2.2 | (with_reducible refine Kd.C_alloc ?_ _) | (with_reducible refine Kd.C_drewN ?_ _) | (with_reducible refine Kd.C_drew ?_))); (case side2 => exact (Kd.N_reads' HO464.out).2.1); rintro e w62 ⟨rfl, hb⟩; refine ⟨_, rfl, ?_⟩; have n0_ := Aside0.mk (Kd.N_below (kn_ HO455) hb); have n1_ := Aside0.mk (Kd.N_below (kn_ HO464) hb); have n2_ := Aside0.mk (blk_below (kb_ BK446) hb); have n3_ := Aside0.mk (blk_below (kb_ BK447) hb); have n4_ := Aside0.mk (below_step (bl_ HB) hb); clear HO455; clear HO464; clear BK446; clear BK447; clear HB; have HO455 := n0_; have HO464 := n1_; have BK446 := n2_; have BK447 := n3_; have HB := n4_; clear n0_ n1_ n2_ n3_ n4_; (try clear hb); (try clear hk); obtain ⟨hcz63_0, hcz63_1, hcz63_2, hfz63_0, hfz63_1, hfz63_2⟩ := bb3_ BK446.out) | ((with_reducible refine gate_callee (f := 19) rfl ?_); refine gl_ (some 53) Try.func19 #[.agg #[.string a0_0, .int .i64 a0_1, .slice A0_2 l0_2.length c0_2]] ?_; (with_reducible refine (outlawref25_Bytes.calls a0_0 a0_1 _ _ l0_2 t467 t468 _ ?side1 ?side2 A33.out).mono ?_); (case side1 => repeat (first | exact (Kd.C_below HR0_2.out HB.out) | (with_reducible refine Kd.C_alloc ?_ _) | (with_reducible refine Kd.C_drewN ?_ _) | (with_reducible refine Kd.C_drew ?_))); (case side2 => exact HC0_2.out); rintro e w64 ⟨rfl, hb⟩; refine ⟨_, rfl, ?_⟩; have n0_ := Aside0.mk (Kd.N_below (kn_ HO455) hb); have n1_ := Aside0.mk (Kd.N_below (kn_ HO464) hb); have n2_ := Aside0.mk (blk_below (kb_ BK446) hb); have n3_ := Aside0.mk (blk_below (kb_ BK447) hb); have n4_ := Aside0.mk (below_step (bl_ HB) hb); clear HO455; clear HO464; clear BK446; clear BK447; clear HB; have HO455 := n0_; have HO464 := n1_; have BK446 := n2_; have BK447 := n3_; have HB := n4_; clear n0_ n1_ n2_ n3_ n4_; (try clear hb); (try clear hk)) | ((with_reducible refine gate_callee (f := 12) rfl ?_); refine gl_ (some 58) Try.func12 #[.string a2] ?_; (with_reducible refine (script_Read.calls a2 t469 t470 t471 t474 _ A34.out).mono ?_); rintro e w65 ⟨v472, rfl, ho0, hb⟩; refine ⟨_, rfl, ?_⟩; have n0_ := Aside0.mk (Kd.N_elder' (kn_ HO455) (Kd.N_base (Kd.S_N ho0)) hb); have n1_ := Aside0.mk (Kd.N_elder' (kn_ HO464) (Kd.N_base (Kd.S_N ho0)) hb); have n2_ := Aside0.mk (Kd.N_lower (Kd.N_mono (ok' := fun k_ => some k_ ≠ (.slice Ao55 t453.length co55 : Value).ownBlock ∧ some k_ ≠ (.slice Ao61 t462.length co61 : Value).ownBlock ∧ k_ ≠ gb446 ∧ k_ ≠ gb447) (Kd.S_N (Kd.S_bound ho0)) (fun k_ hk_ => ⟨(Kd.fresh' (Kd.N_lt (kn_ HO455)) k_ hk_.2.1), (Kd.fresh' (Kd.N_lt (kn_ HO464)) k_ hk_.2.1), (Kd.freshB (kb_ BK446) k_ hk_.2.1), (Kd.freshB (kb_ BK447) k_ hk_.2.1)⟩)) (below_size (bl_ HB))); have n3_ := Aside0.mk (blk_below (kb_ BK446) hb); have n4_ := Aside0.mk (blk_below (kb_ BK447) hb); have n5_ := Aside0.mk (below_step (bl_ HB) hb); clear HO455; clear HO464; clear BK446; clear BK447; clear HB; have HO455 := n0_; have HO464 := n1_; have HO473 := n2_; have BK446 := n3_; have BK447 := n4_; have HB := n5_; clear n0_ n1_ n2_ n3_ n4_ n5_; (try clear hb); (try clear hk); (try clear ho0)) | ((with_reducible refine gate_dst (N := 15) rfl ?_); (try (refine gate_guard (by rfl) ?_; dsimp only)); refine be_ 15 #[.string (⟨#[]⟩ : ByteArray), .int .i64 0, .slice none 0 0] 24 ?_; intro gb475 hg w66 hbox hb; have n0_ := Aside0.mk (Kd.N_below (Kd.N_elderB (kn_ HO455) gb475 (Nat.le_of_eq hg.symm)) hb); have n1_ := Aside0.mk (Kd.N_below (Kd.N_elderB (kn_ HO464) gb475 (Nat.le_of_eq hg.symm)) hb); have n2_ := Aside0.mk (Kd.N_below (Kd.N_elderB (kn_ HO473) gb475 (Nat.le_of_eq hg.symm)) hb); have n3_ := Aside0.mk (blk_below (kb_ BK446) hb); have n4_ := Aside0.mk (blk_below (kb_ BK447) hb); have n5_ := Aside0.mk (below_step (bl_ HB) hb); have n6_ := Aside0.mk (hbox); have n7_ := Aside0.mk ((by rw [hg]; exact (below_size (bl_ HB)) : w.heap.size ≤ gb475)); have n8_ := Aside0.mk ((by rw [hg]; exact (below_size (bl_ HB)) : w.heap.size ≤ gb475)); have n9_ := Aside0.mk ((by rw [hg]; exact Nat.ne_of_lt (blk_lt (kb_ BK446)) : gb446 ≠ gb475)); have n10_ := Aside0.mk ((by rw [hg]; exact Nat.ne_of_gt (blk_lt (kb_ BK446)) : gb475 ≠ gb446)); have n11_ := Aside0.mk ((by rw [hg]; exact Nat.ne_of_lt (blk_lt (kb_ BK447)) : gb447 ≠ gb475)); have n12_ := Aside0.mk ((by rw [hg]; exact Nat.ne_of_gt (blk_lt (kb_ BK447)) : gb475 ≠ gb447)); clear HO455; clear HO464; clear HO473; clear BK446; clear BK447; clear HB; have HO455 := n0_; have HO464 := n1_; have HO473 := n2_; have BK446 := n3_; have BK447 := n4_; have HB := n5_; have BK475 := n6_; have GW475 := n7_; have GE475 := n8_; have NB446_475 := n9_; have NB475_446 := n10_; have NB447_475 := n11_; have NB475_447 := n12_; clear n0_ n1_ n2_ n3_ n4_ n5_ n6_ n7_ n8_ n9_ n10_ n11_ n12_; clear hb hbox hg; have hnb67 := NB475_446.out; have hnc67 := NB446_475.out; have hnb68 := NB475_447.out; have hnc68 := NB447_475.out; obtain ⟨hcz69_0, hcz69_1, hcz69_2, hfz69_0, hfz69_1, hfz69_2⟩ := bb3_ BK475.out; obtain ⟨Ao70, co70, eo70⟩ := Kd.N_slice HO473.out; subst eo70) | ((with_reducible refine gate_callee (f := 20) rfl ?_); refine gl_ (some 63) Try.func20 #[.string a2] ?_; (with_reducible refine (outlawref25_Read.calls a2 t476 t477 t478 t481 _ A35.out).mono ?_); rintro e w71 ⟨v479, rfl, ho0, hb⟩; refine ⟨_, rfl, ?_⟩; have n0_ := Aside0.mk (Kd.N_elder' (by (with_reducible repeat (first | apply Kd.N_alloc | apply Kd.N_drewN | apply Kd.N_drew)); exact (Kd.N_mono (Kd.N_far (p := ⟨gb475, 2, none⟩) (Kd.N_far (p := ⟨gb475, 1, none⟩) (Kd.N_far (p := ⟨gb475, 0, none⟩) (Kd.N_mono HO455.out (fun k_ hk => (⟨hk, hk.2⟩ : _ ∧ k_ ≠ gb475))) (fun _ hk => hk.2) (.string t469)) (fun _ hk => hk.2) (.int .i64 t470)) (fun _ hk => hk.2) (.slice Ao70 t471.length co70)) (fun _ h_ => h_.1))) (Kd.N_base (Kd.S_N ho0)) hb); have n1_ := Aside0.mk (Kd.N_elder' (by (with_reducible repeat (first | apply Kd.N_alloc | apply Kd.N_drewN | apply Kd.N_drew)); exact (Kd.N_mono (Kd.N_far (p := ⟨gb475, 2, none⟩) (Kd.N_far (p := ⟨gb475, 1, none⟩) (Kd.N_far (p := ⟨gb475, 0, none⟩) (Kd.N_mono HO464.out (fun k_ hk => (⟨hk, hk.2⟩ : _ ∧ k_ ≠ gb475))) (fun _ hk => hk.2) (.string t469)) (fun _ hk => hk.2) (.int .i64 t470)) (fun _ hk => hk.2) (.slice Ao70 t471.length co70)) (fun _ h_ => h_.1))) (Kd.N_base (Kd.S_N ho0)) hb); have n2_ := Aside0.mk (Kd.N_elder' (by (with_reducible repeat (first | apply Kd.N_alloc | apply Kd.N_drewN | apply Kd.N_drew)); exact (Kd.N_mono (Kd.N_far (p := ⟨gb475, 2, none⟩) (Kd.N_far (p := ⟨gb475, 1, none⟩) (Kd.N_far (p := ⟨gb475, 0, none⟩) (Kd.N_mono HO473.out (fun k_ hk => (⟨hk, hk.2⟩ : _ ∧ k_ ≠ gb475))) (fun _ hk => hk.2) (.string t469)) (fun _ hk => hk.2) (.int .i64 t470)) (fun _ hk => hk.2) (.slice Ao70 t471.length co70)) (fun _ h_ => h_.1))) (Kd.N_base (Kd.S_N ho0)) hb); have n3_ := Aside0.mk (Kd.N_lower (Kd.N_mono (ok' := fun k_ => some k_ ≠ (.slice Ao55 t453.length co55 : Value).ownBlock ∧ some k_ ≠ (.slice Ao61 t462.length co61 : Value).ownBlock ∧ some k_ ≠ (.slice Ao70 t471.length co70 : Value).ownBlock ∧ k_ ≠ gb446 ∧ k_ ≠ gb447 ∧ k_ ≠ gb475) (Kd.S_N (Kd.S_bound ho0)) (fun k_ hk_ => ⟨(Kd.fresh' (Kd.N_lt (by (with_reducible repeat (first | apply Kd.N_alloc | apply Kd.N_drewN | apply Kd.N_drew)); exact (Kd.N_mono (Kd.N_far (p := ⟨gb475, 2, none⟩) (Kd.N_far (p := ⟨gb475, 1, none⟩) (Kd.N_far (p := ⟨gb475, 0, none⟩) (Kd.N_mono HO455.out (fun k_ hk => (⟨hk, hk.2⟩ : _ ∧ k_ ≠ gb475))) (fun _ hk => hk.2) (.string t469)) (fun _ hk => hk.2) (.int .i64 t470)) (fun _ hk => hk.2) (.slice Ao70 t471.length co70)) (fun _ h_ => h_.1)))) k_ hk_.2.1), (Kd.fresh' (Kd.N_lt (by (with_reducible repeat (first | apply Kd.N_alloc | apply Kd.N_drewN | apply Kd.N_drew)); exact (Kd.N_mono (Kd.N_far (p := ⟨gb475, 2, none⟩) (Kd.N_far (p := ⟨gb475, 1, none⟩) (Kd.N_far (p := ⟨gb475, 0, none⟩) (Kd.N_mono HO464.out (fun k_ hk => (⟨hk, hk.2⟩ : _ ∧ k_ ≠ gb475))) (fun _ hk => hk.2) (.string t469)) (fun _ hk => hk.2) (.int .i64 t470)) (fun _ hk => hk.2) (.slice Ao70 t471.length co70)) (fun _ h_ => h_.1)))) k_ hk_.2.1), (Kd.fresh' (Kd.N_lt (by (with_reducible repeat (first | apply Kd.N_alloc | apply Kd.N_drewN | apply Kd.N_drew)); exact (Kd.N_mono (Kd.N_far (p := ⟨gb475, 2, none⟩) (Kd.N_far (p := ⟨gb475, 1, none⟩) (Kd.N_far (p := ⟨gb475, 0, none⟩) (Kd.N_mono HO473.out (fun k_ hk => (⟨hk, hk.2⟩ : _ ∧ k_ ≠ gb475))) (fun _ hk => hk.2) (.string t469)) (fun _ hk => hk.2) (.int .i64 t470)) (fun _ hk => hk.2) (.slice Ao70 t471.length co70)) (fun _ h_ => h_.1)))) k_ hk_.2.1), (Kd.freshB (kb_ BK446) k_ hk_.2.1), (Kd.freshB (kb_ BK447) k_ hk_.2.1), (Kd.freshB (g := gb475) (o := .cells #[.string t469, .int .i64 t470, .slice Ao70 t471.length co70] 24 (0, 0)) (by (with_reducible repeat (first | refine blk_drewN ?_ _ | refine blk_drew ?_ | refine blk_alloc ?_ _)); refine blk_put (cs := #[.string t469, .int .i64 t470, .slice none 0 0]) ?_ 2 _ rfl; (with_reducible repeat (first | refine blk_drewN ?_ _ | refine blk_drew ?_ | refine blk_alloc ?_ _)); refine blk_put (cs := #[.string t469, .int .i64 0, .slice none 0 0]) ?_ 1 _ rfl; (with_reducible repeat (first | refine blk_drewN ?_ _ | refine blk_drew ?_ | refine blk_alloc ?_ _)); refine blk_put (cs := #[.string (⟨#[]⟩ : ByteArray), .int .i64 0, .slice none 0 0]) ?_ 0 _ rfl; (with_reducible repeat (first | refine blk_drewN ?_ _ | refine blk_drew ?_ | refine blk_alloc ?_ _)); exact BK475.out) k_ hk_.2.1)⟩)) (below_size (bl_ HB))); have n4_ := Aside0.mk (blk_below (kb_ BK446) hb); have n5_ := Aside0.mk (blk_below (kb_ BK447) hb); have n6_ := Aside0.mk (blk_below (g := gb475) (o := .cells #[.string t469, .int .i64 t470, .slice Ao70 t471.length co70] 24 (0, 0)) (by (with_reducible repeat (first | refine blk_drewN ?_ _ | refine blk_drew ?_ | refine blk_alloc ?_ _)); refine blk_put (cs := #[.string t469, .int .i64 t470, .slice none 0 0]) ?_ 2 _ rfl; (with_reducible repeat (first | refine blk_drewN ?_ _ | refine blk_drew ?_ | refine blk_alloc ?_ _)); refine blk_put (cs := #[.string t469, .int .i64 0, .slice none 0 0]) ?_ 1 _ rfl; (with_reducible repeat (first | refine blk_drewN ?_ _ | refine blk_drew ?_ | refine blk_alloc ?_ _)); refine blk_put (cs := #[.string (⟨#[]⟩ : ByteArray), .int .i64 0, .slice none 0 0]) ?_ 0 _ rfl; (with_reducible repeat (first | refine blk_drewN ?_ _ | refine blk_drew ?_ | refine blk_alloc ?_ _)); exact BK475.out) hb); have n7_ := Aside0.mk (below_step (bl_ HB) hb); clear HO455; clear HO464; clear HO473; clear BK446; clear BK447; clear BK475; clear HB; have HO455 := n0_; have HO464 := n1_; have HO473 := n2_; have HO480 := n3_; have BK446 := n4_; have BK447 := n5_; have BK475 := n6_; have HB := n7_; clear n0_ n1_ n2_ n3_ n4_ n5_ n6_ n7_; (try clear hb); (try clear hk); (try clear ho0)) | ((with_reducible refine gate_dst (N := 17) rfl ?_); (try (refine gate_guard (by rfl) ?_; dsimp only)); refine be_ 17 #[.string (⟨#[]⟩ : ByteArray), .int .i64 0, .slice none 0 0] 24 ?_; intro gb482 hg w72 hbox hb; have n0_ := Aside0.mk (Kd.N_below (Kd.N_elderB (kn_ HO455) gb482 (Nat.le_of_eq hg.symm)) hb); have n1_ := Aside0.mk (Kd.N_below (Kd.N_elderB (kn_ HO464) gb482 (Nat.le_of_eq hg.symm)) hb); have n2_ := Aside0.mk (Kd.N_below (Kd.N_elderB (kn_ HO473) gb482 (Nat.le_of_eq hg.symm)) hb); have n3_ := Aside0.mk (Kd.N_below (Kd.N_elderB (kn_ HO480) gb482 (Nat.le_of_eq hg.symm)) hb); have n4_ := Aside0.mk (blk_below (kb_ BK446) hb); have n5_ := Aside0.mk (blk_below (kb_ BK447) hb); have n6_ := Aside0.mk (blk_below (kb_ BK475) hb); have n7_ := Aside0.mk (below_step (bl_ HB) hb); have n8_ := Aside0.mk (hbox); have n9_ := Aside0.mk ((by rw [hg]; exact (below_size (bl_ HB)) : w.heap.size ≤ gb482)); have n10_ := Aside0.mk ((by rw [hg]; exact (below_size (bl_ HB)) : w.heap.size ≤ gb482)); have n11_ := Aside0.mk ((by rw [hg]; exact Nat.ne_of_lt (blk_lt (kb_ BK446)) : gb446 ≠ gb482)); have n12_ := Aside0.mk ((by rw [hg]; exact Nat.ne_of_gt (blk_lt (kb_ BK446)) : gb482 ≠ gb446)); have n13_ := Aside0.mk ((by rw [hg]; exact Nat.ne_of_lt (blk_lt (kb_ BK447)) : gb447 ≠ gb482)); have n14_ := Aside0.mk ((by rw [hg]; exact Nat.ne_of_gt (blk_lt (kb_ BK447)) : gb482 ≠ gb447)); have n15_ := Aside0.mk ((by rw [hg]; exact Nat.ne_of_lt (blk_lt (kb_ BK475)) : gb475 ≠ gb482)); have n16_ := Aside0.mk ((by rw [hg]; exact Nat.ne_of_gt (blk_lt (kb_ BK475)) : gb482 ≠ gb475)); clear HO455; clear HO464; clear HO473; clear HO480; clear BK446; clear BK447; clear BK475; clear HB; have HO455 := n0_; have HO464 := n1_; have HO473 := n2_; have HO480 := n3_; have BK446 := n4_; have BK447 := n5_; have BK475 := n6_; have HB := n7_; have BK482 := n8_; have GW482 := n9_; have GE482 := n10_; have NB446_482 := n11_; have NB482_446 := n12_; have NB447_482 := n13_; have NB482_447 := n14_; have NB475_482 := n15_; have NB482_475 := n16_; clear n0_ n1_ n2_ n3_ n4_ n5_ n6_ n7_ n8_ n9_ n10_ n11_ n12_ n13_ n14_ n15_ n16_; clear hb hbox hg; have hnb73 := NB482_446.out; have hnc73 := NB446_482.out; have hnb74 := NB482_447.out; have hnc74 := NB447_482.out; have hnb75 := NB482_475.out; have hnc75 := NB475_482.out; obtain ⟨hcz76_0, hcz76_1, hcz76_2, hfz76_0, hfz76_1, hfz76_2⟩ := bb3_ BK482.out; obtain ⟨Ao77, co77, eo77⟩ := Kd.N_slice HO480.out; subst eo77))
             have n0_ : Aside0 (Kd.N k45 45 (((w72.setCell ⟨gb482, 0, none⟩ (.string t476)).setCell ⟨gb482, 1, none⟩ (.int .i64 t477)).setCell ⟨gb482, 2, none⟩ (.slice Ao77 t478.length co77)) w.heap.size (fun k_ => some k_ ≠ (.slice Ao61 t462.length co61 : Value).ownBlock ∧ some k_ ≠ (.slice Ao70 t471.length co70 : Value).ownBlock ∧ some k_ ≠ (.slice Ao77 t478.length co77 : Value).ownBlock ∧ k_ ≠ gb446 ∧ k_ ≠ gb447 ∧ k_ ≠ gb475 ∧ k_ ≠ gb482) (.slice Ao55 t453.length co55) t453) := ⟨by (with_reducible repeat (first | apply Kd.N_alloc | apply Kd.N_drewN | apply Kd.N_drew)); exact Kd.N_mono (Kd.N_far (p := ⟨gb482, 2, none⟩) (Kd.N_far (p := ⟨gb482, 1, none⟩) (Kd.N_far (p := ⟨gb482, 0, none⟩) (Kd.N_mono HO455.out (fun k_ hk => (⟨hk, hk.2⟩ : _ ∧ k_ ≠ gb482))) (fun _ hk => hk.2) (.string t476)) (fun _ hk => hk.2) (.int .i64 t477)) (fun _ hk => hk.2) (.slice Ao77 t478.length co77)) (fun _ hk => ⟨hk.1.1.1.1.1.2, ⟨hk.1.1.1.1.2, ⟨hk.1.1.2, ⟨hk.1.1.1.1.1.1.1, ⟨hk.1.1.1.1.1.1.2, ⟨hk.1.1.1.2, hk.1.2⟩⟩⟩⟩⟩⟩)⟩
             have n1_ : Aside0 (Kd.N k45 45 (((w72.setCell ⟨gb482, 0, none⟩ (.string t476)).setCell ⟨gb482, 1, none⟩ (.int .i64 t477)).setCell ⟨gb482, 2, none⟩ (.slice Ao77 t478.length co77)) w.heap.size (fun k_ => some k_ ≠ (.slice Ao55 t453.length co55 : Value).ownBlock ∧ some k_ ≠ (.slice Ao70 t471.length co70 : Value).ownBlock ∧ some k_ ≠ (.slice Ao77 t478.length co77 : Value).ownBlock ∧ k_ ≠ gb446 ∧ k_ ≠ gb447 ∧ k_ ≠ gb475 ∧ k_ ≠ gb482) (.slice Ao61 t462.length co61) t462) := ⟨by (with_reducible repeat (first | apply Kd.N_alloc | apply Kd.N_drewN | apply Kd.N_drew)); exact Kd.N_mono (Kd.N_far (p := ⟨gb482, 2, none⟩) (Kd.N_far (p := ⟨gb482, 1, none⟩) (Kd.N_far (p := ⟨gb482, 0, none⟩) (Kd.N_mono HO464.out (fun k_ hk => (⟨hk, hk.2⟩ : _ ∧ k_ ≠ gb482))) (fun _ hk => hk.2) (.string t476)) (fun _ hk => hk.2) (.int .i64 t477)) (fun _ hk => hk.2) (.slice Ao77 t478.length co77)) (fun _ hk => ⟨hk.1.1.1.1.1.1, ⟨hk.1.1.1.1.2, ⟨hk.1.1.2, ⟨hk.1.1.1.1.1.2.1, ⟨hk.1.1.1.1.1.2.2, ⟨hk.1.1.1.2, hk.1.2⟩⟩⟩⟩⟩⟩)⟩
             have n2_ : Aside0 (Kd.N k45 45 (((w72.setCell ⟨gb482, 0, none⟩ (.string t476)).setCell ⟨gb482, 1, none⟩ (.int .i64 t477)).setCell ⟨gb482, 2, none⟩ (.slice Ao77 t478.length co77)) w.heap.size (fun k_ => some k_ ≠ (.slice Ao55 t453.length co55 : Value).ownBlock ∧ some k_ ≠ (.slice Ao61 t462.length co61 : Value).ownBlock ∧ some k_ ≠ (.slice Ao77 t478.length co77 : Value).ownBlock ∧ k_ ≠ gb446 ∧ k_ ≠ gb447 ∧ k_ ≠ gb475 ∧ k_ ≠ gb482) (.slice Ao70 t471.length co70) t471) := ⟨by (with_reducible repeat (first | apply Kd.N_alloc | apply Kd.N_drewN | apply Kd.N_drew)); exact Kd.N_mono (Kd.N_far (p := ⟨gb482, 2, none⟩) (Kd.N_far (p := ⟨gb482, 1, none⟩) (Kd.N_far (p := ⟨gb482, 0, none⟩) (Kd.N_mono HO473.out (fun k_ hk => (⟨hk, hk.2⟩ : _ ∧ k_ ≠ gb482))) (fun _ hk => hk.2) (.string t476)) (fun _ hk => hk.2) (.int .i64 t477)) (fun _ hk => hk.2) (.slice Ao77 t478.length co77)) (fun _ hk => ⟨hk.1.1.1.1.1, ⟨hk.1.1.1.1.2.1, ⟨hk.1.1.2, ⟨hk.1.1.1.1.2.2.1, ⟨hk.1.1.1.1.2.2.2, ⟨hk.1.1.1.2, hk.1.2⟩⟩⟩⟩⟩⟩)⟩
             have n3_ : Aside0 (Kd.N k45 45 (((w72.setCell ⟨gb482, 0, none⟩ (.string t476)).setCell ⟨gb482, 1, none⟩ (.int .i64 t477)).setCell ⟨gb482, 2, none⟩ (.slice Ao77 t478.length co77)) w.heap.size (fun k_ => some k_ ≠ (.slice Ao55 t453.length co55 : Value).ownBlock ∧ some k_ ≠ (.slice Ao61 t462.length co61 : Value).ownBlock ∧ some k_ ≠ (.slice Ao70 t471.length co70 : Value).ownBlock ∧ k_ ≠ gb446 ∧ k_ ≠ gb447 ∧ k_ ≠ gb475 ∧ k_ ≠ gb482) (.slice Ao77 t478.length co77) t478) := ⟨by (with_reducible repeat (first | apply Kd.N_alloc | apply Kd.N_drewN | apply Kd.N_drew)); exact Kd.N_mono (Kd.N_far (p := ⟨gb482, 2, none⟩) (Kd.N_far (p := ⟨gb482, 1, none⟩) (Kd.N_far (p := ⟨gb482, 0, none⟩) (Kd.N_mono HO480.out (fun k_ hk => (⟨hk, hk.2⟩ : _ ∧ k_ ≠ gb482))) (fun _ hk => hk.2) (.string t476)) (fun _ hk => hk.2) (.int .i64 t477)) (fun _ hk => hk.2) (.slice Ao77 t478.length co77)) (fun _ hk => ⟨hk.1.1.1, ⟨hk.1.1.2.1, ⟨hk.1.1.2.2.1, ⟨hk.1.1.2.2.2.1, ⟨hk.1.1.2.2.2.2.1, ⟨hk.1.1.2.2.2.2.2, hk.1.2⟩⟩⟩⟩⟩⟩)⟩
             have n4_ : Aside0 ((((w72.setCell ⟨gb482, 0, none⟩ (.string t476)).setCell ⟨gb482, 1, none⟩ (.int .i64 t477)).setCell ⟨gb482, 2, none⟩ (.slice Ao77 t478.length co77)).heap[gb446]? = some (.cells #[.string a0_0, .int .i64 a0_1, .slice A0_2 l0_2.length c0_2] 24 (0, 0))) := ⟨kb_ BK446⟩
             have n5_ : Aside0 ((((w72.setCell ⟨gb482, 0, none⟩ (.string t476)).setCell ⟨gb482, 1, none⟩ (.int .i64 t477)).setCell ⟨gb482, 2, none⟩ (.slice Ao77 t478.length co77)).heap[gb447]? = some (.cells #[.string a1_0, .int .i64 a1_1, .slice A1_2 l1_2.length c1_2] 24 (0, 0))) := ⟨kb_ BK447⟩
             have n6_ : Aside0 ((((w72.setCell ⟨gb482, 0, none⟩ (.string t476)).setCell ⟨gb482, 1, none⟩ (.int .i64 t477)).setCell ⟨gb482, 2, none⟩ (.slice Ao77 t478.length co77)).heap[gb475]? = some (.cells #[.string t469, .int .i64 t470, .slice Ao70 t471.length co70] 24 (0, 0))) := ⟨kb_ BK475⟩
             have n7_ : Aside0 ((((w72.setCell ⟨gb482, 0, none⟩ (.string t476)).setCell ⟨gb482, 1, none⟩ (.int .i64 t477)).setCell ⟨gb482, 2, none⟩ (.slice Ao77 t478.length co77)).heap[gb482]? = some (.cells #[.string t476, .int .i64 t477, .slice Ao77 t478.length co77] 24 (0, 0))) := ⟨by (with_reducible repeat (first | refine blk_drewN ?_ _ | refine blk_drew ?_ | refine blk_alloc ?_ _)); refine blk_put (cs := #[.string t476, .int .i64 t477, .slice none 0 0]) ?_ 2 _ rfl; (with_reducible repeat (first | refine blk_drewN ?_ _ | refine blk_drew ?_ | refine blk_alloc ?_ _)); refine blk_put (cs := #[.string t476, .int .i64 0, .slice none 0 0]) ?_ 1 _ rfl; (with_reducible repeat (first | refine blk_drewN ?_ _ | refine blk_drew ?_ | refine blk_alloc ?_ _)); refine blk_put (cs := #[.string (⟨#[]⟩ : ByteArray), .int .i64 0, .slice none 0 0]) ?_ 0 _ rfl; (with_reducible repeat (first | refine blk_drewN ?_ _ | refine blk_drew ?_ | refine blk_alloc ?_ _)); exact BK482.out⟩
             have n8_ : Aside0 (Below w.heap.size w (((w72.setCell ⟨gb482, 0, none⟩ (.string t476)).setCell ⟨gb482, 1, none⟩ (.int .i64 t477)).setCell ⟨gb482, 2, none⟩ (.slice Ao77 t478.length co77))) := ⟨bl_ HB⟩
             (try clear HO455)
             (try clear HO464)
             (try clear HO473)
             (try clear HO480)
             (try clear BK446)
             (try clear BK447)
             (try clear BK475)
             (try clear BK482)
             (try clear HB)
             generalize (((w72.setCell ⟨gb482, 0, none⟩ (.string t476)).setCell ⟨gb482, 1, none⟩ (.int .i64 t477)).setCell ⟨gb482, 2, none⟩ (.slice Ao77 t478.length co77)) = w78 at n0_ n1_ n2_ n3_ n4_ n5_ n6_ n7_ n8_ ⊢
             have HO455 := n0_
             have HO464 := n1_
             have HO473 := n2_
             have HO480 := n3_
             have BK446 := n4_
             have BK447 := n5_
             have BK475 := n6_
             have BK482 := n7_
             have HB := n8_
             clear n0_ n1_ n2_ n3_ n4_ n5_ n6_ n7_ n8_
             have n0_ := Aside0.mk (Kd.N_drew HO455.out)
             have n1_ := Aside0.mk (Kd.N_drew HO464.out)
             have n2_ := Aside0.mk (Kd.N_drew HO473.out)
             have n3_ := Aside0.mk (Kd.N_drew HO480.out)
             have n4_ := Aside0.mk (blk_drew BK446.out)
             have n5_ := Aside0.mk (blk_drew BK447.out)
             have n6_ := Aside0.mk (blk_drew BK475.out)
             have n7_ := Aside0.mk (blk_drew BK482.out)
             have n8_ := Aside0.mk (below_drew1 HB.out)
             clear HO455
             clear HO464
             clear HO473
             clear HO480
             clear BK446
             clear BK447
             clear BK475
             clear BK482
             clear HB
             have HO455 := n0_
             have HO464 := n1_
             have HO473 := n2_
             have HO480 := n3_
             have BK446 := n4_
             have BK447 := n5_
             have BK475 := n6_
             have BK482 := n7_
             have HB := n8_
             clear n0_ n1_ n2_ n3_ n4_ n5_ n6_ n7_ n8_
             refine start_ (n := 51) (S := fun w' => w'.cell? ⟨gb475, 0, none⟩ = some (.string t469) ∧ w'.cell? ⟨gb475, 1, none⟩ = some (.int .i64 t470) ∧ w'.cell? ⟨gb475, 2, none⟩ = some (.slice Ao70 t471.length co70) ∧ w'.cell? ⟨gb482, 0, none⟩ = some (.string t476) ∧ w'.cell? ⟨gb482, 1, none⟩ = some (.int .i64 t477) ∧ w'.cell? ⟨gb482, 2, none⟩ = some (.slice Ao77 t478.length co77) ∧ w'.cell? ⟨gb446, 0, none⟩ = some (.string a0_0) ∧ w'.cell? ⟨gb446, 1, none⟩ = some (.int .i64 a0_1) ∧ w'.cell? ⟨gb446, 2, none⟩ = some (.slice A0_2 l0_2.length c0_2) ∧ w'.cell? ⟨gb447, 0, none⟩ = some (.string a1_0) ∧ w'.cell? ⟨gb447, 1, none⟩ = some (.int .i64 a1_1) ∧ w'.cell? ⟨gb447, 2, none⟩ = some (.slice A1_2 l1_2.length c1_2)) (ds := []) #[F_,F_,F_,F_,F_,F_,F_,F_,F_,F_,F_,F_,F_,F_,F_,F_,F_,F_,F_,F_,F_,F_,F_,F_,F_,F_,F_,F_,F_,F_,F_,F_,F_,F_,F_,F_,F_,F_,F_,F_,F_,F_,F_,F_,F_,F_,F_,F_,F_,F_,F_] (by kernel_rfl) rfl rfl ⟨(blk_cell BK475.out 0).trans rfl, (blk_cell BK475.out 1).trans rfl, (blk_cell BK475.out 2).trans rfl, (blk_cell BK482.out 0).trans rfl, (blk_cell BK482.out 1).trans rfl, (blk_cell BK482.out 2).trans rfl, (blk_cell BK446.out 0).trans rfl, (blk_cell BK446.out 1).trans rfl, (blk_cell BK446.out 2).trans rfl, (blk_cell BK447.out 0).trans rfl, (blk_cell BK447.out 1).trans rfl, (blk_cell BK447.out 2).trans rfl⟩ (fun hHeld => ?_); refine with_tabW outlawlaw25_ScriptCalls.tab11 outlawlaw25_ScriptCalls.bits11 (fun HT_ HW_ => ?_)
             generalize w78.drew = w79 at HO455 HO464 HO473 HO480 BK446 BK447 BK475 BK482 HB hHeld ⊢
             refine pq_ 0 66 (mb_ 51 1) HT_.out ?_
             refine pq_ 1 67 (mb_ 51 3) HT_.out ?_
             refine pq_ 2 68 (mb_ 51 7) HT_.out ?_
             refine pq_ 3 69 (mb_ 51 15) HT_.out ?_
             refine pq_ 4 70 (mb_ 51 31) HT_.out ?_
             refine pq_ 5 71 (mb_ 51 63) HT_.out ?_
             refine pq_ 6 72 (mb_ 51 127) HT_.out ?_
             refine pq_ 7 73 (mb_ 51 255) HT_.out ?_
             refine pq_ 8 74 (mb_ 51 511) HT_.out ?_
             refine pq_ 9 75 (mb_ 51 1023) HT_.out ?_
             refine pq_ 10 76 (mb_ 51 2047) HT_.out ?_
             refine pq_ 11 77 (mb_ 51 4095) HT_.out ?_
             refine pq_ 12 78 (mb_ 51 8191) HT_.out ?_
             refine pq_ 13 79 (mb_ 51 16383) HT_.out ?_
             refine pq_ 14 80 (mb_ 51 32767) HT_.out ?_
             refine pq_ 15 81 (mb_ 51 65535) HT_.out ?_
             refine pq_ 16 82 (mb_ 51 131071) HT_.out ?_
             refine pq_ 17 83 (mb_ 51 262143) HT_.out ?_
             refine pq_ 18 84 (mb_ 51 524287) HT_.out ?_
             refine tq_ 19 85 (mb_ 51 1048575) HT_.out HW_.out hHeld ?_ (hr := by rintro w' ⟨s0, s1, s2, s3, s4, s5, s6, s7, s8, s9, s10, s11⟩; go_simp; with_reducible rfl)
             refine tq_ 20 86 (mb_ 51 2097151) HT_.out HW_.out hHeld ?_ (hr := by rintro w' ⟨s0, s1, s2, s3, s4, s5, s6, s7, s8, s9, s10, s11⟩; go_simp; with_reducible rfl)
             refine one_ (i := 21) (N := some 87) (mb_ 51 4194303) rfl rfl (one_of HT_.out (by kernel_rfl)) (by decide) (fun K hK => ?_)
             refine goes_ Try.func21 (by kernel_rfl) rfl #[.agg #[.string t469, .int .i64 t470, .slice Ao70 t471.length co70], .agg #[.string t476, .int .i64 t477, .slice Ao77 t478.length co77]] (by rfl) rfl rfl (by (try simp only [List.map_toArray, List.map_cons, List.map_nil]); first | done | rfl | (simp only [List.length_drop, List.length_take]; rfl)) ?_
             with_reducible refine (outlawref25_Same.calls t469 t470 _ _ t471 t476 t477 _ _ t478 true _ ?side1 ?side2 ?side3 ?side4 A40.out).mono ?_
             (case side1 => repeat (first | exact (Kd.N_reads' HO473.out).2.2 | (with_reducible refine Kd.C_alloc ?_ _) | (with_reducible refine Kd.C_drewN ?_ _) | (with_reducible refine Kd.C_drew ?_)))
             (case side2 => exact (Kd.N_reads' HO473.out).2.1)
             (case side3 => repeat (first | exact (Kd.N_reads' HO480.out).2.2 | (with_reducible refine Kd.C_alloc ?_ _) | (with_reducible refine Kd.C_drewN ?_ _) | (with_reducible refine Kd.C_drew ?_)))
             (case side4 => exact (Kd.N_reads' HO480.out).2.1)
             rintro e w80 ⟨rfl, hb⟩
             refine ⟨_, rfl, ?_⟩
             have n0_ := Aside0.mk (Kd.N_below (kn_ HO455) hb)
             have n1_ := Aside0.mk (Kd.N_below (kn_ HO464) hb)
             have n2_ := Aside0.mk (Kd.N_below (kn_ HO473) hb)
             have n3_ := Aside0.mk (Kd.N_below (kn_ HO480) hb)
             have n4_ := Aside0.mk (blk_below (kb_ BK446) hb)
             have n5_ := Aside0.mk (blk_below (kb_ BK447) hb)
             have n6_ := Aside0.mk (blk_below (kb_ BK475) hb)
             have n7_ := Aside0.mk (blk_below (kb_ BK482) hb)
             have n8_ := Aside0.mk (below_step (bl_ HB) hb)
             clear HO455
             clear HO464
             clear HO473
             clear HO480
             clear BK446
             clear BK447
             clear BK475
             clear BK482
             clear HB
             have HO455 := n0_
             have HO464 := n1_
             have HO473 := n2_
             have HO480 := n3_
             have BK446 := n4_
             have BK447 := n5_
             have BK475 := n6_
             have BK482 := n7_
             have HB := n8_
             clear n0_ n1_ n2_ n3_ n4_ n5_ n6_ n7_ n8_
             (try clear hb)
             (try clear hb2)
             (try clear hk)
             (try clear hi)
             refine hK.out _ _ ⟨(blk_cell BK475.out 0).trans rfl, (blk_cell BK475.out 1).trans rfl, (blk_cell BK475.out 2).trans rfl, (blk_cell BK482.out 0).trans rfl, (blk_cell BK482.out 1).trans rfl, (blk_cell BK482.out 2).trans rfl, (blk_cell BK446.out 0).trans rfl, (blk_cell BK446.out 1).trans rfl, (blk_cell BK446.out 2).trans rfl, (blk_cell BK447.out 0).trans rfl, (blk_cell BK447.out 1).trans rfl, (blk_cell BK447.out 2).trans rfl⟩ (fun hHeld => ?_)
             clear hK K
             refine norm_ (a' := ?_) ?_ ?_
             rotate_left
             ·show Act.put _ (some 87) _ = _
              simp only [Act.put, List.setIfInBounds_toArray, List.set_cons_zero, List.set_cons_succ, i64_w, i32_w]
              rfl
             refine pq_ 22 88 (mb_ 51 8388607) HT_.out ?_
             refine pq_ 23 89 (mb_ 51 16777215) HT_.out ?_
             refine pq_ 24 90 (mb_ 51 33554431) HT_.out ?_
             refine pq_ 25 91 (mb_ 51 67108863) HT_.out ?_
             refine pq_ 26 92 (mb_ 51 134217727) HT_.out ?_
             refine pq_ 27 93 (mb_ 51 268435455) HT_.out ?_
             refine pq_ 28 94 (mb_ 51 536870911) HT_.out ?_
             refine tq_ 29 95 (mb_ 51 1073741823) HT_.out HW_.out hHeld ?_ (hr := by rintro w' ⟨s0, s1, s2, s3, s4, s5, s6, s7, s8, s9, s10, s11⟩; go_simp; with_reducible rfl)
             refine tq_ 30 96 (mb_ 51 2147483647) HT_.out HW_.out hHeld ?_ (hr := by rintro w' ⟨s0, s1, s2, s3, s4, s5, s6, s7, s8, s9, s10, s11⟩; go_simp; with_reducible rfl)
             refine tq_ 32 98 (mb_ 51 6442450943) HT_.out HW_.out hHeld ?_ (hr := by rintro w' ⟨s0, s1, s2, s3, s4, s5, s6, s7, s8, s9, s10, s11⟩; go_simp; with_reducible rfl)
             refine tq_ 33 99 (mb_ 51 15032385535) HT_.out HW_.out hHeld ?_ (hr := by rintro w' ⟨s0, s1, s2, s3, s4, s5, s6, s7, s8, s9, s10, s11⟩; go_simp; with_reducible rfl)
             refine one_ (i := 31) (N := some 97) (mb_ 51 17179869183) rfl rfl (one_of HT_.out (by kernel_rfl)) (by decide) (fun K hK => ?_)
             refine goes_ Try.func13 (by kernel_rfl) rfl #[.agg #[.string a0_0, .int .i64 a0_1, .slice A0_2 l0_2.length c0_2], .agg #[.string a1_0, .int .i64 a1_1, .slice A1_2 l1_2.length c1_2]] (by rfl) rfl rfl (by (try simp only [List.map_toArray, List.map_cons, List.map_nil]); first | done | rfl | (simp only [List.length_drop, List.length_take]; rfl)) ?_
             with_reducible refine (script_Same.calls a0_0 a0_1 _ _ l0_2 a1_0 a1_1 _ _ l1_2 t484 _ ?side1 ?side2 ?side3 ?side4 A43.out).mono ?_
             (case side1 => repeat (first | exact (Kd.C_below HR0_2.out HB.out) | (with_reducible refine Kd.C_alloc ?_ _) | (with_reducible refine Kd.C_drewN ?_ _) | (with_reducible refine Kd.C_drew ?_)))
             (case side2 => exact HC0_2.out)
             (case side3 => repeat (first | exact (Kd.C_below HR1_2.out HB.out) | (with_reducible refine Kd.C_alloc ?_ _) | (with_reducible refine Kd.C_drewN ?_ _) | (with_reducible refine Kd.C_drew ?_)))
             (case side4 => exact HC1_2.out)
             rintro e w81 ⟨rfl, hb⟩
             refine ⟨_, rfl, ?_⟩
             have n0_ := Aside0.mk (Kd.N_below (kn_ HO455) hb)
             have n1_ := Aside0.mk (Kd.N_below (kn_ HO464) hb)
             have n2_ := Aside0.mk (Kd.N_below (kn_ HO473) hb)
             have n3_ := Aside0.mk (Kd.N_below (kn_ HO480) hb)
             have n4_ := Aside0.mk (blk_below (kb_ BK446) hb)
             have n5_ := Aside0.mk (blk_below (kb_ BK447) hb)
             have n6_ := Aside0.mk (blk_below (kb_ BK475) hb)
             have n7_ := Aside0.mk (blk_below (kb_ BK482) hb)
             have n8_ := Aside0.mk (below_step (bl_ HB) hb)
             clear HO455
             clear HO464
             clear HO473
             clear HO480
             clear BK446
             clear BK447
             clear BK475
             clear BK482
             clear HB
             have HO455 := n0_
             have HO464 := n1_
             have HO473 := n2_
             have HO480 := n3_
             have BK446 := n4_
             have BK447 := n5_
             have BK475 := n6_
             have BK482 := n7_
             have HB := n8_
             clear n0_ n1_ n2_ n3_ n4_ n5_ n6_ n7_ n8_
             (try clear hb)
             (try clear hb2)
             (try clear hk)
             (try clear hi)
             refine hK.out _ _ ⟨(blk_cell BK475.out 0).trans rfl, (blk_cell BK475.out 1).trans rfl, (blk_cell BK475.out 2).trans rfl, (blk_cell BK482.out 0).trans rfl, (blk_cell BK482.out 1).trans rfl, (blk_cell BK482.out 2).trans rfl, (blk_cell BK446.out 0).trans rfl, (blk_cell BK446.out 1).trans rfl, (blk_cell BK446.out 2).trans rfl, (blk_cell BK447.out 0).trans rfl, (blk_cell BK447.out 1).trans rfl, (blk_cell BK447.out 2).trans rfl⟩ (fun hHeld => ?_)
             clear hK K
             refine norm_ (a' := ?_) ?_ ?_
             rotate_left
             ·show Act.put _ (some 97) _ = _
              simp only [Act.put, List.setIfInBounds_toArray, List.set_cons_zero, List.set_cons_succ, i64_w, i32_w]
              rfl
             refine one_ (i := 34) (N := some 100) (mb_ 51 34359738367) rfl rfl (one_of HT_.out (by kernel_rfl)) (by decide) (fun K hK => ?_)
             refine goes_ Try.func21 (by kernel_rfl) rfl #[.agg #[.string a0_0, .int .i64 a0_1, .slice A0_2 l0_2.length c0_2], .agg #[.string a1_0, .int .i64 a1_1, .slice A1_2 l1_2.length c1_2]] (by rfl) rfl rfl (by (try simp only [List.map_toArray, List.map_cons, List.map_nil]); first | done | rfl | (simp only [List.length_drop, List.length_take]; rfl)) ?_
             with_reducible refine (outlawref25_Same.calls a0_0 a0_1 _ _ l0_2 a1_0 a1_1 _ _ l1_2 t485 _ ?side1 ?side2 ?side3 ?side4 A44.out).mono ?_
             (case side1 => repeat (first | exact (Kd.C_below HR0_2.out HB.out) | (with_reducible refine Kd.C_alloc ?_ _) | (with_reducible refine Kd.C_drewN ?_ _) | (with_reducible refine Kd.C_drew ?_)))
             (case side2 => exact HC0_2.out)
             (case side3 => repeat (first | exact (Kd.C_below HR1_2.out HB.out) | (with_reducible refine Kd.C_alloc ?_ _) | (with_reducible refine Kd.C_drewN ?_ _) | (with_reducible refine Kd.C_drew ?_)))
             (case side4 => exact HC1_2.out)
             rintro e w82 ⟨rfl, hb⟩
             refine ⟨_, rfl, ?_⟩
             have n0_ := Aside0.mk (Kd.N_below (kn_ HO455) hb)
             have n1_ := Aside0.mk (Kd.N_below (kn_ HO464) hb)
             have n2_ := Aside0.mk (Kd.N_below (kn_ HO473) hb)
             have n3_ := Aside0.mk (Kd.N_below (kn_ HO480) hb)
             have n4_ := Aside0.mk (blk_below (kb_ BK446) hb)
             have n5_ := Aside0.mk (blk_below (kb_ BK447) hb)
             have n6_ := Aside0.mk (blk_below (kb_ BK475) hb)
             have n7_ := Aside0.mk (blk_below (kb_ BK482) hb)
             have n8_ := Aside0.mk (below_step (bl_ HB) hb)
             clear HO455
             clear HO464
             clear HO473
             clear HO480
             clear BK446
             clear BK447
             clear BK475
             clear BK482
             clear HB
             have HO455 := n0_
             have HO464 := n1_
             have HO473 := n2_
             have HO480 := n3_
             have BK446 := n4_
             have BK447 := n5_
             have BK475 := n6_
             have BK482 := n7_
             have HB := n8_
             clear n0_ n1_ n2_ n3_ n4_ n5_ n6_ n7_ n8_
             (try clear hb)
             (try clear hb2)
             (try clear hk)
             (try clear hi)
             refine hK.out _ _ ⟨(blk_cell BK475.out 0).trans rfl, (blk_cell BK475.out 1).trans rfl, (blk_cell BK475.out 2).trans rfl, (blk_cell BK482.out 0).trans rfl, (blk_cell BK482.out 1).trans rfl, (blk_cell BK482.out 2).trans rfl, (blk_cell BK446.out 0).trans rfl, (blk_cell BK446.out 1).trans rfl, (blk_cell BK446.out 2).trans rfl, (blk_cell BK447.out 0).trans rfl, (blk_cell BK447.out 1).trans rfl, (blk_cell BK447.out 2).trans rfl⟩ (fun hHeld => ?_)
             clear hK K
             refine norm_ (a' := ?_) ?_ ?_
             rotate_left
             ·show Act.put _ (some 100) _ = _
              simp only [Act.put, List.setIfInBounds_toArray, List.set_cons_zero, List.set_cons_succ, i64_w, i32_w]
              rfl
             refine pq_ 35 101 (mb_ 51 68719476735) HT_.out ?_
             refine pq_ 36 102 (mb_ 51 137438953471) HT_.out ?_
             refine pq_ 37 103 (mb_ 51 274877906943) HT_.out ?_
             refine tq_ 38 104 (mb_ 51 549755813887) HT_.out HW_.out hHeld ?_ (hr := by rintro w' ⟨s0, s1, s2, s3, s4, s5, s6, s7, s8, s9, s10, s11⟩; go_simp; with_reducible rfl)
             refine tq_ 39 105 (mb_ 51 1099511627775) HT_.out HW_.out hHeld ?_ (hr := by rintro w' ⟨s0, s1, s2, s3, s4, s5, s6, s7, s8, s9, s10, s11⟩; go_simp; with_reducible rfl)
             refine one_ (i := 40) (N := some 106) (mb_ 51 2199023255551) rfl rfl (one_of HT_.out (by kernel_rfl)) (by decide) (fun K hK => ?_)
             refine goes_ Try.func15 (by kernel_rfl) rfl #[.agg #[.string a0_0, .int .i64 a0_1, .slice A0_2 l0_2.length c0_2]] (by rfl) rfl rfl (by (try simp only [List.map_toArray, List.map_cons, List.map_nil]); first | done | rfl | (simp only [List.length_drop, List.length_take]; rfl)) ?_
             with_reducible refine (outlawlaw25_own.calls kj5 a0_0 a0_1 (fun k_ => k_ < w.heap.size) _ _ l0_2 t486 t487 t488 _ ?side1 A46.out).mono ?_
             (case side1 => exact Kd.V_mk HC0_2.out (Kd.F_below (Kd.C_F k45_heap HR0_2.out) (bl_ HB)))
             rintro e w83 ⟨v489, rfl, ho0, hb⟩
             refine ⟨_, rfl, ?_⟩
             have n0_ := Aside0.mk (Kd.N_elder' (kn_ HO455) (Kd.N_base ho0) hb)
             have n1_ := Aside0.mk (Kd.N_elder' (kn_ HO464) (Kd.N_base ho0) hb)
             have n2_ := Aside0.mk (Kd.N_elder' (kn_ HO473) (Kd.N_base ho0) hb)
             have n3_ := Aside0.mk (Kd.N_elder' (kn_ HO480) (Kd.N_base ho0) hb)
             have n4_ := Aside0.mk (Kd.N_lower (Kd.N_mono (ok' := fun k_ => some k_ ≠ (.slice Ao55 t453.length co55 : Value).ownBlock ∧ some k_ ≠ (.slice Ao61 t462.length co61 : Value).ownBlock ∧ some k_ ≠ (.slice Ao70 t471.length co70 : Value).ownBlock ∧ some k_ ≠ (.slice Ao77 t478.length co77 : Value).ownBlock ∧ k_ ≠ gb446 ∧ k_ ≠ gb447 ∧ k_ ≠ gb475 ∧ k_ ≠ gb482) ho0 (fun k_ hk_ => ⟨Or.elim hk_ (fun hs_ => fun e_ => Nat.not_le.2 hs_ (Kd.N_base HO455.out k_ e_.symm)) (fun hn_ => (Kd.fresh' (Kd.N_lt (kn_ HO455)) k_ hn_)), Or.elim hk_ (fun hs_ => fun e_ => Nat.not_le.2 hs_ (Kd.N_base HO464.out k_ e_.symm)) (fun hn_ => (Kd.fresh' (Kd.N_lt (kn_ HO464)) k_ hn_)), Or.elim hk_ (fun hs_ => fun e_ => Nat.not_le.2 hs_ (Kd.N_base HO473.out k_ e_.symm)) (fun hn_ => (Kd.fresh' (Kd.N_lt (kn_ HO473)) k_ hn_)), Or.elim hk_ (fun hs_ => fun e_ => Nat.not_le.2 hs_ (Kd.N_base HO480.out k_ e_.symm)) (fun hn_ => (Kd.fresh' (Kd.N_lt (kn_ HO480)) k_ hn_)), Or.elim hk_ (fun hs_ => fun e_ => Nat.not_le.2 hs_ (by rw [e_]; exact GW446.out)) (fun hn_ => (Kd.freshB (kb_ BK446) k_ hn_)), Or.elim hk_ (fun hs_ => fun e_ => Nat.not_le.2 hs_ (by rw [e_]; exact GW447.out)) (fun hn_ => (Kd.freshB (kb_ BK447) k_ hn_)), Or.elim hk_ (fun hs_ => fun e_ => Nat.not_le.2 hs_ (by rw [e_]; exact GW475.out)) (fun hn_ => (Kd.freshB (kb_ BK475) k_ hn_)), Or.elim hk_ (fun hs_ => fun e_ => Nat.not_le.2 hs_ (by rw [e_]; exact GW482.out)) (fun hn_ => (Kd.freshB (kb_ BK482) k_ hn_))⟩)) (below_size (bl_ HB)))
             have n5_ := Aside0.mk (blk_below (kb_ BK446) hb)
             have n6_ := Aside0.mk (blk_below (kb_ BK447) hb)
             have n7_ := Aside0.mk (blk_below (kb_ BK475) hb)
             have n8_ := Aside0.mk (blk_below (kb_ BK482) hb)
             have n9_ := Aside0.mk (below_step (bl_ HB) hb)
             clear HO455
             clear HO464
             clear HO473
             clear HO480
             clear BK446
             clear BK447
             clear BK475
             clear BK482
             clear HB
             have HO455 := n0_
             have HO464 := n1_
             have HO473 := n2_
             have HO480 := n3_
             have HO490 := n4_
             have BK446 := n5_
             have BK447 := n6_
             have BK475 := n7_
             have BK482 := n8_
             have HB := n9_
             clear n0_ n1_ n2_ n3_ n4_ n5_ n6_ n7_ n8_ n9_
             (try clear hb)
             (try clear hb2)
             (try clear hk)
             (try clear hi)
             (try clear ho0)
             obtain ⟨Ao84, co84, eo84⟩ := Kd.N_slice HO490.out
             (first | subst eo84 | (injection eo84 with f1_ f2_ f3_; have f4_ := f1_.symm; have f5_ := f3_.symm; clear f1_ f2_ f3_; subst f4_; subst f5_))
             refine hK.out _ _ ⟨(blk_cell BK475.out 0).trans rfl, (blk_cell BK475.out 1).trans rfl, (blk_cell BK475.out 2).trans rfl, (blk_cell BK482.out 0).trans rfl, (blk_cell BK482.out 1).trans rfl, (blk_cell BK482.out 2).trans rfl, (blk_cell BK446.out 0).trans rfl, (blk_cell BK446.out 1).trans rfl, (blk_cell BK446.out 2).trans rfl, (blk_cell BK447.out 0).trans rfl, (blk_cell BK447.out 1).trans rfl, (blk_cell BK447.out 2).trans rfl⟩ (fun hHeld => ?_)
             clear hK K
             refine norm_ (a' := ?_) ?_ ?_
             rotate_left
             ·show Act.put _ (some 106) _ = _
              simp only [Act.put, List.setIfInBounds_toArray, List.set_cons_zero, List.set_cons_succ, i64_w, i32_w]
              rfl
             refine one_ (i := 41) (N := some 107) (mb_ 51 4398046511103) rfl rfl (one_of HT_.out (by kernel_rfl)) (by decide) (fun K hK => ?_)
             refine goes_ Try.func13 (by kernel_rfl) rfl #[.agg #[.string a0_0, .int .i64 a0_1, .slice A0_2 l0_2.length c0_2], .agg #[.string t486, .int .i64 t487, .slice Ao84 t488.length co84]] (by rfl) rfl rfl (by (try simp only [List.map_toArray, List.map_cons, List.map_nil]); first | done | rfl | (simp only [List.length_drop, List.length_take]; rfl)) ?_
             with_reducible refine (script_Same.calls a0_0 a0_1 _ _ l0_2 t486 t487 _ _ t488 true _ ?side1 ?side2 ?side3 ?side4 A47.out).mono ?_
             (case side1 => repeat (first | exact (Kd.C_below HR0_2.out HB.out) | (with_reducible refine Kd.C_alloc ?_ _) | (with_reducible refine Kd.C_drewN ?_ _) | (with_reducible refine Kd.C_drew ?_)))
             (case side2 => exact HC0_2.out)
             (case side3 => repeat (first | exact (Kd.N_reads' HO490.out).2.2 | (with_reducible refine Kd.C_alloc ?_ _) | (with_reducible refine Kd.C_drewN ?_ _) | (with_reducible refine Kd.C_drew ?_)))
             (case side4 => exact (Kd.N_reads' HO490.out).2.1)
             rintro e w85 ⟨rfl, hb⟩
             refine ⟨_, rfl, ?_⟩
             have n0_ := Aside0.mk (Kd.N_below (kn_ HO455) hb)
             have n1_ := Aside0.mk (Kd.N_below (kn_ HO464) hb)
             have n2_ := Aside0.mk (Kd.N_below (kn_ HO473) hb)
             have n3_ := Aside0.mk (Kd.N_below (kn_ HO480) hb)
             have n4_ := Aside0.mk (Kd.N_below (kn_ HO490) hb)
             have n5_ := Aside0.mk (blk_below (kb_ BK446) hb)
             have n6_ := Aside0.mk (blk_below (kb_ BK447) hb)
             have n7_ := Aside0.mk (blk_below (kb_ BK475) hb)
             have n8_ := Aside0.mk (blk_below (kb_ BK482) hb)
             have n9_ := Aside0.mk (below_step (bl_ HB) hb)
             clear HO455
             clear HO464
             clear HO473
             clear HO480
             clear HO490
             clear BK446
             clear BK447
             clear BK475
             clear BK482
             clear HB
             have HO455 := n0_
             have HO464 := n1_
             have HO473 := n2_
             have HO480 := n3_
             have HO490 := n4_
             have BK446 := n5_
             have BK447 := n6_
             have BK475 := n7_
             have BK482 := n8_
             have HB := n9_
             clear n0_ n1_ n2_ n3_ n4_ n5_ n6_ n7_ n8_ n9_
             (try clear hb)
             (try clear hb2)
             (try clear hk)
             (try clear hi)
             refine hK.out _ _ ⟨(blk_cell BK475.out 0).trans rfl, (blk_cell BK475.out 1).trans rfl, (blk_cell BK475.out 2).trans rfl, (blk_cell BK482.out 0).trans rfl, (blk_cell BK482.out 1).trans rfl, (blk_cell BK482.out 2).trans rfl, (blk_cell BK446.out 0).trans rfl, (blk_cell BK446.out 1).trans rfl, (blk_cell BK446.out 2).trans rfl, (blk_cell BK447.out 0).trans rfl, (blk_cell BK447.out 1).trans rfl, (blk_cell BK447.out 2).trans rfl⟩ (fun hHeld => ?_)
             clear hK K
             refine norm_ (a' := ?_) ?_ ?_
             rotate_left
             ·show Act.put _ (some 107) _ = _
              simp only [Act.put, List.setIfInBounds_toArray, List.set_cons_zero, List.set_cons_succ, i64_w, i32_w]
              rfl
             refine pq_ 42 108 (mb_ 51 8796093022207) HT_.out ?_
             refine pq_ 43 109 (mb_ 51 17592186044415) HT_.out ?_
             refine tq_ 44 110 (mb_ 51 35184372088831) HT_.out HW_.out hHeld ?_ (hr := by rintro w' ⟨s0, s1, s2, s3, s4, s5, s6, s7, s8, s9, s10, s11⟩; go_simp; with_reducible rfl)
             refine tq_ 46 112 (mb_ 51 105553116266495) HT_.out HW_.out hHeld ?_ (hr := by rintro w' ⟨s0, s1, s2, s3, s4, s5, s6, s7, s8, s9, s10, s11⟩; go_simp; with_reducible rfl)
             refine one_ (i := 45) (N := some 111) (mb_ 51 140737488355327) rfl rfl (one_of HT_.out (by kernel_rfl)) (by decide) (fun K hK => ?_)
             refine goes_ Try.func17 (by kernel_rfl) rfl #[.agg #[.string a0_0, .int .i64 a0_1, .slice A0_2 l0_2.length c0_2]] (by rfl) rfl rfl (by (try simp only [List.map_toArray, List.map_cons, List.map_nil]); first | done | rfl | (simp only [List.length_drop, List.length_take]; rfl)) ?_
             with_reducible refine (script_Inputs.calls kj5 a0_0 a0_1 _ _ l0_2 t492 _ ?side1 ?side2 A49.out).mono ?_
             (case side1 => repeat (first | exact (Kd.C_below HR0_2.out HB.out) | (with_reducible refine Kd.C_alloc ?_ _) | (with_reducible refine Kd.C_drewN ?_ _) | (with_reducible refine Kd.C_drew ?_)))
             (case side2 => exact HC0_2.out)
             rintro e w86 ⟨v493, rfl, ho0, hb⟩
             refine ⟨_, rfl, ?_⟩
             have n0_ := Aside0.mk (Kd.N_elder' (kn_ HO455) (Kd.R_base ho0) hb)
             have n1_ := Aside0.mk (Kd.N_elder' (kn_ HO464) (Kd.R_base ho0) hb)
             have n2_ := Aside0.mk (Kd.N_elder' (kn_ HO473) (Kd.R_base ho0) hb)
             have n3_ := Aside0.mk (Kd.N_elder' (kn_ HO480) (Kd.R_base ho0) hb)
             have n4_ := Aside0.mk (Kd.N_elder' (kn_ HO490) (Kd.R_base ho0) hb)
             have n5_ := Aside0.mk (Kd.R_lower ho0 (below_size (bl_ HB)))
             have n6_ := Aside0.mk (blk_below (kb_ BK446) hb)
             have n7_ := Aside0.mk (blk_below (kb_ BK447) hb)
             have n8_ := Aside0.mk (blk_below (kb_ BK475) hb)
             have n9_ := Aside0.mk (blk_below (kb_ BK482) hb)
             have n10_ := Aside0.mk (below_step (bl_ HB) hb)
             clear HO455
             clear HO464
             clear HO473
             clear HO480
             clear HO490
             clear BK446
             clear BK447
             clear BK475
             clear BK482
             clear HB
             have HO455 := n0_
             have HO464 := n1_
             have HO473 := n2_
             have HO480 := n3_
             have HO490 := n4_
             have HO494 := n5_
             have BK446 := n6_
             have BK447 := n7_
             have BK475 := n8_
             have BK482 := n9_
             have HB := n10_
             clear n0_ n1_ n2_ n3_ n4_ n5_ n6_ n7_ n8_ n9_ n10_
             (try clear hb)
             (try clear hb2)
             (try clear hk)
             (try clear hi)
             (try clear ho0)
             refine hK.out _ _ ⟨(blk_cell BK475.out 0).trans rfl, (blk_cell BK475.out 1).trans rfl, (blk_cell BK475.out 2).trans rfl, (blk_cell BK482.out 0).trans rfl, (blk_cell BK482.out 1).trans rfl, (blk_cell BK482.out 2).trans rfl, (blk_cell BK446.out 0).trans rfl, (blk_cell BK446.out 1).trans rfl, (blk_cell BK446.out 2).trans rfl, (blk_cell BK447.out 0).trans rfl, (blk_cell BK447.out 1).trans rfl, (blk_cell BK447.out 2).trans rfl⟩ (fun hHeld => ?_)
             clear hK K
             refine norm_ (a' := ?_) ?_ ?_
             rotate_left
             ·show Act.put _ (some 111) _ = _
              simp only [Act.put, List.setIfInBounds_toArray, List.set_cons_zero, List.set_cons_succ, i64_w, i32_w]
              rfl
             refine one_ (i := 47) (N := some 113) (mb_ 51 281474976710655) rfl rfl (one_of HT_.out (by kernel_rfl)) (by decide) (fun K hK => ?_)
             refine goes_ Try.func23 (by kernel_rfl) rfl #[.agg #[.string a0_0, .int .i64 a0_1, .slice A0_2 l0_2.length c0_2]] (by rfl) rfl rfl (by (try simp only [List.map_toArray, List.map_cons, List.map_nil]); first | done | rfl | (simp only [List.length_drop, List.length_take]; rfl)) ?_
             with_reducible refine (outlawlaw25_inputs.calls kj5 a0_0 a0_1 _ _ l0_2 t495 _ ?side1 ?side2 A50.out).mono ?_
             (case side1 => repeat (first | exact (Kd.C_below HR0_2.out HB.out) | (with_reducible refine Kd.C_alloc ?_ _) | (with_reducible refine Kd.C_drewN ?_ _) | (with_reducible refine Kd.C_drew ?_)))
             (case side2 => exact HC0_2.out)
             rintro e w87 ⟨v496, rfl, ho0, hb⟩
             refine ⟨_, rfl, ?_⟩
             have n0_ := Aside0.mk (Kd.N_elder' (kn_ HO455) (Kd.R_base ho0) hb)
             have n1_ := Aside0.mk (Kd.N_elder' (kn_ HO464) (Kd.R_base ho0) hb)
             have n2_ := Aside0.mk (Kd.N_elder' (kn_ HO473) (Kd.R_base ho0) hb)
             have n3_ := Aside0.mk (Kd.N_elder' (kn_ HO480) (Kd.R_base ho0) hb)
             have n4_ := Aside0.mk (Kd.N_elder' (kn_ HO490) (Kd.R_base ho0) hb)
             have n5_ := Aside0.mk (Kd.R_elder' (by (with_reducible repeat (first | apply Kd.R_alloc | apply Kd.R_drewN | apply Kd.R_drew)); exact HO494.out) (Kd.R_base ho0) hb)
             have n6_ := Aside0.mk (Kd.R_lower (Kd.R_new' ho0 (Kd.R_lt (by (with_reducible repeat (first | apply Kd.R_alloc | apply Kd.R_drewN | apply Kd.R_drew)); exact HO494.out))) (below_size (bl_ HB)))
             have n7_ := Aside0.mk (blk_below (kb_ BK446) hb)
             have n8_ := Aside0.mk (blk_below (kb_ BK447) hb)
             have n9_ := Aside0.mk (blk_below (kb_ BK475) hb)
             have n10_ := Aside0.mk (blk_below (kb_ BK482) hb)
             have n11_ := Aside0.mk (below_step (bl_ HB) hb)
             clear HO455
             clear HO464
             clear HO473
             clear HO480
             clear HO490
             clear HO494
             clear BK446
             clear BK447
             clear BK475
             clear BK482
             clear HB
             have HO455 := n0_
             have HO464 := n1_
             have HO473 := n2_
             have HO480 := n3_
             have HO490 := n4_
             have HO494 := n5_
             have HO497 := n6_
             have BK446 := n7_
             have BK447 := n8_
             have BK475 := n9_
             have BK482 := n10_
             have HB := n11_
             clear n0_ n1_ n2_ n3_ n4_ n5_ n6_ n7_ n8_ n9_ n10_ n11_
             (try clear hb)
             (try clear hb2)
             (try clear hk)
             (try clear hi)
             (try clear ho0)
             obtain ⟨Ao88, co88, eo88⟩ := Kd.R_slice HO494.out
             (first | subst eo88 | (injection eo88 with f1_ f2_ f3_; have f4_ := f1_.symm; have f5_ := f3_.symm; clear f1_ f2_ f3_; subst f4_; subst f5_))
             obtain ⟨Ao89, co89, eo89⟩ := Kd.R_slice HO497.out
             (first | subst eo89 | (injection eo89 with f1_ f2_ f3_; have f4_ := f1_.symm; have f5_ := f3_.symm; clear f1_ f2_ f3_; subst f4_; subst f5_))
             refine hK.out _ _ ⟨(blk_cell BK475.out 0).trans rfl, (blk_cell BK475.out 1).trans rfl, (blk_cell BK475.out 2).trans rfl, (blk_cell BK482.out 0).trans rfl, (blk_cell BK482.out 1).trans rfl, (blk_cell BK482.out 2).trans rfl, (blk_cell BK446.out 0).trans rfl, (blk_cell BK446.out 1).trans rfl, (blk_cell BK446.out 2).trans rfl, (blk_cell BK447.out 0).trans rfl, (blk_cell BK447.out 1).trans rfl, (blk_cell BK447.out 2).trans rfl⟩ (fun hHeld => ?_)
             clear hK K
             refine norm_ (a' := ?_) ?_ ?_
             rotate_left
             ·show Act.put _ (some 113) _ = _
              simp only [Act.put, List.setIfInBounds_toArray, List.set_cons_zero, List.set_cons_succ, i64_w, i32_w]
              rfl
             refine one_ (i := 48) (N := some 114) (mb_ 51 562949953421311) rfl rfl (one_of HT_.out (by kernel_rfl)) (by decide) (fun K hK => ?_)
             refine goes_ Try.func22 (by kernel_rfl) rfl #[.slice Ao88 t492.length co88, .slice Ao89 t495.length co89] (by rfl) rfl rfl (by (try simp only [List.map_toArray, List.map_cons, List.map_nil]); first | done | rfl | (simp only [List.length_drop, List.length_take]; rfl)) ?_
             with_reducible refine (api_Input.calls kj5 _ _ t492 _ _ t495 t498 _ ?side1 ?side2 ?side3 ?side4 A51.out).mono ?_
             (case side1 => repeat (first | exact (Kd.R_reads' HO494.out).2.2 | (with_reducible refine Kd.C_alloc ?_ _) | (with_reducible refine Kd.C_drewN ?_ _) | (with_reducible refine Kd.C_drew ?_)))
             (case side2 => exact (Kd.R_reads' HO494.out).2.1)
             (case side3 => repeat (first | exact (Kd.R_reads' HO497.out).2.2 | (with_reducible refine Kd.C_alloc ?_ _) | (with_reducible refine Kd.C_drewN ?_ _) | (with_reducible refine Kd.C_drew ?_)))
             (case side4 => exact (Kd.R_reads' HO497.out).2.1)
             rintro e w' ⟨rfl, ⟨nd, rfl⟩⟩
             refine ⟨_, rfl, ?_⟩
             refine hK.out _ _ ⟨(blk_cell BK475.out 0).trans rfl, (blk_cell BK475.out 1).trans rfl, (blk_cell BK475.out 2).trans rfl, (blk_cell BK482.out 0).trans rfl, (blk_cell BK482.out 1).trans rfl, (blk_cell BK482.out 2).trans rfl, (blk_cell BK446.out 0).trans rfl, (blk_cell BK446.out 1).trans rfl, (blk_cell BK446.out 2).trans rfl, (blk_cell BK447.out 0).trans rfl, (blk_cell BK447.out 1).trans rfl, (blk_cell BK447.out 2).trans rfl⟩ (fun hHeld => ?_)
             clear hK K
             refine norm_ (a' := ?_) ?_ ?_
             rotate_left
             ·show Act.put _ (some 114) _ = _
              simp only [Act.put, List.setIfInBounds_toArray, List.set_cons_zero, List.set_cons_succ, i64_w, i32_w]
              rfl
             refine pq_ 49 115 (mb_ 51 1125899906842623) HT_.out ?_
             refine pq_ 50 6 (mb_ 51 2251799813685247) HT_.out ?_
             refine done_ (done_of HT_.out (by kernel_rfl)) ?_
             try go_wp2
             go_ret
             exact ⟨rfl, bl_ HB⟩
            ·replace c48 := Bool.eq_false_iff.mpr c48
             subst c48
             rw [if_neg (show ¬ (false = true) by decide)] at H
             exact absurd ((Option.some.inj H).trans hr_.out) (by decide)
           ·rw [if_neg c45] at H
            have c45b0 : (t484 == t485) = false := by simpa using c45
            (try (have c45b1 : decide (t484 = t485) = false := by simpa using c45))
            (try (have c45b2 : (t484 == t485) = false := by simpa using c45))
            (try (have c45b3 : ¬ (t484 = t485) := by simpa using c45))
            clear c45
            exact absurd ((Option.some.inj H).trans hr_.out) (by decide)
          ·rw [if_neg c42] at H
           have c42b0 : (t474 == t481) = false := beq_eq_false_iff_ne.mpr c42
           have c42b1 : (t474 != t481) = true := bne_iff_ne.mpr c42
           exact absurd ((Option.some.inj H).trans hr_.out) (by decide)
         ·replace c41 := Bool.eq_false_iff.mpr c41
          subst c41
          rw [if_neg (show ¬ (false = true) by decide)] at H
          exact absurd ((Option.some.inj H).trans hr_.out) (by decide)
        ·rw [if_neg c39] at H
         have c39b0 : (t466 == t468) = false := beq_eq_false_iff_ne.mpr c39
         have c39b1 : (t466 != t468) = true := bne_iff_ne.mpr c39
         exact absurd ((Option.some.inj H).trans hr_.out) (by decide)
       ·rw [if_neg c38] at H
        have c38b0 : (t465.toList == t467.toList) = false := beq_eq_false_iff_ne.mpr c38
        have c38b1 : (t465.toList != t467.toList) = true := bne_iff_ne.mpr c38
        exact absurd ((Option.some.inj H).trans hr_.out) (by decide)
      ·rw [if_neg c37] at H
       have c37b0 : (t457 == t459) = false := beq_eq_false_iff_ne.mpr c37
       have c37b1 : (t457 != t459) = true := bne_iff_ne.mpr c37
       exact absurd ((Option.some.inj H).trans hr_.out) (by decide)
     ·rw [if_neg c36] at H
      have c36b0 : (t456 == t458) = false := beq_eq_false_iff_ne.mpr c36
      have c36b1 : (t456 != t458) = true := bne_iff_ne.mpr c36
      exact absurd ((Option.some.inj H).trans hr_.out) (by decide)
 ·replace c5 := Bool.eq_false_iff.mpr c5
  subst c5
  rw [if_neg (show ¬ (false = true) by decide)] at H
  exact absurd ((Option.some.inj H).trans hr_.out) (by decide)
end Go.Proofs.Ytfgibjkgiolonaa.PA
