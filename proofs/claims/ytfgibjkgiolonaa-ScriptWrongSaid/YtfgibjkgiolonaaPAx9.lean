-- Written by a program of this session (gprint.py, a turned print with given contracts).
import Derived.Test.YtfgibjkgiolonaaPAx0
import Derived.Test.YtfgibjkgiolonaaPAx2
import Derived.Test.YtfgibjkgiolonaaPAx4
import Derived.Test.YtfgibjkgiolonaaPAx5
import Derived.Test.YtfgibjkgiolonaaPAx7
namespace Go.Proofs.Ytfgibjkgiolonaa.PA
open Go.RowKit Go.Proofs.YtfgibjkgiolonaaW.PrintWords Go.Proofs.YtfgibjkgiolonaaW.PrintLast Go.Proofs.YtfgibjkgiolonaaW.PrintMore Go.Proofs.YtfgibjkgiolonaaG Go.Proofs.YtfgibjkgiolonaaX Go.Proofs.YtfgibjkgiolonaaI Go.Proofs.Ytfgibjkgiolonaa.PR
attribute [local go_sem] max2_int min2_int max_two min_two max_three min_three max_four min_four   -- for this text's walks alone
set_option linter.unusedVariables false
set_option linter.unusedSimpArgs false

/-! ### outlawlaw25_ScriptWrong: function 5 -/
mutual
def outlawlaw25_ScriptWrong.j0 : Nat → Int → Int → Bool → ByteArray → Int → List (S45) → Option (Bool)
 | 0, _, _, _, _, _, _ => none
 | k + 1, x3, x4, x47, x305000, x305001, x305002 => if x47 = true then (some false) else (if (x305002.length : Int) = 0 then (outlawlaw25_ScriptWrong.j1 k x3 x4 (x3 != 0) x305000 x305001 x305002) else (outlawlaw25_ScriptWrong.j1 k x3 x4 false x305000 x305001 x305002))
def outlawlaw25_ScriptWrong.j1 : Nat → Int → Int → Bool → ByteArray → Int → List (S45) → Option (Bool)
 | 0, _, _, _, _, _, _ => none
 | k + 1, x3, x4, x55, x305000, x305001, x305002 => if x55 = true then (some false) else ((script_Check.f k x305000 x305001 ([] : List (S45))).bind fun bt310 => (if bt310.2 = 0 then (outlawlaw25_ScriptWrong.j2 k x3 x4 bt310.2 (decide ((x305002.length : Int) > 300)) x305000 x305001 x305002) else (outlawlaw25_ScriptWrong.j2 k x3 x4 bt310.2 true x305000 x305001 x305002)))
def outlawlaw25_ScriptWrong.j2 : Nat → Int → Int → Int → Bool → ByteArray → Int → List (S45) → Option (Bool)
 | 0, _, _, _, _, _, _, _ => none
 | k + 1, x3, x4, x7, x73, x305000, x305001, x305002 => if x73 = true then (if x3 = 0 then (if x7 = 0 then (if x4 = 4 then (some true) else (some (x7 == x4))) else (some (x7 == x4))) else (some false)) else (if (x305002.length : Int) = 0 then (some false) else ((outlawlaw25_own.f k x305000 x305001 x305002).bind fun bt312 => (if 0 ≤ x3 then (if x3 ≤ (bt312.2.2.length : Int) then ((script_Check.f k bt312.1 bt312.2.1 (bt312.2.2.take (x3 : Int).toNat)).bind fun bt321 => ((outlawlaw25_own.f k x305000 x305001 x305002).bind fun bt323 => (if x3 ≤ (wrap64 (x3 + 1)) then (if (wrap64 (x3 + 1)) ≤ (bt323.2.2.length : Int) then ((script_Check.f k bt323.1 bt323.2.1 ((bt323.2.2.take ((wrap64 (x3 + 1)) : Int).toNat).drop (x3 : Int).toNat)).bind fun bt334 => (if bt321.2 = 0 then (if bt334.1 = 0 then (some (bt334.2 == x4)) else (some false)) else (some false))) else (none)) else (none)))) else (none)) else (none))))
end
def outlawlaw25_ScriptWrong.f (k : Nat) (a0_0 : ByteArray) (a0_1 : Int) (l0_2 : List (S45)) : Option (Bool) := (outlawlaw25_lives.f k).bind fun t305 => (if t305 = true then ((outlawlaw25_light.f k a0_0 a0_1 l0_2).bind fun t306 => (if t306 = true then ((script_Check.f k a0_0 a0_1 l0_2).bind fun bt307 => (if bt307.2 = 0 then (some (bt307.1 == 0)) else (if bt307.1 < 0 then (outlawlaw25_ScriptWrong.j0 k bt307.1 bt307.2 true a0_0 a0_1 l0_2) else (if bt307.1 > (l0_2.length : Int) then (outlawlaw25_ScriptWrong.j0 k bt307.1 bt307.2 true a0_0 a0_1 l0_2) else (if bt307.1 = (l0_2.length : Int) then (outlawlaw25_ScriptWrong.j0 k bt307.1 bt307.2 (bt307.1 != 0) a0_0 a0_1 l0_2) else (outlawlaw25_ScriptWrong.j0 k bt307.1 bt307.2 false a0_0 a0_1 l0_2)))))) else (some true))) else (some false))
theorem outlawlaw25_ScriptWrong.mono_l : ∀ k, (∀ y0 y1 y2 y3 y4 y5, LeO (outlawlaw25_ScriptWrong.j0 k y0 y1 y2 y3 y4 y5) (outlawlaw25_ScriptWrong.j0 (k + 1) y0 y1 y2 y3 y4 y5)) ∧ (∀ y0 y1 y2 y3 y4 y5, LeO (outlawlaw25_ScriptWrong.j1 k y0 y1 y2 y3 y4 y5) (outlawlaw25_ScriptWrong.j1 (k + 1) y0 y1 y2 y3 y4 y5)) ∧ (∀ y0 y1 y2 y3 y4 y5 y6, LeO (outlawlaw25_ScriptWrong.j2 k y0 y1 y2 y3 y4 y5 y6) (outlawlaw25_ScriptWrong.j2 (k + 1) y0 y1 y2 y3 y4 y5 y6))
 | 0 => ⟨fun _ _ _ _ _ _ r h => by simp [outlawlaw25_ScriptWrong.j0] at h, fun _ _ _ _ _ _ r h => by simp [outlawlaw25_ScriptWrong.j1] at h, fun _ _ _ _ _ _ _ r h => by simp [outlawlaw25_ScriptWrong.j2] at h⟩
 | k + 1 => by
  obtain ⟨ih0, ih1, ih2⟩ := outlawlaw25_ScriptWrong.mono_l k
  refine ⟨?_, ?_, ?_⟩
  ·intro y0 y1 y2 y3 y4 y5
   unfold outlawlaw25_ScriptWrong.j0
   repeat' first
   | (with_reducible exact ih0 _ _ _ _ _ _)
   | (with_reducible exact ih1 _ _ _ _ _ _)
   | (with_reducible exact ih2 _ _ _ _ _ _ _)
   | (with_reducible exact outlawlaw25_light.mono _ _ _ _)
   | (with_reducible exact outlawlaw25_lives.mono _)
   | (with_reducible exact outlawlaw25_own.mono _ _ _ _)
   | (with_reducible exact script_Check.mono _ _ _ _)
   | (with_reducible exact LeO.refl _)
   | (with_reducible exact LeO.none _)
   | (with_reducible refine LeO.ite ?_ ?_)
   | (with_reducible refine LeO.bind ?_ (fun _ => ?_))
   | exact ih0 _ _ _ _ _ _
   | exact ih1 _ _ _ _ _ _
   | exact ih2 _ _ _ _ _ _ _
   | exact outlawlaw25_light.mono _ _ _ _
   | exact outlawlaw25_lives.mono _
   | exact outlawlaw25_own.mono _ _ _ _
   | exact script_Check.mono _ _ _ _
   | exact LeO.none _
   | refine LeO.ite ?_ ?_
   | refine LeO.bind ?_ (fun _ => ?_)
  ·intro y0 y1 y2 y3 y4 y5
   unfold outlawlaw25_ScriptWrong.j1
   repeat' first
   | (with_reducible exact ih0 _ _ _ _ _ _)
   | (with_reducible exact ih1 _ _ _ _ _ _)
   | (with_reducible exact ih2 _ _ _ _ _ _ _)
   | (with_reducible exact outlawlaw25_light.mono _ _ _ _)
   | (with_reducible exact outlawlaw25_lives.mono _)
   | (with_reducible exact outlawlaw25_own.mono _ _ _ _)
   | (with_reducible exact script_Check.mono _ _ _ _)
   | (with_reducible exact LeO.refl _)
   | (with_reducible exact LeO.none _)
   | (with_reducible refine LeO.ite ?_ ?_)
   | (with_reducible refine LeO.bind ?_ (fun _ => ?_))
   | exact ih0 _ _ _ _ _ _
   | exact ih1 _ _ _ _ _ _
   | exact ih2 _ _ _ _ _ _ _
   | exact outlawlaw25_light.mono _ _ _ _
   | exact outlawlaw25_lives.mono _
   | exact outlawlaw25_own.mono _ _ _ _
   | exact script_Check.mono _ _ _ _
   | exact LeO.none _
   | refine LeO.ite ?_ ?_
   | refine LeO.bind ?_ (fun _ => ?_)
  ·intro y0 y1 y2 y3 y4 y5 y6
   unfold outlawlaw25_ScriptWrong.j2
   repeat' first
   | (with_reducible exact ih0 _ _ _ _ _ _)
   | (with_reducible exact ih1 _ _ _ _ _ _)
   | (with_reducible exact ih2 _ _ _ _ _ _ _)
   | (with_reducible exact outlawlaw25_light.mono _ _ _ _)
   | (with_reducible exact outlawlaw25_lives.mono _)
   | (with_reducible exact outlawlaw25_own.mono _ _ _ _)
   | (with_reducible exact script_Check.mono _ _ _ _)
   | (with_reducible exact LeO.refl _)
   | (with_reducible exact LeO.none _)
   | (with_reducible refine LeO.ite ?_ ?_)
   | (with_reducible refine LeO.bind ?_ (fun _ => ?_))
   | exact ih0 _ _ _ _ _ _
   | exact ih1 _ _ _ _ _ _
   | exact ih2 _ _ _ _ _ _ _
   | exact outlawlaw25_light.mono _ _ _ _
   | exact outlawlaw25_lives.mono _
   | exact outlawlaw25_own.mono _ _ _ _
   | exact script_Check.mono _ _ _ _
   | exact LeO.none _
   | refine LeO.ite ?_ ?_
   | refine LeO.bind ?_ (fun _ => ?_)
theorem outlawlaw25_ScriptWrong.mono : ∀ a0 a1 a2 k, LeO (outlawlaw25_ScriptWrong.f k a0 a1 a2) (outlawlaw25_ScriptWrong.f (k + 1) a0 a1 a2) := by
 intro a0 a1 a2 k
 obtain ⟨ih0, ih1, ih2⟩ := outlawlaw25_ScriptWrong.mono_l k
 unfold outlawlaw25_ScriptWrong.f
 repeat' first
   | (with_reducible exact ih0 _ _ _ _ _ _)
   | (with_reducible exact ih1 _ _ _ _ _ _)
   | (with_reducible exact ih2 _ _ _ _ _ _ _)
   | (with_reducible exact outlawlaw25_light.mono _ _ _ _)
   | (with_reducible exact outlawlaw25_lives.mono _)
   | (with_reducible exact outlawlaw25_own.mono _ _ _ _)
   | (with_reducible exact script_Check.mono _ _ _ _)
   | (with_reducible exact LeO.refl _)
   | (with_reducible exact LeO.none _)
   | (with_reducible refine LeO.ite ?_ ?_)
   | (with_reducible refine LeO.bind ?_ (fun _ => ?_))
   | exact ih0 _ _ _ _ _ _
   | exact ih1 _ _ _ _ _ _
   | exact ih2 _ _ _ _ _ _ _
   | exact outlawlaw25_light.mono _ _ _ _
   | exact outlawlaw25_lives.mono _
   | exact outlawlaw25_own.mono _ _ _ _
   | exact script_Check.mono _ _ _ _
   | exact LeO.none _
   | refine LeO.ite ?_ ?_
   | refine LeO.bind ?_ (fun _ => ?_)
set_option maxHeartbeats 8000000 in
set_option maxRecDepth 100000 in
theorem outlawlaw25_ScriptWrong.calls (k : Nat) (a0_0 : ByteArray) (a0_1 : Int) (A0_2 : Option Addr) (c0_2 : Nat) (l0_2 : List (S45)) (r : Bool) (w : World) (hr_ : Aside0 (r = true)) (hr0_2 : Kd.C k45 w A0_2 l0_2.length l0_2) (hc0_2 : l0_2.length ≤ c0_2) (h : outlawlaw25_ScriptWrong.f k a0_0 a0_1 l0_2 = some r) :
  Calls Try.prog 5 #[.agg #[.string a0_0, .int .i64 a0_1, .slice A0_2 l0_2.length c0_2]] w fun e w' => e = .returned (.bool r) ∧ Below w.heap.size w w' := by
 have hu24 := Try.underlying24
 have HR0_2 := Aside0.mk hr0_2
 have HC0_2 := Aside0.mk hc0_2
 clear hr0_2 hc0_2
 have HB := Aside0.mk (Below.refl w.heap.size w)
 have H : ((outlawlaw25_lives.f k).bind fun t305 => (if t305 = true then ((outlawlaw25_light.f k a0_0 a0_1 l0_2).bind fun t306 => (if t306 = true then ((script_Check.f k a0_0 a0_1 l0_2).bind fun bt307 => (if bt307.2 = 0 then (some (bt307.1 == 0)) else (if bt307.1 < 0 then (outlawlaw25_ScriptWrong.j0 k bt307.1 bt307.2 true a0_0 a0_1 l0_2) else (if bt307.1 > (l0_2.length : Int) then (outlawlaw25_ScriptWrong.j0 k bt307.1 bt307.2 true a0_0 a0_1 l0_2) else (if bt307.1 = (l0_2.length : Int) then (outlawlaw25_ScriptWrong.j0 k bt307.1 bt307.2 (bt307.1 != 0) a0_0 a0_1 l0_2) else (outlawlaw25_ScriptWrong.j0 k bt307.1 bt307.2 false a0_0 a0_1 l0_2)))))) else (some true))) else (some false))) = some r := h
 clear h
 replace H := Option.bind_eq_some_iff.mp H
 obtain ⟨t305, A20, H⟩ := H
 replace H : (if t305 = true then ((outlawlaw25_light.f k a0_0 a0_1 l0_2).bind fun t306 => (if t306 = true then ((script_Check.f k a0_0 a0_1 l0_2).bind fun bt307 => (if bt307.2 = 0 then (some (bt307.1 == 0)) else (if bt307.1 < 0 then (outlawlaw25_ScriptWrong.j0 k bt307.1 bt307.2 true a0_0 a0_1 l0_2) else (if bt307.1 > (l0_2.length : Int) then (outlawlaw25_ScriptWrong.j0 k bt307.1 bt307.2 true a0_0 a0_1 l0_2) else (if bt307.1 = (l0_2.length : Int) then (outlawlaw25_ScriptWrong.j0 k bt307.1 bt307.2 (bt307.1 != 0) a0_0 a0_1 l0_2) else (outlawlaw25_ScriptWrong.j0 k bt307.1 bt307.2 false a0_0 a0_1 l0_2)))))) else (some true))) else (some false)) = some r := H
 have A2 := Aside0.mk A20
 clear A20
 by_cases c3 : t305 = true
 ·subst c3
  have H1 : ((outlawlaw25_light.f k a0_0 a0_1 l0_2).bind fun t306 => (if t306 = true then ((script_Check.f k a0_0 a0_1 l0_2).bind fun bt307 => (if bt307.2 = 0 then (some (bt307.1 == 0)) else (if bt307.1 < 0 then (outlawlaw25_ScriptWrong.j0 k bt307.1 bt307.2 true a0_0 a0_1 l0_2) else (if bt307.1 > (l0_2.length : Int) then (outlawlaw25_ScriptWrong.j0 k bt307.1 bt307.2 true a0_0 a0_1 l0_2) else (if bt307.1 = (l0_2.length : Int) then (outlawlaw25_ScriptWrong.j0 k bt307.1 bt307.2 (bt307.1 != 0) a0_0 a0_1 l0_2) else (outlawlaw25_ScriptWrong.j0 k bt307.1 bt307.2 false a0_0 a0_1 l0_2)))))) else (some true))) = some r := by rw [if_pos rfl] at H; exact H
  clear H
  have H := H1
  clear H1
  replace H := Option.bind_eq_some_iff.mp H
  obtain ⟨t306, A40, H⟩ := H
  replace H : (if t306 = true then ((script_Check.f k a0_0 a0_1 l0_2).bind fun bt307 => (if bt307.2 = 0 then (some (bt307.1 == 0)) else (if bt307.1 < 0 then (outlawlaw25_ScriptWrong.j0 k bt307.1 bt307.2 true a0_0 a0_1 l0_2) else (if bt307.1 > (l0_2.length : Int) then (outlawlaw25_ScriptWrong.j0 k bt307.1 bt307.2 true a0_0 a0_1 l0_2) else (if bt307.1 = (l0_2.length : Int) then (outlawlaw25_ScriptWrong.j0 k bt307.1 bt307.2 (bt307.1 != 0) a0_0 a0_1 l0_2) else (outlawlaw25_ScriptWrong.j0 k bt307.1 bt307.2 false a0_0 a0_1 l0_2)))))) else (some true)) = some r := H
  have A4 := Aside0.mk A40
  clear A40
  by_cases c5 : t306 = true
  ·subst c5
   have H1 : ((script_Check.f k a0_0 a0_1 l0_2).bind fun bt307 => (if bt307.2 = 0 then (some (bt307.1 == 0)) else (if bt307.1 < 0 then (outlawlaw25_ScriptWrong.j0 k bt307.1 bt307.2 true a0_0 a0_1 l0_2) else (if bt307.1 > (l0_2.length : Int) then (outlawlaw25_ScriptWrong.j0 k bt307.1 bt307.2 true a0_0 a0_1 l0_2) else (if bt307.1 = (l0_2.length : Int) then (outlawlaw25_ScriptWrong.j0 k bt307.1 bt307.2 (bt307.1 != 0) a0_0 a0_1 l0_2) else (outlawlaw25_ScriptWrong.j0 k bt307.1 bt307.2 false a0_0 a0_1 l0_2)))))) = some r := by rw [if_pos rfl] at H; exact H
   clear H
   have H := H1
   clear H1
   replace H := Option.bind_eq_some_iff.mp H
   obtain ⟨⟨t307, t308⟩, A60, H⟩ := H
   replace H : (if t308 = 0 then (some (t307 == 0)) else (if t307 < 0 then (outlawlaw25_ScriptWrong.j0 k t307 t308 true a0_0 a0_1 l0_2) else (if t307 > (l0_2.length : Int) then (outlawlaw25_ScriptWrong.j0 k t307 t308 true a0_0 a0_1 l0_2) else (if t307 = (l0_2.length : Int) then (outlawlaw25_ScriptWrong.j0 k t307 t308 (t307 != 0) a0_0 a0_1 l0_2) else (outlawlaw25_ScriptWrong.j0 k t307 t308 false a0_0 a0_1 l0_2))))) = some r := H
   have A6 := Aside0.mk A60
   clear A60
   by_cases c7 : t308 = 0
   ·rw [if_pos c7] at H
    have c7b0 : (t308 == 0) = true := beq_iff_eq.mpr c7
    have c7b1 : (t308 != 0) = false := bne_eq_false_iff_eq.mpr c7
    clear c7
    obtain rfl := Option.some.inj H
    go_enter Try.func5, Try.ntmps5
    go_wp2_with (first | ((with_reducible refine gate_dst (N := 1) rfl ?_); (try (refine gate_guard (by rfl) ?_; dsimp only)); refine box_event ?hg (N := 1) ?hd (cs := #[.string a0_0, .int .i64 a0_1, .slice A0_2 l0_2.length c0_2]) (t := 24) ?hr ?_; (case hd => rfl); (case hg => rfl); (case hr => first | (go_simp; done) | (go_simp; rfl)); intro gb304 hg w8 hbox hb; have n0_ := Aside0.mk (below_step (by repeat (first | (with_reducible first | exact HB.out | apply below_alloc | apply pw_below_drewN | apply below_drew1) | exact HB.out)) hb); have n1_ := Aside0.mk (hbox); have n2_ := Aside0.mk ((by rw [hg]; exact (below_size (by repeat (first | (with_reducible first | exact HB.out | apply below_alloc | apply pw_below_drewN | apply below_drew1) | exact HB.out))) : w.heap.size ≤ gb304)); have n3_ := Aside0.mk ((by rw [hg]; exact (below_size (by repeat (first | (with_reducible first | exact HB.out | apply below_alloc | apply pw_below_drewN | apply below_drew1) | exact HB.out))) : w.heap.size ≤ gb304)); clear HB; have HB := n0_; have BK304 := n1_; have GW304 := n2_; have GE304 := n3_; clear n0_ n1_ n2_ n3_; clear hb hbox hg) | ((with_reducible refine gate_callee (f := 8) rfl ?_); refine goesL_ (some 14) rfl rfl Try.func8 (by kernel_rfl) rfl #[] rfl (by (try simp only [List.map_toArray, List.map_cons, List.map_nil]); first | done | rfl | (simp only [List.length_drop, List.length_take]; rfl)) ?_; (with_reducible refine (outlawlaw25_lives.calls k  true _ A2.out).mono ?_); rintro e w9 ⟨rfl, hb⟩; refine ⟨_, rfl, ?_⟩; have n0_ := Aside0.mk (blk_below (g := gb304) (o := .cells #[.string a0_0, .int .i64 a0_1, .slice A0_2 l0_2.length c0_2] 24 (0, 0)) (by (with_reducible repeat (first | refine blk_drewN ?_ _ | refine blk_drew ?_ | refine blk_alloc ?_ _)); exact BK304.out) hb); have n1_ := Aside0.mk (below_step (by repeat (first | (with_reducible first | exact HB.out | apply below_alloc | apply pw_below_drewN | apply below_drew1 | refine below_set ?_ GE304.out) | exact HB.out)) hb); clear BK304; clear HB; have BK304 := n0_; have HB := n1_; clear n0_ n1_; (try clear hb); (try clear hb2); (try clear hk); (try clear hi); have hcz10_0 : w9.cell? ⟨gb304, 0, none⟩ = some (.string a0_0) := (blk_cell BK304.out 0).trans rfl; have hcz10_1 : w9.cell? ⟨gb304, 1, none⟩ = some (.int .i64 a0_1) := (blk_cell BK304.out 1).trans rfl; have hcz10_2 : w9.cell? ⟨gb304, 2, none⟩ = some (.slice A0_2 l0_2.length c0_2) := (blk_cell BK304.out 2).trans rfl; have hfz10_0 := blk_frozen BK304.out 0; have hfz10_1 := blk_frozen BK304.out 1; have hfz10_2 := blk_frozen BK304.out 2) | ((with_reducible refine gate_callee (f := 9) rfl ?_); refine goesL_ (some 17) rfl rfl Try.func9 (by kernel_rfl) rfl #[.agg #[.string a0_0, .int .i64 a0_1, .slice A0_2 l0_2.length c0_2]] rfl (by (try simp only [List.map_toArray, List.map_cons, List.map_nil]); first | done | rfl | (simp only [List.length_drop, List.length_take]; rfl)) ?_; (with_reducible refine (outlawlaw25_light.calls k a0_0 a0_1 _ _ l0_2 true _ ?side1 ?side2 A4.out).mono ?_); (case side1 => repeat (first | exact (Kd.C_below HR0_2.out HB.out) | (with_reducible refine Kd.C_alloc ?_ _) | (with_reducible refine Kd.C_drewN ?_ _) | (with_reducible refine Kd.C_drew ?_))); (case side2 => exact HC0_2.out); rintro e w11 ⟨rfl, hb⟩; refine ⟨_, rfl, ?_⟩; have n0_ := Aside0.mk (blk_below (g := gb304) (o := .cells #[.string a0_0, .int .i64 a0_1, .slice A0_2 l0_2.length c0_2] 24 (0, 0)) (by (with_reducible repeat (first | refine blk_drewN ?_ _ | refine blk_drew ?_ | refine blk_alloc ?_ _)); exact BK304.out) hb); have n1_ := Aside0.mk (below_step (by repeat (first | (with_reducible first | exact HB.out | apply below_alloc | apply pw_below_drewN | apply below_drew1 | refine below_set ?_ GE304.out) | exact HB.out)) hb); clear BK304; clear HB; have BK304 := n0_; have HB := n1_; clear n0_ n1_; (try clear hb); (try clear hb2); (try clear hk); (try clear hi); have hcz12_0 : w11.cell? ⟨gb304, 0, none⟩ = some (.string a0_0) := (blk_cell BK304.out 0).trans rfl; have hcz12_1 : w11.cell? ⟨gb304, 1, none⟩ = some (.int .i64 a0_1) := (blk_cell BK304.out 1).trans rfl; have hcz12_2 : w11.cell? ⟨gb304, 2, none⟩ = some (.slice A0_2 l0_2.length c0_2) := (blk_cell BK304.out 2).trans rfl; have hfz12_0 := blk_frozen BK304.out 0; have hfz12_1 := blk_frozen BK304.out 1; have hfz12_2 := blk_frozen BK304.out 2) | ((with_reducible refine gate_callee (f := 10) rfl ?_); refine goesL_ (some 21) rfl rfl Try.func10 (by kernel_rfl) rfl #[.agg #[.string a0_0, .int .i64 a0_1, .slice A0_2 l0_2.length c0_2]] rfl (by (try simp only [List.map_toArray, List.map_cons, List.map_nil]); first | done | rfl | (simp only [List.length_drop, List.length_take]; rfl)) ?_; (with_reducible refine (script_Check.calls k a0_0 a0_1 _ _ l0_2 t307 t308 _ ?side1 ?side2 A6.out).mono ?_); (case side1 => repeat (first | exact (Kd.C_below HR0_2.out HB.out) | (with_reducible refine Kd.C_alloc ?_ _) | (with_reducible refine Kd.C_drewN ?_ _) | (with_reducible refine Kd.C_drew ?_))); (case side2 => exact HC0_2.out); rintro e w13 ⟨rfl, hb⟩; refine ⟨_, rfl, ?_⟩; have n0_ := Aside0.mk (blk_below (g := gb304) (o := .cells #[.string a0_0, .int .i64 a0_1, .slice A0_2 l0_2.length c0_2] 24 (0, 0)) (by (with_reducible repeat (first | refine blk_drewN ?_ _ | refine blk_drew ?_ | refine blk_alloc ?_ _)); exact BK304.out) hb); have n1_ := Aside0.mk (below_step (by repeat (first | (with_reducible first | exact HB.out | apply below_alloc | apply pw_below_drewN | apply below_drew1 | refine below_set ?_ GE304.out) | exact HB.out)) hb); clear BK304; clear HB; have BK304 := n0_; have HB := n1_; clear n0_ n1_; (try clear hb); (try clear hb2); (try clear hk); (try clear hi)))
    go_ret
    exact ⟨by first | rfl | (simp [errW_none, errW_some] <;> rfl) | (simp [*, errW_none, errW_some] <;> rfl), by repeat (first | (with_reducible first | exact HB.out | apply below_alloc | apply pw_below_drewN | apply below_drew1 | refine below_set ?_ GE304.out) | exact HB.out)⟩
   ·rw [if_neg c7] at H
    have c7b0 : (t308 == 0) = false := beq_eq_false_iff_ne.mpr c7
    have c7b1 : (t308 != 0) = true := bne_iff_ne.mpr c7
    have HC14 := Aside0.mk H
    clear H
    go_enter Try.func5, Try.ntmps5
    go_upto_region 8 with (first | ((with_reducible refine gate_dst (N := 1) rfl ?_); (try (refine gate_guard (by rfl) ?_; dsimp only)); refine box_event ?hg (N := 1) ?hd (cs := #[.string a0_0, .int .i64 a0_1, .slice A0_2 l0_2.length c0_2]) (t := 24) ?hr ?_; (case hd => rfl); (case hg => rfl); (case hr => first | (go_simp; done) | (go_simp; rfl)); intro gb304 hg w15 hbox hb; have n0_ := Aside0.mk (below_step (by repeat (first | (with_reducible first | exact HB.out | apply below_alloc | apply pw_below_drewN | apply below_drew1) | exact HB.out)) hb); have n1_ := Aside0.mk (hbox); have n2_ := Aside0.mk ((by rw [hg]; exact (below_size (by repeat (first | (with_reducible first | exact HB.out | apply below_alloc | apply pw_below_drewN | apply below_drew1) | exact HB.out))) : w.heap.size ≤ gb304)); have n3_ := Aside0.mk ((by rw [hg]; exact (below_size (by repeat (first | (with_reducible first | exact HB.out | apply below_alloc | apply pw_below_drewN | apply below_drew1) | exact HB.out))) : w.heap.size ≤ gb304)); clear HB; have HB := n0_; have BK304 := n1_; have GW304 := n2_; have GE304 := n3_; clear n0_ n1_ n2_ n3_; clear hb hbox hg) | ((with_reducible refine gate_callee (f := 8) rfl ?_); refine goesL_ (some 14) rfl rfl Try.func8 (by kernel_rfl) rfl #[] rfl (by (try simp only [List.map_toArray, List.map_cons, List.map_nil]); first | done | rfl | (simp only [List.length_drop, List.length_take]; rfl)) ?_; (with_reducible refine (outlawlaw25_lives.calls k  true _ A2.out).mono ?_); rintro e w16 ⟨rfl, hb⟩; refine ⟨_, rfl, ?_⟩; have n0_ := Aside0.mk (blk_below (g := gb304) (o := .cells #[.string a0_0, .int .i64 a0_1, .slice A0_2 l0_2.length c0_2] 24 (0, 0)) (by (with_reducible repeat (first | refine blk_drewN ?_ _ | refine blk_drew ?_ | refine blk_alloc ?_ _)); exact BK304.out) hb); have n1_ := Aside0.mk (below_step (by repeat (first | (with_reducible first | exact HB.out | apply below_alloc | apply pw_below_drewN | apply below_drew1 | refine below_set ?_ GE304.out) | exact HB.out)) hb); clear BK304; clear HB; have BK304 := n0_; have HB := n1_; clear n0_ n1_; (try clear hb); (try clear hb2); (try clear hk); (try clear hi); have hcz17_0 : w16.cell? ⟨gb304, 0, none⟩ = some (.string a0_0) := (blk_cell BK304.out 0).trans rfl; have hcz17_1 : w16.cell? ⟨gb304, 1, none⟩ = some (.int .i64 a0_1) := (blk_cell BK304.out 1).trans rfl; have hcz17_2 : w16.cell? ⟨gb304, 2, none⟩ = some (.slice A0_2 l0_2.length c0_2) := (blk_cell BK304.out 2).trans rfl; have hfz17_0 := blk_frozen BK304.out 0; have hfz17_1 := blk_frozen BK304.out 1; have hfz17_2 := blk_frozen BK304.out 2) | ((with_reducible refine gate_callee (f := 9) rfl ?_); refine goesL_ (some 17) rfl rfl Try.func9 (by kernel_rfl) rfl #[.agg #[.string a0_0, .int .i64 a0_1, .slice A0_2 l0_2.length c0_2]] rfl (by (try simp only [List.map_toArray, List.map_cons, List.map_nil]); first | done | rfl | (simp only [List.length_drop, List.length_take]; rfl)) ?_; (with_reducible refine (outlawlaw25_light.calls k a0_0 a0_1 _ _ l0_2 true _ ?side1 ?side2 A4.out).mono ?_); (case side1 => repeat (first | exact (Kd.C_below HR0_2.out HB.out) | (with_reducible refine Kd.C_alloc ?_ _) | (with_reducible refine Kd.C_drewN ?_ _) | (with_reducible refine Kd.C_drew ?_))); (case side2 => exact HC0_2.out); rintro e w18 ⟨rfl, hb⟩; refine ⟨_, rfl, ?_⟩; have n0_ := Aside0.mk (blk_below (g := gb304) (o := .cells #[.string a0_0, .int .i64 a0_1, .slice A0_2 l0_2.length c0_2] 24 (0, 0)) (by (with_reducible repeat (first | refine blk_drewN ?_ _ | refine blk_drew ?_ | refine blk_alloc ?_ _)); exact BK304.out) hb); have n1_ := Aside0.mk (below_step (by repeat (first | (with_reducible first | exact HB.out | apply below_alloc | apply pw_below_drewN | apply below_drew1 | refine below_set ?_ GE304.out) | exact HB.out)) hb); clear BK304; clear HB; have BK304 := n0_; have HB := n1_; clear n0_ n1_; (try clear hb); (try clear hb2); (try clear hk); (try clear hi); have hcz19_0 : w18.cell? ⟨gb304, 0, none⟩ = some (.string a0_0) := (blk_cell BK304.out 0).trans rfl; have hcz19_1 : w18.cell? ⟨gb304, 1, none⟩ = some (.int .i64 a0_1) := (blk_cell BK304.out 1).trans rfl; have hcz19_2 : w18.cell? ⟨gb304, 2, none⟩ = some (.slice A0_2 l0_2.length c0_2) := (blk_cell BK304.out 2).trans rfl; have hfz19_0 := blk_frozen BK304.out 0; have hfz19_1 := blk_frozen BK304.out 1; have hfz19_2 := blk_frozen BK304.out 2) | ((with_reducible refine gate_callee (f := 10) rfl ?_); refine goesL_ (some 21) rfl rfl Try.func10 (by kernel_rfl) rfl #[.agg #[.string a0_0, .int .i64 a0_1, .slice A0_2 l0_2.length c0_2]] rfl (by (try simp only [List.map_toArray, List.map_cons, List.map_nil]); first | done | rfl | (simp only [List.length_drop, List.length_take]; rfl)) ?_; (with_reducible refine (script_Check.calls k a0_0 a0_1 _ _ l0_2 t307 t308 _ ?side1 ?side2 A6.out).mono ?_); (case side1 => repeat (first | exact (Kd.C_below HR0_2.out HB.out) | (with_reducible refine Kd.C_alloc ?_ _) | (with_reducible refine Kd.C_drewN ?_ _) | (with_reducible refine Kd.C_drew ?_))); (case side2 => exact HC0_2.out); rintro e w20 ⟨rfl, hb⟩; refine ⟨_, rfl, ?_⟩; have n0_ := Aside0.mk (blk_below (g := gb304) (o := .cells #[.string a0_0, .int .i64 a0_1, .slice A0_2 l0_2.length c0_2] 24 (0, 0)) (by (with_reducible repeat (first | refine blk_drewN ?_ _ | refine blk_drew ?_ | refine blk_alloc ?_ _)); exact BK304.out) hb); have n1_ := Aside0.mk (below_step (by repeat (first | (with_reducible first | exact HB.out | apply below_alloc | apply pw_below_drewN | apply below_drew1 | refine below_set ?_ GE304.out) | exact HB.out)) hb); clear BK304; clear HB; have BK304 := n0_; have HB := n1_; clear n0_ n1_; (try clear hb); (try clear hb2); (try clear hk); (try clear hi)))
    (try simp only [Act.put, List.setIfInBounds_toArray, List.set_cons_zero, List.set_cons_succ])
    go_cut [47] (fun v47 wc => ∃ (kq : Nat) (x47_13 : Bool), v47 = .bool x47_13 ∧ Aside0 (outlawlaw25_ScriptWrong.j0 kq t307 t308 x47_13 a0_0 a0_1 l0_2 = some r) ∧ Aside0 (kq ≤ k) ∧ Aside0 (wc.heap[gb304]? = some (.cells #[.string a0_0, .int .i64 a0_1, (.slice A0_2 l0_2.length c0_2)] 24 (0, 0))) ∧ Aside0 (Below w.heap.size w wc))
    case first =>
     have H := HC14.out
     clear HC14
     by_cases c21 : t307 < 0
     ·rw [if_pos c21] at H
      have c21b0 : decide (t307 < 0) = true := decide_eq_true c21
      clear c21
      (first | rw [c21b0] | (simp only [i64_w, i32_w]; rw [c21b0]) | skip)
      have H' := Aside0.mk H
      clear H
      go_wp2
      all_goals
       go_meet
       case rel => exact ⟨_, (true), (by first | rfl | (simp; done) | (simp [*]; done) | (simp [bneNil_, beqNil_]; done) | (simp [bneNil_, beqNil_, *]; done) | (simp_all; done)), H', ⟨by first | omega | exact Nat.le_refl _⟩, ⟨by (with_reducible repeat (first | refine blk_drewN ?_ _ | refine blk_drew ?_ | refine blk_alloc ?_ _)); exact BK304.out⟩, ⟨by repeat (first | (with_reducible first | exact HB.out | apply below_alloc | apply pw_below_drewN | apply below_drew1 | refine below_set ?_ GE304.out) | exact HB.out)⟩⟩
     ·rw [if_neg c21] at H
      have c21b0 : decide (t307 < 0) = false := decide_eq_false c21
      clear c21
      (first | rw [c21b0] | (simp only [i64_w, i32_w]; rw [c21b0]) | skip)
      by_cases c22 : t307 > (l0_2.length : Int)
      ·rw [if_pos c22] at H
       have c22b0 : decide ((l0_2.length : Int) < t307) = true := decide_eq_true c22
       clear c22
       have H' := Aside0.mk H
       clear H
       have hcz23_0 : w20.cell? ⟨gb304, 0, none⟩ = some (.string a0_0) := (blk_cell BK304.out 0).trans rfl
       have hcz23_1 : w20.cell? ⟨gb304, 1, none⟩ = some (.int .i64 a0_1) := (blk_cell BK304.out 1).trans rfl
       have hcz23_2 : w20.cell? ⟨gb304, 2, none⟩ = some (.slice A0_2 l0_2.length c0_2) := (blk_cell BK304.out 2).trans rfl
       have hfz23_0 := blk_frozen BK304.out 0
       have hfz23_1 := blk_frozen BK304.out 1
       have hfz23_2 := blk_frozen BK304.out 2
       go_wp2
       all_goals
        go_meet
        case rel => exact ⟨_, (true), (by first | rfl | (simp; done) | (simp [*]; done) | (simp [bneNil_, beqNil_]; done) | (simp [bneNil_, beqNil_, *]; done) | (simp_all; done)), H', ⟨by first | omega | exact Nat.le_refl _⟩, ⟨by (with_reducible repeat (first | refine blk_drewN ?_ _ | refine blk_drew ?_ | refine blk_alloc ?_ _)); exact BK304.out⟩, ⟨by repeat (first | (with_reducible first | exact HB.out | apply below_alloc | apply pw_below_drewN | apply below_drew1 | refine below_set ?_ GE304.out) | exact HB.out)⟩⟩
      ·rw [if_neg c22] at H
       have c22b0 : decide ((l0_2.length : Int) < t307) = false := decide_eq_false c22
       clear c22
       by_cases c24 : t307 = (l0_2.length : Int)
       ·rw [if_pos c24] at H
        have c24b0 : (t307 == (l0_2.length : Int)) = true := beq_iff_eq.mpr c24
        have c24b1 : (t307 != (l0_2.length : Int)) = false := bne_eq_false_iff_eq.mpr c24
        clear c24
        have H' := Aside0.mk H
        clear H
        have hcz25_0 : w20.cell? ⟨gb304, 0, none⟩ = some (.string a0_0) := (blk_cell BK304.out 0).trans rfl
        have hcz25_1 : w20.cell? ⟨gb304, 1, none⟩ = some (.int .i64 a0_1) := (blk_cell BK304.out 1).trans rfl
        have hcz25_2 : w20.cell? ⟨gb304, 2, none⟩ = some (.slice A0_2 l0_2.length c0_2) := (blk_cell BK304.out 2).trans rfl
        have hfz25_0 := blk_frozen BK304.out 0
        have hfz25_1 := blk_frozen BK304.out 1
        have hfz25_2 := blk_frozen BK304.out 2
        go_wp2
        all_goals
         go_meet
         case rel => exact ⟨_, ((t307 != 0)), (by first | rfl | (simp; done) | (simp [*]; done) | (simp [bneNil_, beqNil_]; done) | (simp [bneNil_, beqNil_, *]; done) | (simp_all; done)), H', ⟨by first | omega | exact Nat.le_refl _⟩, ⟨by (with_reducible repeat (first | refine blk_drewN ?_ _ | refine blk_drew ?_ | refine blk_alloc ?_ _)); exact BK304.out⟩, ⟨by repeat (first | (with_reducible first | exact HB.out | apply below_alloc | apply pw_below_drewN | apply below_drew1 | refine below_set ?_ GE304.out) | exact HB.out)⟩⟩
       ·rw [if_neg c24] at H
        have c24b0 : (t307 == (l0_2.length : Int)) = false := beq_eq_false_iff_ne.mpr c24
        have c24b1 : (t307 != (l0_2.length : Int)) = true := bne_iff_ne.mpr c24
        have H' := Aside0.mk H
        clear H
        have hcz26_0 : w20.cell? ⟨gb304, 0, none⟩ = some (.string a0_0) := (blk_cell BK304.out 0).trans rfl
        have hcz26_1 : w20.cell? ⟨gb304, 1, none⟩ = some (.int .i64 a0_1) := (blk_cell BK304.out 1).trans rfl
        have hcz26_2 : w20.cell? ⟨gb304, 2, none⟩ = some (.slice A0_2 l0_2.length c0_2) := (blk_cell BK304.out 2).trans rfl
        have hfz26_0 := blk_frozen BK304.out 0
        have hfz26_1 := blk_frozen BK304.out 1
        have hfz26_2 := blk_frozen BK304.out 2
        go_wp2
        all_goals
         go_meet
         case rel => exact ⟨_, (false), (by first | rfl | (simp; done) | (simp [*]; done) | (simp [bneNil_, beqNil_]; done) | (simp [bneNil_, beqNil_, *]; done) | (simp_all; done)), H', ⟨by first | omega | exact Nat.le_refl _⟩, ⟨by (with_reducible repeat (first | refine blk_drewN ?_ _ | refine blk_drew ?_ | refine blk_alloc ?_ _)); exact BK304.out⟩, ⟨by repeat (first | (with_reducible first | exact HB.out | apply below_alloc | apply pw_below_drewN | apply below_drew1 | refine below_set ?_ GE304.out) | exact HB.out)⟩⟩
    case rest =>
     clear HC14
     try clear c1
     try clear c2
     try clear p2
     try clear c3
     try clear c5
     try clear c7
     try clear c7b0
     try clear c7b1
     try clear c8
     try clear c9
     try clear c10
     try clear c21
     try clear c21b0
     try clear c22
     try clear c22b0
     try clear c24
     try clear c24b0
     try clear c24b1
     try clear hcz10_0
     try clear hcz10_1
     try clear hcz10_2
     try clear hcz12_0
     try clear hcz12_1
     try clear hcz12_2
     try clear hcz17_0
     try clear hcz17_1
     try clear hcz17_2
     try clear hcz19_0
     try clear hcz19_1
     try clear hcz19_2
     try clear hcz23_0
     try clear hcz23_1
     try clear hcz23_2
     try clear hcz25_0
     try clear hcz25_1
     try clear hcz25_2
     try clear hcz26_0
     try clear hcz26_1
     try clear hcz26_2
     try clear hfz10_0
     try clear hfz10_1
     try clear hfz10_2
     try clear hfz12_0
     try clear hfz12_1
     try clear hfz12_2
     try clear hfz17_0
     try clear hfz17_1
     try clear hfz17_2
     try clear hfz19_0
     try clear hfz19_1
     try clear hfz19_2
     try clear hfz23_0
     try clear hfz23_1
     try clear hfz23_2
     try clear hfz25_0
     try clear hfz25_1
     try clear hfz25_2
     try clear hfz26_0
     try clear hfz26_1
     try clear hfz26_2
     obtain ⟨kq, x47_13, rfl, HA, HJ13, BK304, HB⟩ := hcut
     cases kq with
     | zero => exact absurd HA.out (by simp [outlawlaw25_ScriptWrong.j0])
     | succ kj13 =>
      have H := HA.out
      clear HA
      simp only [outlawlaw25_ScriptWrong.j0] at H
      by_cases c27 : x47_13 = true
      ·subst c27
       have H1 : (some false) = some r := by rw [if_pos rfl] at H; exact H
       clear H
       have H := H1
       clear H1
       exact absurd ((Option.some.inj H).trans hr_.out) (by decide)
      ·replace c27 := Bool.eq_false_iff.mpr c27
       subst c27
       have H1 : (if (l0_2.length : Int) = 0 then (outlawlaw25_ScriptWrong.j1 kj13 t307 t308 (t307 != 0) a0_0 a0_1 l0_2) else (outlawlaw25_ScriptWrong.j1 kj13 t307 t308 false a0_0 a0_1 l0_2)) = some r := by rw [if_neg (show ¬ (false = true) by decide)] at H; exact H
       clear H
       have H := H1
       clear H1
       have HC28 := Aside0.mk H
       clear H
       go_upto_region 10 with (fail)
       go_cut [55] (fun v55 wc => ∃ (kq : Nat) (x55_27 : Bool), v55 = .bool x55_27 ∧ Aside0 (outlawlaw25_ScriptWrong.j1 kq t307 t308 x55_27 a0_0 a0_1 l0_2 = some r) ∧ Aside0 (kq ≤ kj13) ∧ Aside0 (wc.heap[gb304]? = some (.cells #[.string a0_0, .int .i64 a0_1, (.slice A0_2 l0_2.length c0_2)] 24 (0, 0))) ∧ Aside0 (Below w.heap.size w wc))
       case first =>
        have H := HC28.out
        clear HC28
        by_cases c29 : (l0_2.length : Int) = 0
        ·rw [if_pos c29] at H
         have c29b0 : ((l0_2.length : Int) == 0) = true := beq_iff_eq.mpr c29
         have c29b1 : ((l0_2.length : Int) != 0) = false := bne_eq_false_iff_eq.mpr c29
         clear c29
         (first | rw [c29b0] | (simp only [i64_w, i32_w]; rw [c29b0]) | skip)
         have H' := Aside0.mk H
         clear H
         have hcz30_0 : wc.cell? ⟨gb304, 0, none⟩ = some (.string a0_0) := (blk_cell BK304.out 0).trans rfl
         have hcz30_1 : wc.cell? ⟨gb304, 1, none⟩ = some (.int .i64 a0_1) := (blk_cell BK304.out 1).trans rfl
         have hcz30_2 : wc.cell? ⟨gb304, 2, none⟩ = some (.slice A0_2 l0_2.length c0_2) := (blk_cell BK304.out 2).trans rfl
         have hfz30_0 := blk_frozen BK304.out 0
         have hfz30_1 := blk_frozen BK304.out 1
         have hfz30_2 := blk_frozen BK304.out 2
         go_wp2
         all_goals
          go_meet
          case rel => exact ⟨_, ((t307 != 0)), (by first | rfl | (simp; done) | (simp [*]; done) | (simp [bneNil_, beqNil_]; done) | (simp [bneNil_, beqNil_, *]; done) | (simp_all; done)), H', ⟨by have := HJ13.out; first | omega | exact Nat.le_refl _⟩, ⟨by (with_reducible repeat (first | refine blk_drewN ?_ _ | refine blk_drew ?_ | refine blk_alloc ?_ _)); exact BK304.out⟩, ⟨by repeat (first | (with_reducible first | exact HB.out | apply below_alloc | apply pw_below_drewN | apply below_drew1 | refine below_set ?_ GE304.out) | exact HB.out)⟩⟩
        ·rw [if_neg c29] at H
         have c29b0 : ((l0_2.length : Int) == 0) = false := beq_eq_false_iff_ne.mpr c29
         have c29b1 : ((l0_2.length : Int) != 0) = true := bne_iff_ne.mpr c29
         have c29b2 : ¬ (l0_2 = []) := fun h_ => c29 (by rw [h_]; rfl)
         (first | rw [c29b0] | (simp only [i64_w, i32_w]; rw [c29b0]) | skip)
         have H' := Aside0.mk H
         clear H
         have hcz31_0 : wc.cell? ⟨gb304, 0, none⟩ = some (.string a0_0) := (blk_cell BK304.out 0).trans rfl
         have hcz31_1 : wc.cell? ⟨gb304, 1, none⟩ = some (.int .i64 a0_1) := (blk_cell BK304.out 1).trans rfl
         have hcz31_2 : wc.cell? ⟨gb304, 2, none⟩ = some (.slice A0_2 l0_2.length c0_2) := (blk_cell BK304.out 2).trans rfl
         have hfz31_0 := blk_frozen BK304.out 0
         have hfz31_1 := blk_frozen BK304.out 1
         have hfz31_2 := blk_frozen BK304.out 2
         go_wp2
         all_goals
          go_meet
          case rel => exact ⟨_, (false), (by first | rfl | (simp; done) | (simp [*]; done) | (simp [bneNil_, beqNil_]; done) | (simp [bneNil_, beqNil_, *]; done) | (simp_all; done)), H', ⟨by have := HJ13.out; first | omega | exact Nat.le_refl _⟩, ⟨by (with_reducible repeat (first | refine blk_drewN ?_ _ | refine blk_drew ?_ | refine blk_alloc ?_ _)); exact BK304.out⟩, ⟨by repeat (first | (with_reducible first | exact HB.out | apply below_alloc | apply pw_below_drewN | apply below_drew1 | refine below_set ?_ GE304.out) | exact HB.out)⟩⟩
       case rest =>
        clear HC28
        try clear c1
        try clear c2
        try clear p2
        try clear c3
        try clear c5
        try clear c7
        try clear c7b0
        try clear c7b1
        try clear c8
        try clear c9
        try clear c10
        try clear c21
        try clear c21b0
        try clear c22
        try clear c22b0
        try clear c24
        try clear c24b0
        try clear c24b1
        try clear c27
        try clear c29
        try clear c29b0
        try clear c29b1
        try clear c29b2
        try clear hcz10_0
        try clear hcz10_1
        try clear hcz10_2
        try clear hcz12_0
        try clear hcz12_1
        try clear hcz12_2
        try clear hcz17_0
        try clear hcz17_1
        try clear hcz17_2
        try clear hcz19_0
        try clear hcz19_1
        try clear hcz19_2
        try clear hcz23_0
        try clear hcz23_1
        try clear hcz23_2
        try clear hcz25_0
        try clear hcz25_1
        try clear hcz25_2
        try clear hcz26_0
        try clear hcz26_1
        try clear hcz26_2
        try clear hcz30_0
        try clear hcz30_1
        try clear hcz30_2
        try clear hcz31_0
        try clear hcz31_1
        try clear hcz31_2
        try clear hfz10_0
        try clear hfz10_1
        try clear hfz10_2
        try clear hfz12_0
        try clear hfz12_1
        try clear hfz12_2
        try clear hfz17_0
        try clear hfz17_1
        try clear hfz17_2
        try clear hfz19_0
        try clear hfz19_1
        try clear hfz19_2
        try clear hfz23_0
        try clear hfz23_1
        try clear hfz23_2
        try clear hfz25_0
        try clear hfz25_1
        try clear hfz25_2
        try clear hfz26_0
        try clear hfz26_1
        try clear hfz26_2
        try clear hfz30_0
        try clear hfz30_1
        try clear hfz30_2
        try clear hfz31_0
        try clear hfz31_1
        try clear hfz31_2
        try clear p2
        obtain ⟨kq, x55_27, rfl, HA, HJ27, BK304, HB⟩ := hcut
        cases kq with
        | zero => exact absurd HA.out (by simp [outlawlaw25_ScriptWrong.j1])
        | succ kj27 =>
         have H := HA.out
         clear HA
         simp only [outlawlaw25_ScriptWrong.j1] at H
         by_cases c32 : x55_27 = true
         ·subst c32
          have H1 : (some false) = some r := by rw [if_pos rfl] at H; exact H
          clear H
          have H := H1
          clear H1
          exact absurd ((Option.some.inj H).trans hr_.out) (by decide)
         ·replace c32 := Bool.eq_false_iff.mpr c32
          subst c32
          have H1 : ((script_Check.f kj27 a0_0 a0_1 ([] : List (S45))).bind fun bt310 => (if bt310.2 = 0 then (outlawlaw25_ScriptWrong.j2 kj27 t307 t308 bt310.2 (decide ((l0_2.length : Int) > 300)) a0_0 a0_1 l0_2) else (outlawlaw25_ScriptWrong.j2 kj27 t307 t308 bt310.2 true a0_0 a0_1 l0_2))) = some r := by rw [if_neg (show ¬ (false = true) by decide)] at H; exact H
          clear H
          have H := H1
          clear H1
          replace H := Option.bind_eq_some_iff.mp H
          obtain ⟨⟨t310, t311⟩, A330, H⟩ := H
          replace H : (if t311 = 0 then (outlawlaw25_ScriptWrong.j2 kj27 t307 t308 t311 (decide ((l0_2.length : Int) > 300)) a0_0 a0_1 l0_2) else (outlawlaw25_ScriptWrong.j2 kj27 t307 t308 t311 true a0_0 a0_1 l0_2)) = some r := H
          have A33 := Aside0.mk A330
          clear A330
          have HC34 := Aside0.mk H
          clear H
          have hcz35_0 : wc.cell? ⟨gb304, 0, none⟩ = some (.string a0_0) := (blk_cell BK304.out 0).trans rfl
          have hcz35_1 : wc.cell? ⟨gb304, 1, none⟩ = some (.int .i64 a0_1) := (blk_cell BK304.out 1).trans rfl
          have hcz35_2 : wc.cell? ⟨gb304, 2, none⟩ = some (.slice A0_2 l0_2.length c0_2) := (blk_cell BK304.out 2).trans rfl
          have hfz35_0 := blk_frozen BK304.out 0
          have hfz35_1 := blk_frozen BK304.out 1
          have hfz35_2 := blk_frozen BK304.out 2
          go_upto_region 14 with (first | ((with_reducible refine gate_dst (N := 5) rfl ?_); (try (refine gate_guard (by rfl) ?_; dsimp only)); refine box_event ?hg (N := 5) ?hd (cs := #[.string (⟨#[]⟩ : ByteArray), .int .i64 0, .slice none 0 0]) (t := 24) ?hr ?_; (case hd => rfl); (case hg => rfl); (case hr => first | (go_simp; done) | (go_simp; rfl)); intro gb309 hg w36 hbox hb; have n0_ := Aside0.mk (blk_below (g := gb304) (o := .cells #[.string a0_0, .int .i64 a0_1, .slice A0_2 l0_2.length c0_2] 24 (0, 0)) (by (with_reducible repeat (first | refine blk_drewN ?_ _ | refine blk_drew ?_ | refine blk_alloc ?_ _)); exact BK304.out) hb); have n1_ := Aside0.mk (below_step (by repeat (first | (with_reducible first | exact HB.out | apply below_alloc | apply pw_below_drewN | apply below_drew1 | refine below_set ?_ GE304.out) | exact HB.out)) hb); have n2_ := Aside0.mk (hbox); have n3_ := Aside0.mk ((by rw [hg]; exact (below_size (by repeat (first | (with_reducible first | exact HB.out | apply below_alloc | apply pw_below_drewN | apply below_drew1 | refine below_set ?_ GE304.out) | exact HB.out))) : w.heap.size ≤ gb309)); have n4_ := Aside0.mk ((by rw [hg]; exact (below_size (by repeat (first | (with_reducible first | exact HB.out | apply below_alloc | apply pw_below_drewN | apply below_drew1 | refine below_set ?_ GE304.out) | exact HB.out))) : w.heap.size ≤ gb309)); have n5_ := Aside0.mk ((by rw [hg]; exact Nat.ne_of_lt (blk_lt (g := gb304) (o := .cells #[.string a0_0, .int .i64 a0_1, .slice A0_2 l0_2.length c0_2] 24 (0, 0)) (by (with_reducible repeat (first | refine blk_drewN ?_ _ | refine blk_drew ?_ | refine blk_alloc ?_ _)); exact BK304.out)) : gb304 ≠ gb309)); have n6_ := Aside0.mk ((by rw [hg]; exact Nat.ne_of_gt (blk_lt (g := gb304) (o := .cells #[.string a0_0, .int .i64 a0_1, .slice A0_2 l0_2.length c0_2] 24 (0, 0)) (by (with_reducible repeat (first | refine blk_drewN ?_ _ | refine blk_drew ?_ | refine blk_alloc ?_ _)); exact BK304.out)) : gb309 ≠ gb304)); clear BK304; clear HB; have BK304 := n0_; have HB := n1_; have BK309 := n2_; have GW309 := n3_; have GE309 := n4_; have NB304_309 := n5_; have NB309_304 := n6_; clear n0_ n1_ n2_ n3_ n4_ n5_ n6_; clear hb hbox hg; have hnb37 := NB309_304.out; have hnc37 := NB304_309.out; have hcz38_0 : w36.cell? ⟨gb309, 0, none⟩ = some (.string (⟨#[]⟩ : ByteArray)) := (blk_cell BK309.out 0).trans rfl; have hcz38_1 : w36.cell? ⟨gb309, 1, none⟩ = some (.int .i64 0) := (blk_cell BK309.out 1).trans rfl; have hcz38_2 : w36.cell? ⟨gb309, 2, none⟩ = some (.slice none 0 0) := (blk_cell BK309.out 2).trans rfl; have hfz38_0 := blk_frozen BK309.out 0; have hfz38_1 := blk_frozen BK309.out 1; have hfz38_2 := blk_frozen BK309.out 2) | ((with_reducible refine gate_callee (f := 10) rfl ?_); refine goesL_ (some 63) rfl rfl Try.func10 (by kernel_rfl) rfl #[.agg #[.string a0_0, .int .i64 a0_1, .slice none 0 0]] rfl (by (try simp only [List.map_toArray, List.map_cons, List.map_nil]); first | done | rfl | (simp only [List.length_drop, List.length_take]; rfl)) ?_; (refine (script_Check.calls kj27 a0_0 a0_1 _ _ ([] : List (S45)) t310 t311 _ ?side1 ?side2 A33.out).mono ?_); (case side1 => exact Kd.C_nil _ _); (case side2 => exact Nat.le_refl _); rintro e w39 ⟨rfl, hb⟩; refine ⟨_, rfl, ?_⟩; have n0_ := Aside0.mk (blk_below (g := gb304) (o := .cells #[.string a0_0, .int .i64 a0_1, .slice A0_2 l0_2.length c0_2] 24 (0, 0)) (by (with_reducible repeat (first | refine blk_drewN ?_ _ | refine blk_drew ?_ | refine blk_alloc ?_ _)); refine blk_far ?_ NB304_309.out _; (with_reducible repeat (first | refine blk_drewN ?_ _ | refine blk_drew ?_ | refine blk_alloc ?_ _)); refine blk_far ?_ NB304_309.out _; (with_reducible repeat (first | refine blk_drewN ?_ _ | refine blk_drew ?_ | refine blk_alloc ?_ _)); refine blk_far ?_ NB304_309.out _; (with_reducible repeat (first | refine blk_drewN ?_ _ | refine blk_drew ?_ | refine blk_alloc ?_ _)); exact BK304.out) hb); have n1_ := Aside0.mk (blk_below (g := gb309) (o := .cells #[.string a0_0, .int .i64 a0_1, .slice none 0 0] 24 (0, 0)) (by (with_reducible repeat (first | refine blk_drewN ?_ _ | refine blk_drew ?_ | refine blk_alloc ?_ _)); refine blk_put (cs := #[.string a0_0, .int .i64 a0_1, .slice none 0 0]) ?_ 2 _ rfl; (with_reducible repeat (first | refine blk_drewN ?_ _ | refine blk_drew ?_ | refine blk_alloc ?_ _)); refine blk_put (cs := #[.string a0_0, .int .i64 0, .slice none 0 0]) ?_ 1 _ rfl; (with_reducible repeat (first | refine blk_drewN ?_ _ | refine blk_drew ?_ | refine blk_alloc ?_ _)); refine blk_put (cs := #[.string (⟨#[]⟩ : ByteArray), .int .i64 0, .slice none 0 0]) ?_ 0 _ rfl; (with_reducible repeat (first | refine blk_drewN ?_ _ | refine blk_drew ?_ | refine blk_alloc ?_ _)); exact BK309.out) hb); have n2_ := Aside0.mk (below_step (by repeat (first | (with_reducible first | exact HB.out | apply below_alloc | apply pw_below_drewN | apply below_drew1 | refine below_set ?_ GE304.out | refine below_set ?_ GE309.out) | exact HB.out)) hb); clear BK304; clear BK309; clear HB; have BK304 := n0_; have BK309 := n1_; have HB := n2_; clear n0_ n1_ n2_; (try clear hb); (try clear hb2); (try clear hk); (try clear hi)))
          (try simp only [Act.put, List.setIfInBounds_toArray, List.set_cons_zero, List.set_cons_succ])
          go_cut [73] (fun v73 wc => ∃ (kq : Nat) (x73_33 : Bool), v73 = .bool x73_33 ∧ Aside0 (outlawlaw25_ScriptWrong.j2 kq t307 t308 t311 x73_33 a0_0 a0_1 l0_2 = some r) ∧ Aside0 (kq ≤ kj27) ∧ Aside0 (wc.heap[gb304]? = some (.cells #[.string a0_0, .int .i64 a0_1, (.slice A0_2 l0_2.length c0_2)] 24 (0, 0))) ∧ Aside0 (wc.heap[gb309]? = some (.cells #[.string a0_0, .int .i64 a0_1, (.slice none 0 0)] 24 (0, 0))) ∧ Aside0 (Below w.heap.size w wc))
          case first =>
           have H := HC34.out
           clear HC34
           by_cases c40 : t311 = 0
           ·rw [if_pos c40] at H
            have c40b0 : (t311 == 0) = true := beq_iff_eq.mpr c40
            have c40b1 : (t311 != 0) = false := bne_eq_false_iff_eq.mpr c40
            clear c40
            (first | rw [c40b0] | (simp only [i64_w, i32_w]; rw [c40b0]) | skip)
            have H' := Aside0.mk H
            clear H
            have hnb41 := NB304_309.out
            have hnc41 := NB309_304.out
            have hcz42_0 : w39.cell? ⟨gb304, 0, none⟩ = some (.string a0_0) := (blk_cell BK304.out 0).trans rfl
            have hcz42_1 : w39.cell? ⟨gb304, 1, none⟩ = some (.int .i64 a0_1) := (blk_cell BK304.out 1).trans rfl
            have hcz42_2 : w39.cell? ⟨gb304, 2, none⟩ = some (.slice A0_2 l0_2.length c0_2) := (blk_cell BK304.out 2).trans rfl
            have hfz42_0 := blk_frozen BK304.out 0
            have hfz42_1 := blk_frozen BK304.out 1
            have hfz42_2 := blk_frozen BK304.out 2
            go_wp2
            all_goals
             go_meet
             case rel => exact ⟨_, (decide ((l0_2.length : Int) > 300)), (by first | rfl | (simp; done) | (simp [*]; done) | (simp [bneNil_, beqNil_]; done) | (simp [bneNil_, beqNil_, *]; done) | (simp_all; done)), H', ⟨by have := HJ13.out; have := HJ27.out; first | omega | exact Nat.le_refl _⟩, ⟨by (with_reducible repeat (first | refine blk_drewN ?_ _ | refine blk_drew ?_ | refine blk_alloc ?_ _)); exact BK304.out⟩, ⟨by (with_reducible repeat (first | refine blk_drewN ?_ _ | refine blk_drew ?_ | refine blk_alloc ?_ _)); exact BK309.out⟩, ⟨by repeat (first | (with_reducible first | exact HB.out | apply below_alloc | apply pw_below_drewN | apply below_drew1 | refine below_set ?_ GE304.out | refine below_set ?_ GE309.out) | exact HB.out)⟩⟩
           ·rw [if_neg c40] at H
            have c40b0 : (t311 == 0) = false := beq_eq_false_iff_ne.mpr c40
            have c40b1 : (t311 != 0) = true := bne_iff_ne.mpr c40
            (first | rw [c40b0] | (simp only [i64_w, i32_w]; rw [c40b0]) | skip)
            have H' := Aside0.mk H
            clear H
            go_wp2
            all_goals
             go_meet
             case rel => exact ⟨_, (true), (by first | rfl | (simp; done) | (simp [*]; done) | (simp [bneNil_, beqNil_]; done) | (simp [bneNil_, beqNil_, *]; done) | (simp_all; done)), H', ⟨by have := HJ13.out; have := HJ27.out; first | omega | exact Nat.le_refl _⟩, ⟨by (with_reducible repeat (first | refine blk_drewN ?_ _ | refine blk_drew ?_ | refine blk_alloc ?_ _)); exact BK304.out⟩, ⟨by (with_reducible repeat (first | refine blk_drewN ?_ _ | refine blk_drew ?_ | refine blk_alloc ?_ _)); exact BK309.out⟩, ⟨by repeat (first | (with_reducible first | exact HB.out | apply below_alloc | apply pw_below_drewN | apply below_drew1 | refine below_set ?_ GE304.out | refine below_set ?_ GE309.out) | exact HB.out)⟩⟩
          case rest =>
           clear HC34
           try clear c1
           try clear c2
           try clear p2
           try clear c3
           try clear c4
           try clear c5
           try clear c7
           try clear c7b0
           try clear c7b1
           try clear c8
           try clear c9
           try clear c10
           try clear c21
           try clear c21b0
           try clear c22
           try clear c22b0
           try clear c24
           try clear c24b0
           try clear c24b1
           try clear c27
           try clear c29
           try clear c29b0
           try clear c29b1
           try clear c29b2
           try clear c32
           try clear c37
           try clear c40
           try clear c40b0
           try clear c40b1
           try clear c41
           try clear hcz10_0
           try clear hcz10_1
           try clear hcz10_2
           try clear hcz12_0
           try clear hcz12_1
           try clear hcz12_2
           try clear hcz17_0
           try clear hcz17_1
           try clear hcz17_2
           try clear hcz19_0
           try clear hcz19_1
           try clear hcz19_2
           try clear hcz23_0
           try clear hcz23_1
           try clear hcz23_2
           try clear hcz25_0
           try clear hcz25_1
           try clear hcz25_2
           try clear hcz26_0
           try clear hcz26_1
           try clear hcz26_2
           try clear hcz30_0
           try clear hcz30_1
           try clear hcz30_2
           try clear hcz31_0
           try clear hcz31_1
           try clear hcz31_2
           try clear hcz35_0
           try clear hcz35_1
           try clear hcz35_2
           try clear hcz38_0
           try clear hcz38_1
           try clear hcz38_2
           try clear hcz42_0
           try clear hcz42_1
           try clear hcz42_2
           try clear hfz10_0
           try clear hfz10_1
           try clear hfz10_2
           try clear hfz12_0
           try clear hfz12_1
           try clear hfz12_2
           try clear hfz17_0
           try clear hfz17_1
           try clear hfz17_2
           try clear hfz19_0
           try clear hfz19_1
           try clear hfz19_2
           try clear hfz23_0
           try clear hfz23_1
           try clear hfz23_2
           try clear hfz25_0
           try clear hfz25_1
           try clear hfz25_2
           try clear hfz26_0
           try clear hfz26_1
           try clear hfz26_2
           try clear hfz30_0
           try clear hfz30_1
           try clear hfz30_2
           try clear hfz31_0
           try clear hfz31_1
           try clear hfz31_2
           try clear hfz35_0
           try clear hfz35_1
           try clear hfz35_2
           try clear hfz38_0
           try clear hfz38_1
           try clear hfz38_2
           try clear hfz42_0
           try clear hfz42_1
           try clear hfz42_2
           try clear p2
           obtain ⟨kq, x73_33, rfl, HA, HJ33, BK304, BK309, HB⟩ := hcut
           cases kq with
           | zero => exact absurd HA.out (by simp [outlawlaw25_ScriptWrong.j2])
           | succ kj33 =>
            have H := HA.out
            clear HA
            simp only [outlawlaw25_ScriptWrong.j2] at H
            by_cases c43 : x73_33 = true
            ·subst c43
             have H1 : (if t307 = 0 then (if t311 = 0 then (if t308 = 4 then (some true) else (some (t311 == t308))) else (some (t311 == t308))) else (some false)) = some r := by rw [if_pos rfl] at H; exact H
             clear H
             have H := H1
             clear H1
             by_cases c44 : t307 = 0
             ·rw [if_pos c44] at H
              have c44b0 : (t307 == 0) = true := beq_iff_eq.mpr c44
              have c44b1 : (t307 != 0) = false := bne_eq_false_iff_eq.mpr c44
              clear c44
              by_cases c45 : t311 = 0
              ·rw [if_pos c45] at H
               have c45b0 : (t311 == 0) = true := beq_iff_eq.mpr c45
               have c45b1 : (t311 != 0) = false := bne_eq_false_iff_eq.mpr c45
               clear c45
               by_cases c46 : t308 = 4
               ·rw [if_pos c46] at H
                have c46b0 : (t308 == 4) = true := beq_iff_eq.mpr c46
                have c46b1 : (t308 != 4) = false := bne_eq_false_iff_eq.mpr c46
                clear c46
                obtain rfl := Option.some.inj H
                go_wp2
                go_ret
                exact ⟨by first | rfl | (simp [errW_none, errW_some] <;> rfl) | (simp [*, errW_none, errW_some] <;> rfl), by repeat (first | (with_reducible first | exact HB.out | apply below_alloc | apply pw_below_drewN | apply below_drew1 | refine below_set ?_ GE304.out | refine below_set ?_ GE309.out) | exact HB.out)⟩
               ·rw [if_neg c46] at H
                have c46b0 : (t308 == 4) = false := beq_eq_false_iff_ne.mpr c46
                have c46b1 : (t308 != 4) = true := bne_iff_ne.mpr c46
                obtain rfl := Option.some.inj H
                go_wp2
                go_ret
                exact ⟨by first | rfl | (simp [errW_none, errW_some] <;> rfl) | (simp [*, errW_none, errW_some] <;> rfl), by repeat (first | (with_reducible first | exact HB.out | apply below_alloc | apply pw_below_drewN | apply below_drew1 | refine below_set ?_ GE304.out | refine below_set ?_ GE309.out) | exact HB.out)⟩
              ·rw [if_neg c45] at H
               have c45b0 : (t311 == 0) = false := beq_eq_false_iff_ne.mpr c45
               have c45b1 : (t311 != 0) = true := bne_iff_ne.mpr c45
               obtain rfl := Option.some.inj H
               go_wp2
               go_ret
               exact ⟨by first | rfl | (simp [errW_none, errW_some] <;> rfl) | (simp [*, errW_none, errW_some] <;> rfl), by repeat (first | (with_reducible first | exact HB.out | apply below_alloc | apply pw_below_drewN | apply below_drew1 | refine below_set ?_ GE304.out | refine below_set ?_ GE309.out) | exact HB.out)⟩
             ·rw [if_neg c44] at H
              have c44b0 : (t307 == 0) = false := beq_eq_false_iff_ne.mpr c44
              have c44b1 : (t307 != 0) = true := bne_iff_ne.mpr c44
              exact absurd ((Option.some.inj H).trans hr_.out) (by decide)
            ·replace c43 := Bool.eq_false_iff.mpr c43
             subst c43
             have H1 : (if (l0_2.length : Int) = 0 then (some false) else ((outlawlaw25_own.f kj33 a0_0 a0_1 l0_2).bind fun bt312 => (if 0 ≤ t307 then (if t307 ≤ (bt312.2.2.length : Int) then ((script_Check.f kj33 bt312.1 bt312.2.1 (bt312.2.2.take (t307 : Int).toNat)).bind fun bt321 => ((outlawlaw25_own.f kj33 a0_0 a0_1 l0_2).bind fun bt323 => (if t307 ≤ (wrap64 (t307 + 1)) then (if (wrap64 (t307 + 1)) ≤ (bt323.2.2.length : Int) then ((script_Check.f kj33 bt323.1 bt323.2.1 ((bt323.2.2.take ((wrap64 (t307 + 1)) : Int).toNat).drop (t307 : Int).toNat)).bind fun bt334 => (if bt321.2 = 0 then (if bt334.1 = 0 then (some (bt334.2 == t308)) else (some false)) else (some false))) else (none)) else (none)))) else (none)) else (none)))) = some r := by rw [if_neg (show ¬ (false = true) by decide)] at H; exact H
             clear H
             have H := H1
             clear H1
             by_cases c47 : (l0_2.length : Int) = 0
             ·rw [if_pos c47] at H
              have c47b0 : ((l0_2.length : Int) == 0) = true := beq_iff_eq.mpr c47
              have c47b1 : ((l0_2.length : Int) != 0) = false := bne_eq_false_iff_eq.mpr c47
              clear c47
              exact absurd ((Option.some.inj H).trans hr_.out) (by decide)
             ·rw [if_neg c47] at H
              have c47b0 : ((l0_2.length : Int) == 0) = false := beq_eq_false_iff_ne.mpr c47
              have c47b1 : ((l0_2.length : Int) != 0) = true := bne_iff_ne.mpr c47
              have c47b2 : ¬ (l0_2 = []) := fun h_ => c47 (by rw [h_]; rfl)
              replace H := Option.bind_eq_some_iff.mp H
              obtain ⟨⟨t312, t313, t314⟩, A480, H⟩ := H
              replace H : (if 0 ≤ t307 then (if t307 ≤ (t314.length : Int) then ((script_Check.f kj33 t312 t313 (t314.take (t307 : Int).toNat)).bind fun bt321 => ((outlawlaw25_own.f kj33 a0_0 a0_1 l0_2).bind fun bt323 => (if t307 ≤ (wrap64 (t307 + 1)) then (if (wrap64 (t307 + 1)) ≤ (bt323.2.2.length : Int) then ((script_Check.f kj33 bt323.1 bt323.2.1 ((bt323.2.2.take ((wrap64 (t307 + 1)) : Int).toNat).drop (t307 : Int).toNat)).bind fun bt334 => (if bt321.2 = 0 then (if bt334.1 = 0 then (some (bt334.2 == t308)) else (some false)) else (some false))) else (none)) else (none)))) else (none)) else (none)) = some r := H
              have A48 := Aside0.mk A480
              clear A480
              by_cases c49 : 0 ≤ t307
              ·rw [if_pos c49] at H
               have c49b0 := eq_true c49
               have c49b1 : decide (0 ≤ t307) = true := decide_eq_true c49
               clear c49
               by_cases c50 : t307 ≤ (t314.length : Int)
               ·rw [if_pos c50] at H
                have c50b0 := eq_true c50
                have c50b1 : decide (t307 ≤ (t314.length : Int)) = true := decide_eq_true c50
                clear c50
                obtain ⟨y318, hy318⟩ : ∃ y_ : List (S45), y_ = (t314.take (t307 : Int).toNat) := ⟨_, rfl⟩
                replace H : ((script_Check.f kj33 t312 t313 y318).bind fun bt321 => ((outlawlaw25_own.f kj33 a0_0 a0_1 l0_2).bind fun bt323 => (if t307 ≤ (wrap64 (t307 + 1)) then (if (wrap64 (t307 + 1)) ≤ (bt323.2.2.length : Int) then ((script_Check.f kj33 bt323.1 bt323.2.1 ((bt323.2.2.take ((wrap64 (t307 + 1)) : Int).toNat).drop (t307 : Int).toNat)).bind fun bt334 => (if bt321.2 = 0 then (if bt334.1 = 0 then (some (bt334.2 == t308)) else (some false)) else (some false))) else (none)) else (none)))) = some r := by first | (rw [hy318]; with_reducible exact H) | (have H2_ := (Option.bind_some _ _).symm.trans H; rw [hy318]; with_reducible exact H2_) | (have H2_ := (Option.bind_some _ _).symm.trans H; with_reducible exact H2_) | with_reducible exact H | (rw [hy318]; exact H) | exact H
                have Ny318 := Aside0.mk hy318
                clear hy318
                replace H := Option.bind_eq_some_iff.mp H
                obtain ⟨⟨t321, t322⟩, A510, H⟩ := H
                replace H : ((outlawlaw25_own.f kj33 a0_0 a0_1 l0_2).bind fun bt323 => (if t307 ≤ (wrap64 (t307 + 1)) then (if (wrap64 (t307 + 1)) ≤ (bt323.2.2.length : Int) then ((script_Check.f kj33 bt323.1 bt323.2.1 ((bt323.2.2.take ((wrap64 (t307 + 1)) : Int).toNat).drop (t307 : Int).toNat)).bind fun bt334 => (if t322 = 0 then (if bt334.1 = 0 then (some (bt334.2 == t308)) else (some false)) else (some false))) else (none)) else (none))) = some r := H
                have A51 := Aside0.mk A510
                clear A510
                replace H := Option.bind_eq_some_iff.mp H
                obtain ⟨⟨t323, t324, t325⟩, A520, H⟩ := H
                replace H : (if t307 ≤ (wrap64 (t307 + 1)) then (if (wrap64 (t307 + 1)) ≤ (t325.length : Int) then ((script_Check.f kj33 t323 t324 ((t325.take ((wrap64 (t307 + 1)) : Int).toNat).drop (t307 : Int).toNat)).bind fun bt334 => (if t322 = 0 then (if bt334.1 = 0 then (some (bt334.2 == t308)) else (some false)) else (some false))) else (none)) else (none)) = some r := H
                have A52 := Aside0.mk A520
                clear A520
                have c53b0 := eq_true (of_decide_eq_true (by first | (with_reducible assumption) | assumption) : 0 ≤ t307)
                by_cases c54 : t307 ≤ (wrap64 (t307 + 1))
                ·rw [if_pos c54] at H
                 have c54b0 := eq_true c54
                 have c54b1 : decide (t307 ≤ (wrap64 (t307 + 1))) = true := decide_eq_true c54
                 by_cases c55 : (wrap64 (t307 + 1)) ≤ (t325.length : Int)
                 ·rw [if_pos c55] at H
                  have c55b0 := eq_true c55
                  have c55b1 : decide ((wrap64 (t307 + 1)) ≤ (t325.length : Int)) = true := decide_eq_true c55
                  obtain ⟨y329, hy329⟩ : ∃ y_ : List (S45), y_ = ((t325.take ((wrap64 (t307 + 1)) : Int).toNat).drop (t307 : Int).toNat) := ⟨_, rfl⟩
                  replace H : ((script_Check.f kj33 t323 t324 y329).bind fun bt334 => (if t322 = 0 then (if bt334.1 = 0 then (some (bt334.2 == t308)) else (some false)) else (some false))) = some r := by first | (rw [hy329]; with_reducible exact H) | (have H2_ := (Option.bind_some _ _).symm.trans H; rw [hy329]; with_reducible exact H2_) | (have H2_ := (Option.bind_some _ _).symm.trans H; with_reducible exact H2_) | with_reducible exact H | (rw [hy329]; exact H) | exact H
                  have Ny329 := Aside0.mk hy329
                  clear hy329
                  replace H := Option.bind_eq_some_iff.mp H
                  obtain ⟨⟨t334, t335⟩, A560, H⟩ := H
                  replace H : (if t322 = 0 then (if t334 = 0 then (some (t335 == t308)) else (some false)) else (some false)) = some r := H
                  have A56 := Aside0.mk A560
                  clear A560
                  by_cases c57 : t322 = 0
                  ·rw [if_pos c57] at H
                   have c57b0 : (t322 == 0) = true := beq_iff_eq.mpr c57
                   have c57b1 : (t322 != 0) = false := bne_eq_false_iff_eq.mpr c57
                   clear c57
                   by_cases c58 : t334 = 0
                   ·rw [if_pos c58] at H
                    have c58b0 : (t334 == 0) = true := beq_iff_eq.mpr c58
                    have c58b1 : (t334 != 0) = false := bne_eq_false_iff_eq.mpr c58
                    clear c58
                    obtain rfl := Option.some.inj H
                    have hnb59 := NB304_309.out
                    have hnc59 := NB309_304.out
                    have hcz60_0 : wc.cell? ⟨gb304, 0, none⟩ = some (.string a0_0) := (blk_cell BK304.out 0).trans rfl
                    have hcz60_1 : wc.cell? ⟨gb304, 1, none⟩ = some (.int .i64 a0_1) := (blk_cell BK304.out 1).trans rfl
                    have hcz60_2 : wc.cell? ⟨gb304, 2, none⟩ = some (.slice A0_2 l0_2.length c0_2) := (blk_cell BK304.out 2).trans rfl
                    have hfz60_0 := blk_frozen BK304.out 0
                    have hfz60_1 := blk_frozen BK304.out 1
                    have hfz60_2 := blk_frozen BK304.out 2
                    go_wp2_with (first | ((with_reducible refine gate_callee (f := 15) rfl ?_); refine goesL_ (some 94) rfl rfl Try.func15 (by kernel_rfl) rfl #[.agg #[.string a0_0, .int .i64 a0_1, .slice A0_2 l0_2.length c0_2]] rfl (by (try simp only [List.map_toArray, List.map_cons, List.map_nil]); first | done | rfl | (simp only [List.length_drop, List.length_take]; rfl)) ?_; (with_reducible refine (outlawlaw25_own.calls kj33 a0_0 a0_1 (fun k_ => k_ < w.heap.size) _ _ l0_2 t312 t313 t314 _ ?side1 A48.out).mono ?_); (case side1 => exact Kd.V_mk HC0_2.out (Kd.F_below (Kd.C_F k45_heap HR0_2.out) (by repeat (first | (with_reducible first | exact HB.out | apply below_alloc | apply pw_below_drewN | apply below_drew1 | refine below_set ?_ GE304.out | refine below_set ?_ GE309.out) | exact HB.out)))); rintro e w61 ⟨v315, rfl, ho0, hb⟩; refine ⟨_, rfl, ?_⟩; have n0_ := Aside0.mk (Kd.N_lower (Kd.N_mono (ok' := fun k_ => k_ ≠ gb304 ∧ k_ ≠ gb309) ho0 (fun k_ hk_ => ⟨Or.elim hk_ (fun hs_ => fun e_ => Nat.not_le.2 hs_ (by rw [e_]; exact GW304.out)) (fun hn_ => (Kd.freshB (g := gb304) (o := .cells #[.string a0_0, .int .i64 a0_1, .slice A0_2 l0_2.length c0_2] 24 (0, 0)) (by (with_reducible repeat (first | refine blk_drewN ?_ _ | refine blk_drew ?_ | refine blk_alloc ?_ _)); exact BK304.out) k_ hn_)), Or.elim hk_ (fun hs_ => fun e_ => Nat.not_le.2 hs_ (by rw [e_]; exact GW309.out)) (fun hn_ => (Kd.freshB (g := gb309) (o := .cells #[.string a0_0, .int .i64 a0_1, .slice none 0 0] 24 (0, 0)) (by (with_reducible repeat (first | refine blk_drewN ?_ _ | refine blk_drew ?_ | refine blk_alloc ?_ _)); exact BK309.out) k_ hn_))⟩)) (below_size (by repeat (first | (with_reducible first | exact HB.out | apply below_alloc | apply pw_below_drewN | apply below_drew1 | refine below_set ?_ GE304.out | refine below_set ?_ GE309.out) | exact HB.out)))); have n1_ := Aside0.mk (blk_below (g := gb304) (o := .cells #[.string a0_0, .int .i64 a0_1, .slice A0_2 l0_2.length c0_2] 24 (0, 0)) (by (with_reducible repeat (first | refine blk_drewN ?_ _ | refine blk_drew ?_ | refine blk_alloc ?_ _)); exact BK304.out) hb); have n2_ := Aside0.mk (blk_below (g := gb309) (o := .cells #[.string a0_0, .int .i64 a0_1, .slice none 0 0] 24 (0, 0)) (by (with_reducible repeat (first | refine blk_drewN ?_ _ | refine blk_drew ?_ | refine blk_alloc ?_ _)); exact BK309.out) hb); have n3_ := Aside0.mk (below_step (by repeat (first | (with_reducible first | exact HB.out | apply below_alloc | apply pw_below_drewN | apply below_drew1 | refine below_set ?_ GE304.out | refine below_set ?_ GE309.out) | exact HB.out)) hb); clear BK304; clear BK309; clear HB; have HO316 := n0_; have BK304 := n1_; have BK309 := n2_; have HB := n3_; clear n0_ n1_ n2_ n3_; (try clear hb); (try clear hb2); (try clear hk); (try clear hi); (try clear ho0)) | ((with_reducible refine gate_dst (N := 8) rfl ?_); (try (refine gate_guard (by rfl) ?_; dsimp only)); refine box_event ?hg (N := 8) ?hd (cs := #[.string (⟨#[]⟩ : ByteArray), .int .i64 0, .slice none 0 0]) (t := 24) ?hr ?_; (case hd => rfl); (case hg => rfl); (case hr => first | (go_simp; done) | (go_simp; rfl)); intro gb317 hg w62 hbox hb; have n0_ := Aside0.mk (Kd.N_below (Kd.N_elderB (by (with_reducible repeat (first | apply Kd.N_alloc | apply Kd.N_drewN | apply Kd.N_drew)); exact HO316.out) gb317 (Nat.le_of_eq hg.symm)) hb); have n1_ := Aside0.mk (blk_below (g := gb304) (o := .cells #[.string a0_0, .int .i64 a0_1, .slice A0_2 l0_2.length c0_2] 24 (0, 0)) (by (with_reducible repeat (first | refine blk_drewN ?_ _ | refine blk_drew ?_ | refine blk_alloc ?_ _)); exact BK304.out) hb); have n2_ := Aside0.mk (blk_below (g := gb309) (o := .cells #[.string a0_0, .int .i64 a0_1, .slice none 0 0] 24 (0, 0)) (by (with_reducible repeat (first | refine blk_drewN ?_ _ | refine blk_drew ?_ | refine blk_alloc ?_ _)); exact BK309.out) hb); have n3_ := Aside0.mk (below_step (by repeat (first | (with_reducible first | exact HB.out | apply below_alloc | apply pw_below_drewN | apply below_drew1 | refine below_set ?_ GE304.out | refine below_set ?_ GE309.out) | exact HB.out)) hb); have n4_ := Aside0.mk (hbox); have n5_ := Aside0.mk ((by rw [hg]; exact (below_size (by repeat (first | (with_reducible first | exact HB.out | apply below_alloc | apply pw_below_drewN | apply below_drew1 | refine below_set ?_ GE304.out | refine below_set ?_ GE309.out) | exact HB.out))) : w.heap.size ≤ gb317)); have n6_ := Aside0.mk ((by rw [hg]; exact (below_size (by repeat (first | (with_reducible first | exact HB.out | apply below_alloc | apply pw_below_drewN | apply below_drew1 | refine below_set ?_ GE304.out | refine below_set ?_ GE309.out) | exact HB.out))) : w.heap.size ≤ gb317)); have n7_ := Aside0.mk ((by rw [hg]; exact Nat.ne_of_lt (blk_lt (g := gb304) (o := .cells #[.string a0_0, .int .i64 a0_1, .slice A0_2 l0_2.length c0_2] 24 (0, 0)) (by (with_reducible repeat (first | refine blk_drewN ?_ _ | refine blk_drew ?_ | refine blk_alloc ?_ _)); exact BK304.out)) : gb304 ≠ gb317)); have n8_ := Aside0.mk ((by rw [hg]; exact Nat.ne_of_gt (blk_lt (g := gb304) (o := .cells #[.string a0_0, .int .i64 a0_1, .slice A0_2 l0_2.length c0_2] 24 (0, 0)) (by (with_reducible repeat (first | refine blk_drewN ?_ _ | refine blk_drew ?_ | refine blk_alloc ?_ _)); exact BK304.out)) : gb317 ≠ gb304)); have n9_ := Aside0.mk ((by rw [hg]; exact Nat.ne_of_lt (blk_lt (g := gb309) (o := .cells #[.string a0_0, .int .i64 a0_1, .slice none 0 0] 24 (0, 0)) (by (with_reducible repeat (first | refine blk_drewN ?_ _ | refine blk_drew ?_ | refine blk_alloc ?_ _)); exact BK309.out)) : gb309 ≠ gb317)); have n10_ := Aside0.mk ((by rw [hg]; exact Nat.ne_of_gt (blk_lt (g := gb309) (o := .cells #[.string a0_0, .int .i64 a0_1, .slice none 0 0] 24 (0, 0)) (by (with_reducible repeat (first | refine blk_drewN ?_ _ | refine blk_drew ?_ | refine blk_alloc ?_ _)); exact BK309.out)) : gb317 ≠ gb309)); clear HO316; clear BK304; clear BK309; clear HB; have HO316 := n0_; have BK304 := n1_; have BK309 := n2_; have HB := n3_; have BK317 := n4_; have GW317 := n5_; have GE317 := n6_; have NB304_317 := n7_; have NB317_304 := n8_; have NB309_317 := n9_; have NB317_309 := n10_; clear n0_ n1_ n2_ n3_ n4_ n5_ n6_ n7_ n8_ n9_ n10_; clear hb hbox hg; have hnb63 := NB317_304.out; have hnc63 := NB304_317.out; have hnb64 := NB317_309.out; have hnc64 := NB309_317.out; have hcz65_0 : w62.cell? ⟨gb317, 0, none⟩ = some (.string (⟨#[]⟩ : ByteArray)) := (blk_cell BK317.out 0).trans rfl; have hcz65_1 : w62.cell? ⟨gb317, 1, none⟩ = some (.int .i64 0) := (blk_cell BK317.out 1).trans rfl; have hcz65_2 : w62.cell? ⟨gb317, 2, none⟩ = some (.slice none 0 0) := (blk_cell BK317.out 2).trans rfl; have hfz65_0 := blk_frozen BK317.out 0; have hfz65_1 := blk_frozen BK317.out 1; have hfz65_2 := blk_frozen BK317.out 2; obtain ⟨Ao66, co66, eo66⟩ := Kd.N_slice HO316.out; subst eo66) | ((with_reducible refine gate_store (t := 24) (p := 8) rfl ?_); refine store_event (t := 24) (p := 8) (v := ?vo_w67) (w1 := (((w62.setCell ⟨gb317, 0, none⟩ (.string t312)).setCell ⟨gb317, 1, none⟩ (.int .i64 t313)).setCell ⟨gb317, 2, none⟩ (.slice Ao66 t314.length co66))) ?hg ?ho ?hn ?hr ?_; (case ho => rfl); (case hg => rfl); (case hn => rfl); (case hr => first | (go_simp; done) | (go_simp; rfl)); intro w67 hw; have n0_ : Aside0 (Kd.N k45 45 w67 w.heap.size (fun k_ => k_ ≠ gb304 ∧ k_ ≠ gb309 ∧ k_ ≠ gb317) (.slice Ao66 t314.length co66) t314) := ⟨(by rw [hw]; exact (by (with_reducible repeat (first | apply Kd.N_alloc | apply Kd.N_drewN | apply Kd.N_drew)); exact Kd.N_mono (Kd.N_far (p := ⟨gb317, 2, none⟩) (Kd.N_far (p := ⟨gb317, 1, none⟩) (Kd.N_far (p := ⟨gb317, 0, none⟩) (Kd.N_mono HO316.out (fun k_ hk => (⟨hk, hk.2⟩ : _ ∧ k_ ≠ gb317))) (fun _ hk => hk.2) (.string t312)) (fun _ hk => hk.2) (.int .i64 t313)) (fun _ hk => hk.2) (.slice Ao66 t314.length co66)) (fun _ hk => ⟨hk.1.1.1, ⟨hk.1.1.2, hk.1.2⟩⟩)))⟩; have n1_ : Aside0 (w67.heap[gb304]? = some (.cells #[.string a0_0, .int .i64 a0_1, .slice A0_2 l0_2.length c0_2] 24 (0, 0))) := ⟨(by rw [hw]; exact (by (with_reducible repeat (first | refine blk_drewN ?_ _ | refine blk_drew ?_ | refine blk_alloc ?_ _)); refine blk_far ?_ NB304_317.out _; (with_reducible repeat (first | refine blk_drewN ?_ _ | refine blk_drew ?_ | refine blk_alloc ?_ _)); refine blk_far ?_ NB304_317.out _; (with_reducible repeat (first | refine blk_drewN ?_ _ | refine blk_drew ?_ | refine blk_alloc ?_ _)); refine blk_far ?_ NB304_317.out _; (with_reducible repeat (first | refine blk_drewN ?_ _ | refine blk_drew ?_ | refine blk_alloc ?_ _)); exact BK304.out))⟩; have n2_ : Aside0 (w67.heap[gb309]? = some (.cells #[.string a0_0, .int .i64 a0_1, .slice none 0 0] 24 (0, 0))) := ⟨(by rw [hw]; exact (by (with_reducible repeat (first | refine blk_drewN ?_ _ | refine blk_drew ?_ | refine blk_alloc ?_ _)); refine blk_far ?_ NB309_317.out _; (with_reducible repeat (first | refine blk_drewN ?_ _ | refine blk_drew ?_ | refine blk_alloc ?_ _)); refine blk_far ?_ NB309_317.out _; (with_reducible repeat (first | refine blk_drewN ?_ _ | refine blk_drew ?_ | refine blk_alloc ?_ _)); refine blk_far ?_ NB309_317.out _; (with_reducible repeat (first | refine blk_drewN ?_ _ | refine blk_drew ?_ | refine blk_alloc ?_ _)); exact BK309.out))⟩; have n3_ : Aside0 (w67.heap[gb317]? = some (.cells #[.string t312, .int .i64 t313, .slice Ao66 t314.length co66] 24 (0, 0))) := ⟨(by rw [hw]; exact (by (with_reducible repeat (first | refine blk_drewN ?_ _ | refine blk_drew ?_ | refine blk_alloc ?_ _)); refine blk_put (cs := #[.string t312, .int .i64 t313, .slice none 0 0]) ?_ 2 _ rfl; (with_reducible repeat (first | refine blk_drewN ?_ _ | refine blk_drew ?_ | refine blk_alloc ?_ _)); refine blk_put (cs := #[.string t312, .int .i64 0, .slice none 0 0]) ?_ 1 _ rfl; (with_reducible repeat (first | refine blk_drewN ?_ _ | refine blk_drew ?_ | refine blk_alloc ?_ _)); refine blk_put (cs := #[.string (⟨#[]⟩ : ByteArray), .int .i64 0, .slice none 0 0]) ?_ 0 _ rfl; (with_reducible repeat (first | refine blk_drewN ?_ _ | refine blk_drew ?_ | refine blk_alloc ?_ _)); exact BK317.out))⟩; have n4_ : Aside0 (Below w.heap.size w w67) := ⟨(by rw [hw]; exact (by repeat (first | (with_reducible first | exact HB.out | apply below_alloc | apply pw_below_drewN | apply below_drew1 | refine below_set ?_ GE304.out | refine below_set ?_ GE309.out | refine below_set ?_ GE317.out) | exact HB.out)))⟩; clear hw; clear HO316; clear BK304; clear BK309; clear BK317; clear HB; have HO316 := n0_; have BK304 := n1_; have BK309 := n2_; have BK317 := n3_; have HB := n4_; clear n0_ n1_ n2_ n3_ n4_; have hcz68_0 : w67.cell? ⟨gb317, 0, none⟩ = some (.string t312) := (blk_cell BK317.out 0).trans rfl; have hcz68_1 : w67.cell? ⟨gb317, 1, none⟩ = some (.int .i64 t313) := (blk_cell BK317.out 1).trans rfl; have hcz68_2 : w67.cell? ⟨gb317, 2, none⟩ = some (.slice Ao66 t314.length co66) := (blk_cell BK317.out 2).trans rfl; have hfz68_0 := blk_frozen BK317.out 0; have hfz68_1 := blk_frozen BK317.out 1; have hfz68_2 := blk_frozen BK317.out 2; have q69 : (t307 : Int) ≤ ((t314.length : Int) : Int) := of_decide_eq_true (by first | (with_reducible assumption) | assumption); obtain ⟨i069, hi069, _, hsz69, _⟩ := info_parts info45; have hcut69 := cut_to (P := Try.prog) 22 45 .i64 Try.underlying22 hi069 Ao66 t314.length co66 t307 (of_decide_eq_true (by first | (with_reducible assumption) | assumption)) q69 (Kd.N_reads' HO316.out).2.1; have hr69 := Kd.N_take (m := (t307 : Int).toNat) HO316.out (by omega); have hy69 : y318.length = (t307 : Int).toNat := (by rw [Ny318.out, List.length_take]; omega); rw [← Ny318.out] at hr69; rw [← hy69] at hr69 hcut69; clear hy69 hi069 hsz69 HO316; have HO320 := Aside0.mk hr69; clear hr69; replace q69 := eq_true q69) | ((with_reducible refine gate_callee (f := 10) rfl ?_); refine goesL_ (some 102) rfl rfl Try.func10 (by kernel_rfl) rfl #[.agg #[.string t312, .int .i64 t313, .slice Ao66 y318.length co66]] rfl (by (try simp only [List.map_toArray, List.map_cons, List.map_nil]); first | done | rfl | (simp only [List.length_drop, List.length_take]; rfl)) ?_; (with_reducible refine (script_Check.calls kj33 t312 t313 _ _ y318 t321 t322 _ ?side1 ?side2 A51.out).mono ?_); (case side1 => refine (Kd.N_reads' (e := 45) (base := w.heap.size) (ok := fun k_ => (k_ ≠ gb304 ∧ (k_ ≠ gb309 ∧ k_ ≠ gb317))) (n := y318.length) (c := co66) ?_).2.2; exact (by (with_reducible repeat (first | apply Kd.N_alloc | apply Kd.N_drewN | apply Kd.N_drew)); exact (Kd.N_mono (Kd.N_far (p := ⟨gb317, 2, none⟩) (Kd.N_mono HO320.out (fun k_ hk => (⟨hk, hk.2.2⟩ : _ ∧ k_ ≠ gb317))) (fun _ hk => hk.2) (.slice Ao66 y318.length co66)) (fun _ h_ => h_.1)))); (case side2 => exact (Kd.N_reads' HO320.out).2.1); rintro e w70 ⟨rfl, hb⟩; refine ⟨_, rfl, ?_⟩; have n0_ := Aside0.mk (Kd.N_below (by (with_reducible repeat (first | apply Kd.N_alloc | apply Kd.N_drewN | apply Kd.N_drew)); exact (Kd.N_mono (Kd.N_far (p := ⟨gb317, 2, none⟩) (Kd.N_mono HO320.out (fun k_ hk => (⟨hk, hk.2.2⟩ : _ ∧ k_ ≠ gb317))) (fun _ hk => hk.2) (.slice Ao66 y318.length co66)) (fun _ h_ => h_.1))) hb); have n1_ := Aside0.mk (blk_below (g := gb304) (o := .cells #[.string a0_0, .int .i64 a0_1, .slice A0_2 l0_2.length c0_2] 24 (0, 0)) (by (with_reducible repeat (first | refine blk_drewN ?_ _ | refine blk_drew ?_ | refine blk_alloc ?_ _)); refine blk_far ?_ NB304_317.out _; (with_reducible repeat (first | refine blk_drewN ?_ _ | refine blk_drew ?_ | refine blk_alloc ?_ _)); exact BK304.out) hb); have n2_ := Aside0.mk (blk_below (g := gb309) (o := .cells #[.string a0_0, .int .i64 a0_1, .slice none 0 0] 24 (0, 0)) (by (with_reducible repeat (first | refine blk_drewN ?_ _ | refine blk_drew ?_ | refine blk_alloc ?_ _)); refine blk_far ?_ NB309_317.out _; (with_reducible repeat (first | refine blk_drewN ?_ _ | refine blk_drew ?_ | refine blk_alloc ?_ _)); exact BK309.out) hb); have n3_ := Aside0.mk (blk_below (g := gb317) (o := .cells #[.string t312, .int .i64 t313, .slice Ao66 y318.length co66] 24 (0, 0)) (by (with_reducible repeat (first | refine blk_drewN ?_ _ | refine blk_drew ?_ | refine blk_alloc ?_ _)); refine blk_put (cs := #[.string t312, .int .i64 t313, .slice Ao66 t314.length co66]) ?_ 2 _ rfl; (with_reducible repeat (first | refine blk_drewN ?_ _ | refine blk_drew ?_ | refine blk_alloc ?_ _)); exact BK317.out) hb); have n4_ := Aside0.mk (below_step (by repeat (first | (with_reducible first | exact HB.out | apply below_alloc | apply pw_below_drewN | apply below_drew1 | refine below_set ?_ GE304.out | refine below_set ?_ GE309.out | refine below_set ?_ GE317.out) | exact HB.out)) hb); clear HO320; clear BK304; clear BK309; clear BK317; clear HB; have HO320 := n0_; have BK304 := n1_; have BK309 := n2_; have BK317 := n3_; have HB := n4_; clear n0_ n1_ n2_ n3_ n4_; (try clear hb); (try clear hb2); (try clear hk); (try clear hi); have hcz71_0 : w70.cell? ⟨gb304, 0, none⟩ = some (.string a0_0) := (blk_cell BK304.out 0).trans rfl; have hcz71_1 : w70.cell? ⟨gb304, 1, none⟩ = some (.int .i64 a0_1) := (blk_cell BK304.out 1).trans rfl; have hcz71_2 : w70.cell? ⟨gb304, 2, none⟩ = some (.slice A0_2 l0_2.length c0_2) := (blk_cell BK304.out 2).trans rfl; have hfz71_0 := blk_frozen BK304.out 0; have hfz71_1 := blk_frozen BK304.out 1; have hfz71_2 := blk_frozen BK304.out 2) | ((with_reducible refine gate_callee (f := 15) rfl ?_); refine goesL_ (some 106) rfl rfl Try.func15 (by kernel_rfl) rfl #[.agg #[.string a0_0, .int .i64 a0_1, .slice A0_2 l0_2.length c0_2]] rfl (by (try simp only [List.map_toArray, List.map_cons, List.map_nil]); first | done | rfl | (simp only [List.length_drop, List.length_take]; rfl)) ?_; (with_reducible refine (outlawlaw25_own.calls kj33 a0_0 a0_1 (fun k_ => k_ < w.heap.size) _ _ l0_2 t323 t324 t325 _ ?side1 A52.out).mono ?_); (case side1 => exact Kd.V_mk HC0_2.out (Kd.F_below (Kd.C_F k45_heap HR0_2.out) (by repeat (first | (with_reducible first | exact HB.out | apply below_alloc | apply pw_below_drewN | apply below_drew1 | refine below_set ?_ GE304.out | refine below_set ?_ GE309.out | refine below_set ?_ GE317.out) | exact HB.out)))); rintro e w72 ⟨v326, rfl, ho0, hb⟩; refine ⟨_, rfl, ?_⟩; have n0_ := Aside0.mk (Kd.N_elder' (by (with_reducible repeat (first | apply Kd.N_alloc | apply Kd.N_drewN | apply Kd.N_drew)); exact HO320.out) (Kd.N_base ho0) hb); have n1_ := Aside0.mk (Kd.N_lower (Kd.N_mono (ok' := fun k_ => some k_ ≠ (.slice Ao66 y318.length co66 : Value).ownBlock ∧ k_ ≠ gb304 ∧ k_ ≠ gb309 ∧ k_ ≠ gb317) ho0 (fun k_ hk_ => ⟨Or.elim hk_ (fun hs_ => fun e_ => Nat.not_le.2 hs_ (Kd.N_base HO320.out k_ e_.symm)) (fun hn_ => (Kd.fresh' (Kd.N_lt (by (with_reducible repeat (first | apply Kd.N_alloc | apply Kd.N_drewN | apply Kd.N_drew)); exact HO320.out)) k_ hn_)), Or.elim hk_ (fun hs_ => fun e_ => Nat.not_le.2 hs_ (by rw [e_]; exact GW304.out)) (fun hn_ => (Kd.freshB (g := gb304) (o := .cells #[.string a0_0, .int .i64 a0_1, .slice A0_2 l0_2.length c0_2] 24 (0, 0)) (by (with_reducible repeat (first | refine blk_drewN ?_ _ | refine blk_drew ?_ | refine blk_alloc ?_ _)); exact BK304.out) k_ hn_)), Or.elim hk_ (fun hs_ => fun e_ => Nat.not_le.2 hs_ (by rw [e_]; exact GW309.out)) (fun hn_ => (Kd.freshB (g := gb309) (o := .cells #[.string a0_0, .int .i64 a0_1, .slice none 0 0] 24 (0, 0)) (by (with_reducible repeat (first | refine blk_drewN ?_ _ | refine blk_drew ?_ | refine blk_alloc ?_ _)); exact BK309.out) k_ hn_)), Or.elim hk_ (fun hs_ => fun e_ => Nat.not_le.2 hs_ (by rw [e_]; exact GW317.out)) (fun hn_ => (Kd.freshB (g := gb317) (o := .cells #[.string t312, .int .i64 t313, .slice Ao66 y318.length co66] 24 (0, 0)) (by (with_reducible repeat (first | refine blk_drewN ?_ _ | refine blk_drew ?_ | refine blk_alloc ?_ _)); exact BK317.out) k_ hn_))⟩)) (below_size (by repeat (first | (with_reducible first | exact HB.out | apply below_alloc | apply pw_below_drewN | apply below_drew1 | refine below_set ?_ GE304.out | refine below_set ?_ GE309.out | refine below_set ?_ GE317.out) | exact HB.out)))); have n2_ := Aside0.mk (blk_below (g := gb304) (o := .cells #[.string a0_0, .int .i64 a0_1, .slice A0_2 l0_2.length c0_2] 24 (0, 0)) (by (with_reducible repeat (first | refine blk_drewN ?_ _ | refine blk_drew ?_ | refine blk_alloc ?_ _)); exact BK304.out) hb); have n3_ := Aside0.mk (blk_below (g := gb309) (o := .cells #[.string a0_0, .int .i64 a0_1, .slice none 0 0] 24 (0, 0)) (by (with_reducible repeat (first | refine blk_drewN ?_ _ | refine blk_drew ?_ | refine blk_alloc ?_ _)); exact BK309.out) hb); have n4_ := Aside0.mk (blk_below (g := gb317) (o := .cells #[.string t312, .int .i64 t313, .slice Ao66 y318.length co66] 24 (0, 0)) (by (with_reducible repeat (first | refine blk_drewN ?_ _ | refine blk_drew ?_ | refine blk_alloc ?_ _)); exact BK317.out) hb); have n5_ := Aside0.mk (below_step (by repeat (first | (with_reducible first | exact HB.out | apply below_alloc | apply pw_below_drewN | apply below_drew1 | refine below_set ?_ GE304.out | refine below_set ?_ GE309.out | refine below_set ?_ GE317.out) | exact HB.out)) hb); clear HO320; clear BK304; clear BK309; clear BK317; clear HB; have HO320 := n0_; have HO327 := n1_; have BK304 := n2_; have BK309 := n3_; have BK317 := n4_; have HB := n5_; clear n0_ n1_ n2_ n3_ n4_ n5_; (try clear hb); (try clear hb2); (try clear hk); (try clear hi); (try clear ho0)) | ((with_reducible refine gate_dst (N := 11) rfl ?_); (try (refine gate_guard (by rfl) ?_; dsimp only)); refine box_event ?hg (N := 11) ?hd (cs := #[.string (⟨#[]⟩ : ByteArray), .int .i64 0, .slice none 0 0]) (t := 24) ?hr ?_; (case hd => rfl); (case hg => rfl); (case hr => first | (go_simp; done) | (go_simp; rfl)); intro gb328 hg w73 hbox hb; have n0_ := Aside0.mk (Kd.N_below (Kd.N_elderB (by (with_reducible repeat (first | apply Kd.N_alloc | apply Kd.N_drewN | apply Kd.N_drew)); exact HO320.out) gb328 (Nat.le_of_eq hg.symm)) hb); have n1_ := Aside0.mk (Kd.N_below (Kd.N_elderB (by (with_reducible repeat (first | apply Kd.N_alloc | apply Kd.N_drewN | apply Kd.N_drew)); exact HO327.out) gb328 (Nat.le_of_eq hg.symm)) hb); have n2_ := Aside0.mk (blk_below (g := gb304) (o := .cells #[.string a0_0, .int .i64 a0_1, .slice A0_2 l0_2.length c0_2] 24 (0, 0)) (by (with_reducible repeat (first | refine blk_drewN ?_ _ | refine blk_drew ?_ | refine blk_alloc ?_ _)); exact BK304.out) hb); have n3_ := Aside0.mk (blk_below (g := gb309) (o := .cells #[.string a0_0, .int .i64 a0_1, .slice none 0 0] 24 (0, 0)) (by (with_reducible repeat (first | refine blk_drewN ?_ _ | refine blk_drew ?_ | refine blk_alloc ?_ _)); exact BK309.out) hb); have n4_ := Aside0.mk (blk_below (g := gb317) (o := .cells #[.string t312, .int .i64 t313, .slice Ao66 y318.length co66] 24 (0, 0)) (by (with_reducible repeat (first | refine blk_drewN ?_ _ | refine blk_drew ?_ | refine blk_alloc ?_ _)); exact BK317.out) hb); have n5_ := Aside0.mk (below_step (by repeat (first | (with_reducible first | exact HB.out | apply below_alloc | apply pw_below_drewN | apply below_drew1 | refine below_set ?_ GE304.out | refine below_set ?_ GE309.out | refine below_set ?_ GE317.out) | exact HB.out)) hb); have n6_ := Aside0.mk (hbox); have n7_ := Aside0.mk ((by rw [hg]; exact (below_size (by repeat (first | (with_reducible first | exact HB.out | apply below_alloc | apply pw_below_drewN | apply below_drew1 | refine below_set ?_ GE304.out | refine below_set ?_ GE309.out | refine below_set ?_ GE317.out) | exact HB.out))) : w.heap.size ≤ gb328)); have n8_ := Aside0.mk ((by rw [hg]; exact (below_size (by repeat (first | (with_reducible first | exact HB.out | apply below_alloc | apply pw_below_drewN | apply below_drew1 | refine below_set ?_ GE304.out | refine below_set ?_ GE309.out | refine below_set ?_ GE317.out) | exact HB.out))) : w.heap.size ≤ gb328)); have n9_ := Aside0.mk ((by rw [hg]; exact Nat.ne_of_lt (blk_lt (g := gb304) (o := .cells #[.string a0_0, .int .i64 a0_1, .slice A0_2 l0_2.length c0_2] 24 (0, 0)) (by (with_reducible repeat (first | refine blk_drewN ?_ _ | refine blk_drew ?_ | refine blk_alloc ?_ _)); exact BK304.out)) : gb304 ≠ gb328)); have n10_ := Aside0.mk ((by rw [hg]; exact Nat.ne_of_gt (blk_lt (g := gb304) (o := .cells #[.string a0_0, .int .i64 a0_1, .slice A0_2 l0_2.length c0_2] 24 (0, 0)) (by (with_reducible repeat (first | refine blk_drewN ?_ _ | refine blk_drew ?_ | refine blk_alloc ?_ _)); exact BK304.out)) : gb328 ≠ gb304)); have n11_ := Aside0.mk ((by rw [hg]; exact Nat.ne_of_lt (blk_lt (g := gb309) (o := .cells #[.string a0_0, .int .i64 a0_1, .slice none 0 0] 24 (0, 0)) (by (with_reducible repeat (first | refine blk_drewN ?_ _ | refine blk_drew ?_ | refine blk_alloc ?_ _)); exact BK309.out)) : gb309 ≠ gb328)); have n12_ := Aside0.mk ((by rw [hg]; exact Nat.ne_of_gt (blk_lt (g := gb309) (o := .cells #[.string a0_0, .int .i64 a0_1, .slice none 0 0] 24 (0, 0)) (by (with_reducible repeat (first | refine blk_drewN ?_ _ | refine blk_drew ?_ | refine blk_alloc ?_ _)); exact BK309.out)) : gb328 ≠ gb309)); have n13_ := Aside0.mk ((by rw [hg]; exact Nat.ne_of_lt (blk_lt (g := gb317) (o := .cells #[.string t312, .int .i64 t313, .slice Ao66 y318.length co66] 24 (0, 0)) (by (with_reducible repeat (first | refine blk_drewN ?_ _ | refine blk_drew ?_ | refine blk_alloc ?_ _)); exact BK317.out)) : gb317 ≠ gb328)); have n14_ := Aside0.mk ((by rw [hg]; exact Nat.ne_of_gt (blk_lt (g := gb317) (o := .cells #[.string t312, .int .i64 t313, .slice Ao66 y318.length co66] 24 (0, 0)) (by (with_reducible repeat (first | refine blk_drewN ?_ _ | refine blk_drew ?_ | refine blk_alloc ?_ _)); exact BK317.out)) : gb328 ≠ gb317)); clear HO320; clear HO327; clear BK304; clear BK309; clear BK317; clear HB; have HO320 := n0_; have HO327 := n1_; have BK304 := n2_; have BK309 := n3_; have BK317 := n4_; have HB := n5_; have BK328 := n6_; have GW328 := n7_; have GE328 := n8_; have NB304_328 := n9_; have NB328_304 := n10_; have NB309_328 := n11_; have NB328_309 := n12_; have NB317_328 := n13_; have NB328_317 := n14_; clear n0_ n1_ n2_ n3_ n4_ n5_ n6_ n7_ n8_ n9_ n10_ n11_ n12_ n13_ n14_; clear hb hbox hg; have hnb74 := NB328_304.out; have hnc74 := NB304_328.out; have hnb75 := NB328_309.out; have hnc75 := NB309_328.out; have hnb76 := NB328_317.out; have hnc76 := NB317_328.out; have hcz77_0 : w73.cell? ⟨gb328, 0, none⟩ = some (.string (⟨#[]⟩ : ByteArray)) := (blk_cell BK328.out 0).trans rfl; have hcz77_1 : w73.cell? ⟨gb328, 1, none⟩ = some (.int .i64 0) := (blk_cell BK328.out 1).trans rfl; have hcz77_2 : w73.cell? ⟨gb328, 2, none⟩ = some (.slice none 0 0) := (blk_cell BK328.out 2).trans rfl; have hfz77_0 := blk_frozen BK328.out 0; have hfz77_1 := blk_frozen BK328.out 1; have hfz77_2 := blk_frozen BK328.out 2; obtain ⟨Ao78, co78, eo78⟩ := Kd.N_slice HO327.out; subst eo78) | ((with_reducible refine gate_store (t := 24) (p := 11) rfl ?_); refine store_event (t := 24) (p := 11) (v := ?vo_w79) (w1 := (((w73.setCell ⟨gb328, 0, none⟩ (.string t323)).setCell ⟨gb328, 1, none⟩ (.int .i64 t324)).setCell ⟨gb328, 2, none⟩ (.slice Ao78 t325.length co78))) ?hg ?ho ?hn ?hr ?_; (case ho => rfl); (case hg => rfl); (case hn => rfl); (case hr => first | (go_simp; done) | (go_simp; rfl)); intro w79 hw; have n0_ : Aside0 (Kd.N k45 45 w79 w.heap.size (fun k_ => some k_ ≠ (.slice Ao78 t325.length co78 : Value).ownBlock ∧ k_ ≠ gb304 ∧ k_ ≠ gb309 ∧ k_ ≠ gb317 ∧ k_ ≠ gb328) (.slice Ao66 y318.length co66) y318) := ⟨(by rw [hw]; exact (by (with_reducible repeat (first | apply Kd.N_alloc | apply Kd.N_drewN | apply Kd.N_drew)); exact Kd.N_mono (Kd.N_far (p := ⟨gb328, 2, none⟩) (Kd.N_far (p := ⟨gb328, 1, none⟩) (Kd.N_far (p := ⟨gb328, 0, none⟩) (Kd.N_mono HO320.out (fun k_ hk => (⟨hk, hk.2⟩ : _ ∧ k_ ≠ gb328))) (fun _ hk => hk.2) (.string t323)) (fun _ hk => hk.2) (.int .i64 t324)) (fun _ hk => hk.2) (.slice Ao78 t325.length co78)) (fun _ hk => ⟨hk.1.1.2, ⟨hk.1.1.1.1, ⟨hk.1.1.1.2.1, ⟨hk.1.1.1.2.2, hk.1.2⟩⟩⟩⟩)))⟩; have n1_ : Aside0 (Kd.N k45 45 w79 w.heap.size (fun k_ => some k_ ≠ (.slice Ao66 y318.length co66 : Value).ownBlock ∧ k_ ≠ gb304 ∧ k_ ≠ gb309 ∧ k_ ≠ gb317 ∧ k_ ≠ gb328) (.slice Ao78 t325.length co78) t325) := ⟨(by rw [hw]; exact (by (with_reducible repeat (first | apply Kd.N_alloc | apply Kd.N_drewN | apply Kd.N_drew)); exact Kd.N_mono (Kd.N_far (p := ⟨gb328, 2, none⟩) (Kd.N_far (p := ⟨gb328, 1, none⟩) (Kd.N_far (p := ⟨gb328, 0, none⟩) (Kd.N_mono HO327.out (fun k_ hk => (⟨hk, hk.2⟩ : _ ∧ k_ ≠ gb328))) (fun _ hk => hk.2) (.string t323)) (fun _ hk => hk.2) (.int .i64 t324)) (fun _ hk => hk.2) (.slice Ao78 t325.length co78)) (fun _ hk => ⟨hk.1.1.1, ⟨hk.1.1.2.1, ⟨hk.1.1.2.2.1, ⟨hk.1.1.2.2.2, hk.1.2⟩⟩⟩⟩)))⟩; have n2_ : Aside0 (w79.heap[gb304]? = some (.cells #[.string a0_0, .int .i64 a0_1, .slice A0_2 l0_2.length c0_2] 24 (0, 0))) := ⟨(by rw [hw]; exact (by (with_reducible repeat (first | refine blk_drewN ?_ _ | refine blk_drew ?_ | refine blk_alloc ?_ _)); refine blk_far ?_ NB304_328.out _; (with_reducible repeat (first | refine blk_drewN ?_ _ | refine blk_drew ?_ | refine blk_alloc ?_ _)); refine blk_far ?_ NB304_328.out _; (with_reducible repeat (first | refine blk_drewN ?_ _ | refine blk_drew ?_ | refine blk_alloc ?_ _)); refine blk_far ?_ NB304_328.out _; (with_reducible repeat (first | refine blk_drewN ?_ _ | refine blk_drew ?_ | refine blk_alloc ?_ _)); exact BK304.out))⟩; have n3_ : Aside0 (w79.heap[gb309]? = some (.cells #[.string a0_0, .int .i64 a0_1, .slice none 0 0] 24 (0, 0))) := ⟨(by rw [hw]; exact (by (with_reducible repeat (first | refine blk_drewN ?_ _ | refine blk_drew ?_ | refine blk_alloc ?_ _)); refine blk_far ?_ NB309_328.out _; (with_reducible repeat (first | refine blk_drewN ?_ _ | refine blk_drew ?_ | refine blk_alloc ?_ _)); refine blk_far ?_ NB309_328.out _; (with_reducible repeat (first | refine blk_drewN ?_ _ | refine blk_drew ?_ | refine blk_alloc ?_ _)); refine blk_far ?_ NB309_328.out _; (with_reducible repeat (first | refine blk_drewN ?_ _ | refine blk_drew ?_ | refine blk_alloc ?_ _)); exact BK309.out))⟩; have n4_ : Aside0 (w79.heap[gb317]? = some (.cells #[.string t312, .int .i64 t313, .slice Ao66 y318.length co66] 24 (0, 0))) := ⟨(by rw [hw]; exact (by (with_reducible repeat (first | refine blk_drewN ?_ _ | refine blk_drew ?_ | refine blk_alloc ?_ _)); refine blk_far ?_ NB317_328.out _; (with_reducible repeat (first | refine blk_drewN ?_ _ | refine blk_drew ?_ | refine blk_alloc ?_ _)); refine blk_far ?_ NB317_328.out _; (with_reducible repeat (first | refine blk_drewN ?_ _ | refine blk_drew ?_ | refine blk_alloc ?_ _)); refine blk_far ?_ NB317_328.out _; (with_reducible repeat (first | refine blk_drewN ?_ _ | refine blk_drew ?_ | refine blk_alloc ?_ _)); exact BK317.out))⟩; have n5_ : Aside0 (w79.heap[gb328]? = some (.cells #[.string t323, .int .i64 t324, .slice Ao78 t325.length co78] 24 (0, 0))) := ⟨(by rw [hw]; exact (by (with_reducible repeat (first | refine blk_drewN ?_ _ | refine blk_drew ?_ | refine blk_alloc ?_ _)); refine blk_put (cs := #[.string t323, .int .i64 t324, .slice none 0 0]) ?_ 2 _ rfl; (with_reducible repeat (first | refine blk_drewN ?_ _ | refine blk_drew ?_ | refine blk_alloc ?_ _)); refine blk_put (cs := #[.string t323, .int .i64 0, .slice none 0 0]) ?_ 1 _ rfl; (with_reducible repeat (first | refine blk_drewN ?_ _ | refine blk_drew ?_ | refine blk_alloc ?_ _)); refine blk_put (cs := #[.string (⟨#[]⟩ : ByteArray), .int .i64 0, .slice none 0 0]) ?_ 0 _ rfl; (with_reducible repeat (first | refine blk_drewN ?_ _ | refine blk_drew ?_ | refine blk_alloc ?_ _)); exact BK328.out))⟩; have n6_ : Aside0 (Below w.heap.size w w79) := ⟨(by rw [hw]; exact (by repeat (first | (with_reducible first | exact HB.out | apply below_alloc | apply pw_below_drewN | apply below_drew1 | refine below_set ?_ GE304.out | refine below_set ?_ GE309.out | refine below_set ?_ GE317.out | refine below_set ?_ GE328.out) | exact HB.out)))⟩; clear hw; clear HO320; clear HO327; clear BK304; clear BK309; clear BK317; clear BK328; clear HB; have HO320 := n0_; have HO327 := n1_; have BK304 := n2_; have BK309 := n3_; have BK317 := n4_; have BK328 := n5_; have HB := n6_; clear n0_ n1_ n2_ n3_ n4_ n5_ n6_; have hcz80_0 : w79.cell? ⟨gb328, 0, none⟩ = some (.string t323) := (blk_cell BK328.out 0).trans rfl; have hcz80_1 : w79.cell? ⟨gb328, 1, none⟩ = some (.int .i64 t324) := (blk_cell BK328.out 1).trans rfl; have hcz80_2 : w79.cell? ⟨gb328, 2, none⟩ = some (.slice Ao78 t325.length co78) := (blk_cell BK328.out 2).trans rfl; have hfz80_0 := blk_frozen BK328.out 0; have hfz80_1 := blk_frozen BK328.out 1; have hfz80_2 := blk_frozen BK328.out 2; have q81 : ((wrap64 (t307 + 1)) : Int) ≤ ((t325.length : Int) : Int) := of_decide_eq_true (by first | (with_reducible assumption) | assumption); obtain ⟨i081, hi081, _, hsz81, _⟩ := info_parts info45; have hroom81 : t325.length ≤ co78 := (Kd.N_reads' HO327.out).2.1; have hC81 : Kd.F k45 _ _ Ao78 t325.length t325 := (Kd.V_at (base := w.heap.size) (Kd.N_V HO327.out)).2.2; have ql81 : (t307 : Int) ≤ ((wrap64 (t307 + 1)) : Int) := of_decide_eq_true (by first | (with_reducible assumption) | assumption); have q081 : (0 : Int) ≤ (t307 : Int) := of_decide_eq_true (by first | (with_reducible assumption) | assumption); have hcut81 := cut_mid (P := Try.prog) 22 45 .i64 .i64 Try.underlying22 hi081 7 hsz81 Ao78 t325.length co78 t307 (wrap64 (t307 + 1)) q081 ql81 q81 hroom81; have hr81 := Kd.F_mid (lo := (t307 : Int).toNat) (hi := ((wrap64 (t307 + 1)) : Int).toNat) (c := co78) hC81 (by omega) (by omega) hroom81; obtain ⟨A81, hA81⟩ : ∃ A1, A1 = (if co78 = (t307 : Int).toNat then Ao78 else (Ao78 : Option Addr).map (·.add ((t307 : Int).toNat * 7))) := ⟨_, rfl⟩; obtain ⟨c81, hc81⟩ : ∃ c1, c1 = co78 - (t307 : Int).toNat := ⟨_, rfl⟩; have hy81 : y329.length = ((wrap64 (t307 + 1)) : Int).toNat - (t307 : Int).toNat := (by rw [Ny329.out, List.length_drop, List.length_take] <;> omega); rw [show ((t325).take ((wrap64 (t307 + 1)) : Int).toNat).drop (t307 : Int).toNat = y329 from Ny329.out.symm] at hr81; replace hr81 : Kd.F k45 _ _ A81 y329.length y329 := (by rw [hA81]; exact hr81); rw [← hy81, ← hA81, ← hc81] at hcut81; have HO333 := Aside0.mk (show Kd.V k45 45 _ w.heap.size _ (.slice A81 y329.length c81) y329 from Kd.V_mk (by rw [hy81, hc81]; exact Nat.sub_le_sub_right (Nat.le_trans (by omega) hroom81) _) hr81); have HC333 := Aside0.mk (show y329.length ≤ c81 from by rw [hy81, hc81]; exact Nat.sub_le_sub_right (Nat.le_trans (by omega) hroom81) _); clear hr81 hC81 hroom81 hi081 hsz81 hc81; have KY81 := Aside0.mk hy81; have KA81 := Aside0.mk hA81; clear hy81 hA81; replace q81 := eq_true q81) | ((with_reducible refine gate_callee (f := 10) rfl ?_); refine goesL_ (some 116) rfl rfl Try.func10 (by kernel_rfl) rfl #[.agg #[.string t323, .int .i64 t324, .slice A81 y329.length c81]] rfl (by (try simp only [List.map_toArray, List.map_cons, List.map_nil]); first | done | rfl | (simp only [List.length_drop, List.length_take]; rfl)) ?_; (with_reducible refine (script_Check.calls kj33 t323 t324 _ _ y329 t334 t335 _ ?side1 ?side2 A56.out).mono ?_); (case side1 => refine (Kd.V_reads' (e := 45) (base := w.heap.size) (ok := fun k_ => (some k_ ≠ (.slice Ao66 y318.length co66 : Value).ownBlock ∧ (k_ ≠ gb304 ∧ (k_ ≠ gb309 ∧ (k_ ≠ gb317 ∧ k_ ≠ gb328))))) (n := y329.length) (c := c81) ?_).2.2; exact (by (with_reducible repeat (first | apply Kd.V_alloc | apply Kd.V_drewN | apply Kd.V_drew)); exact (Kd.V_mono (Kd.V_far (p := ⟨gb328, 2, none⟩) (Kd.V_mono HO333.out (fun k_ hk => (⟨hk, hk.2.2.2.2⟩ : _ ∧ k_ ≠ gb328))) (fun _ hk => hk.2) (.slice A81 y329.length c81)) (fun _ h_ => h_.1)))); (case side2 => exact (Kd.V_reads' HO333.out).2.1); rintro e w82 ⟨rfl, hb⟩; refine ⟨_, rfl, ?_⟩; have n0_ := Aside0.mk (Kd.N_below (by (with_reducible repeat (first | apply Kd.N_alloc | apply Kd.N_drewN | apply Kd.N_drew)); exact (Kd.N_mono (Kd.N_far (p := ⟨gb328, 2, none⟩) (Kd.N_mono HO320.out (fun k_ hk => (⟨hk, hk.2.2.2.2⟩ : _ ∧ k_ ≠ gb328))) (fun _ hk => hk.2) (.slice A81 y329.length c81)) (fun _ h_ => h_.1))) hb); have n1_ := Aside0.mk (Kd.N_below (by (with_reducible repeat (first | apply Kd.N_alloc | apply Kd.N_drewN | apply Kd.N_drew)); exact (Kd.N_mono (Kd.N_far (p := ⟨gb328, 2, none⟩) (Kd.N_mono HO327.out (fun k_ hk => (⟨hk, hk.2.2.2.2⟩ : _ ∧ k_ ≠ gb328))) (fun _ hk => hk.2) (.slice A81 y329.length c81)) (fun _ h_ => h_.1))) hb); have n2_ := Aside0.mk (Kd.V_below (by (with_reducible repeat (first | apply Kd.V_alloc | apply Kd.V_drewN | apply Kd.V_drew)); exact (Kd.V_mono (Kd.V_far (p := ⟨gb328, 2, none⟩) (Kd.V_mono HO333.out (fun k_ hk => (⟨hk, hk.2.2.2.2⟩ : _ ∧ k_ ≠ gb328))) (fun _ hk => hk.2) (.slice A81 y329.length c81)) (fun _ h_ => h_.1))) hb); have n3_ := Aside0.mk (blk_below (g := gb304) (o := .cells #[.string a0_0, .int .i64 a0_1, .slice A0_2 l0_2.length c0_2] 24 (0, 0)) (by (with_reducible repeat (first | refine blk_drewN ?_ _ | refine blk_drew ?_ | refine blk_alloc ?_ _)); refine blk_far ?_ NB304_328.out _; (with_reducible repeat (first | refine blk_drewN ?_ _ | refine blk_drew ?_ | refine blk_alloc ?_ _)); exact BK304.out) hb); have n4_ := Aside0.mk (blk_below (g := gb309) (o := .cells #[.string a0_0, .int .i64 a0_1, .slice none 0 0] 24 (0, 0)) (by (with_reducible repeat (first | refine blk_drewN ?_ _ | refine blk_drew ?_ | refine blk_alloc ?_ _)); refine blk_far ?_ NB309_328.out _; (with_reducible repeat (first | refine blk_drewN ?_ _ | refine blk_drew ?_ | refine blk_alloc ?_ _)); exact BK309.out) hb); have n5_ := Aside0.mk (blk_below (g := gb317) (o := .cells #[.string t312, .int .i64 t313, .slice Ao66 y318.length co66] 24 (0, 0)) (by (with_reducible repeat (first | refine blk_drewN ?_ _ | refine blk_drew ?_ | refine blk_alloc ?_ _)); refine blk_far ?_ NB317_328.out _; (with_reducible repeat (first | refine blk_drewN ?_ _ | refine blk_drew ?_ | refine blk_alloc ?_ _)); exact BK317.out) hb); have n6_ := Aside0.mk (blk_below (g := gb328) (o := .cells #[.string t323, .int .i64 t324, .slice A81 y329.length c81] 24 (0, 0)) (by (with_reducible repeat (first | refine blk_drewN ?_ _ | refine blk_drew ?_ | refine blk_alloc ?_ _)); refine blk_put (cs := #[.string t323, .int .i64 t324, .slice Ao78 t325.length co78]) ?_ 2 _ rfl; (with_reducible repeat (first | refine blk_drewN ?_ _ | refine blk_drew ?_ | refine blk_alloc ?_ _)); exact BK328.out) hb); have n7_ := Aside0.mk (below_step (by repeat (first | (with_reducible first | exact HB.out | apply below_alloc | apply pw_below_drewN | apply below_drew1 | refine below_set ?_ GE304.out | refine below_set ?_ GE309.out | refine below_set ?_ GE317.out | refine below_set ?_ GE328.out) | exact HB.out)) hb); clear HO320; clear HO327; clear HO333; clear BK304; clear BK309; clear BK317; clear BK328; clear HB; have HO320 := n0_; have HO327 := n1_; have HO333 := n2_; have BK304 := n3_; have BK309 := n4_; have BK317 := n5_; have BK328 := n6_; have HB := n7_; clear n0_ n1_ n2_ n3_ n4_ n5_ n6_ n7_; (try clear hb); (try clear hb2); (try clear hk); (try clear hi)))
                    go_ret
                    exact ⟨by first | rfl | (simp [errW_none, errW_some] <;> rfl) | (simp [*, errW_none, errW_some] <;> rfl), by repeat (first | (with_reducible first | exact HB.out | apply below_alloc | apply pw_below_drewN | apply below_drew1 | refine below_set ?_ GE304.out | refine below_set ?_ GE309.out | refine below_set ?_ GE317.out | refine below_set ?_ GE328.out) | exact HB.out)⟩
                   ·rw [if_neg c58] at H
                    have c58b0 : (t334 == 0) = false := beq_eq_false_iff_ne.mpr c58
                    have c58b1 : (t334 != 0) = true := bne_iff_ne.mpr c58
                    exact absurd ((Option.some.inj H).trans hr_.out) (by decide)
                  ·rw [if_neg c57] at H
                   have c57b0 : (t322 == 0) = false := beq_eq_false_iff_ne.mpr c57
                   have c57b1 : (t322 != 0) = true := bne_iff_ne.mpr c57
                   exact absurd ((Option.some.inj H).trans hr_.out) (by decide)
                 ·rw [if_neg c55] at H
                  exact absurd H (by simp)
                ·rw [if_neg c54] at H
                 exact absurd H (by simp)
               ·rw [if_neg c50] at H
                exact absurd H (by simp)
              ·rw [if_neg c49] at H
               exact absurd H (by simp)
  ·replace c5 := Bool.eq_false_iff.mpr c5
   subst c5
   have H1 : (some true) = some r := by rw [if_neg (show ¬ (false = true) by decide)] at H; exact H
   clear H
   have H := H1
   clear H1
   obtain rfl := Option.some.inj H
   go_enter Try.func5, Try.ntmps5
   go_wp2_with (first | ((with_reducible refine gate_dst (N := 1) rfl ?_); (try (refine gate_guard (by rfl) ?_; dsimp only)); refine box_event ?hg (N := 1) ?hd (cs := #[.string a0_0, .int .i64 a0_1, .slice A0_2 l0_2.length c0_2]) (t := 24) ?hr ?_; (case hd => rfl); (case hg => rfl); (case hr => first | (go_simp; done) | (go_simp; rfl)); intro gb304 hg w83 hbox hb; have n0_ := Aside0.mk (below_step (by repeat (first | (with_reducible first | exact HB.out | apply below_alloc | apply pw_below_drewN | apply below_drew1) | exact HB.out)) hb); have n1_ := Aside0.mk (hbox); have n2_ := Aside0.mk ((by rw [hg]; exact (below_size (by repeat (first | (with_reducible first | exact HB.out | apply below_alloc | apply pw_below_drewN | apply below_drew1) | exact HB.out))) : w.heap.size ≤ gb304)); have n3_ := Aside0.mk ((by rw [hg]; exact (below_size (by repeat (first | (with_reducible first | exact HB.out | apply below_alloc | apply pw_below_drewN | apply below_drew1) | exact HB.out))) : w.heap.size ≤ gb304)); clear HB; have HB := n0_; have BK304 := n1_; have GW304 := n2_; have GE304 := n3_; clear n0_ n1_ n2_ n3_; clear hb hbox hg) | ((with_reducible refine gate_callee (f := 8) rfl ?_); refine goesL_ (some 14) rfl rfl Try.func8 (by kernel_rfl) rfl #[] rfl (by (try simp only [List.map_toArray, List.map_cons, List.map_nil]); first | done | rfl | (simp only [List.length_drop, List.length_take]; rfl)) ?_; (with_reducible refine (outlawlaw25_lives.calls k  true _ A2.out).mono ?_); rintro e w84 ⟨rfl, hb⟩; refine ⟨_, rfl, ?_⟩; have n0_ := Aside0.mk (blk_below (g := gb304) (o := .cells #[.string a0_0, .int .i64 a0_1, .slice A0_2 l0_2.length c0_2] 24 (0, 0)) (by (with_reducible repeat (first | refine blk_drewN ?_ _ | refine blk_drew ?_ | refine blk_alloc ?_ _)); exact BK304.out) hb); have n1_ := Aside0.mk (below_step (by repeat (first | (with_reducible first | exact HB.out | apply below_alloc | apply pw_below_drewN | apply below_drew1 | refine below_set ?_ GE304.out) | exact HB.out)) hb); clear BK304; clear HB; have BK304 := n0_; have HB := n1_; clear n0_ n1_; (try clear hb); (try clear hb2); (try clear hk); (try clear hi); have hcz85_0 : w84.cell? ⟨gb304, 0, none⟩ = some (.string a0_0) := (blk_cell BK304.out 0).trans rfl; have hcz85_1 : w84.cell? ⟨gb304, 1, none⟩ = some (.int .i64 a0_1) := (blk_cell BK304.out 1).trans rfl; have hcz85_2 : w84.cell? ⟨gb304, 2, none⟩ = some (.slice A0_2 l0_2.length c0_2) := (blk_cell BK304.out 2).trans rfl; have hfz85_0 := blk_frozen BK304.out 0; have hfz85_1 := blk_frozen BK304.out 1; have hfz85_2 := blk_frozen BK304.out 2) | ((with_reducible refine gate_callee (f := 9) rfl ?_); refine goesL_ (some 17) rfl rfl Try.func9 (by kernel_rfl) rfl #[.agg #[.string a0_0, .int .i64 a0_1, .slice A0_2 l0_2.length c0_2]] rfl (by (try simp only [List.map_toArray, List.map_cons, List.map_nil]); first | done | rfl | (simp only [List.length_drop, List.length_take]; rfl)) ?_; (with_reducible refine (outlawlaw25_light.calls k a0_0 a0_1 _ _ l0_2 false _ ?side1 ?side2 A4.out).mono ?_); (case side1 => repeat (first | exact (Kd.C_below HR0_2.out HB.out) | (with_reducible refine Kd.C_alloc ?_ _) | (with_reducible refine Kd.C_drewN ?_ _) | (with_reducible refine Kd.C_drew ?_))); (case side2 => exact HC0_2.out); rintro e w86 ⟨rfl, hb⟩; refine ⟨_, rfl, ?_⟩; have n0_ := Aside0.mk (blk_below (g := gb304) (o := .cells #[.string a0_0, .int .i64 a0_1, .slice A0_2 l0_2.length c0_2] 24 (0, 0)) (by (with_reducible repeat (first | refine blk_drewN ?_ _ | refine blk_drew ?_ | refine blk_alloc ?_ _)); exact BK304.out) hb); have n1_ := Aside0.mk (below_step (by repeat (first | (with_reducible first | exact HB.out | apply below_alloc | apply pw_below_drewN | apply below_drew1 | refine below_set ?_ GE304.out) | exact HB.out)) hb); clear BK304; clear HB; have BK304 := n0_; have HB := n1_; clear n0_ n1_; (try clear hb); (try clear hb2); (try clear hk); (try clear hi)))
   go_ret
   exact ⟨by first | rfl | (simp [errW_none, errW_some] <;> rfl) | (simp [*, errW_none, errW_some] <;> rfl), by repeat (first | (with_reducible first | exact HB.out | apply below_alloc | apply pw_below_drewN | apply below_drew1 | refine below_set ?_ GE304.out) | exact HB.out)⟩
 ·replace c3 := Bool.eq_false_iff.mpr c3
  subst c3
  have H1 : (some false) = some r := by rw [if_neg (show ¬ (false = true) by decide)] at H; exact H
  clear H
  have H := H1
  clear H1
  exact absurd ((Option.some.inj H).trans hr_.out) (by decide)

end Go.Proofs.Ytfgibjkgiolonaa.PA
