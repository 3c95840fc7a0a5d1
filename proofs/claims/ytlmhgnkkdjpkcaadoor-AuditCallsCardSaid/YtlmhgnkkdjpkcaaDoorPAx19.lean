-- Written by a program of this session (gprint.py, a turned print with given contracts).
import Derived.Test.YtlmhgnkkdjpkcaaDoorWm
import Derived.Test.YtlmhgnkkdjpkcaaDoorPAx0m
import Derived.Test.YtlmhgnkkdjpkcaaDoorPAx3
import Derived.Test.YtlmhgnkkdjpkcaaDoorPAx4
import Derived.Test.YtlmhgnkkdjpkcaaDoorPAx5
import Derived.Test.YtlmhgnkkdjpkcaaDoorPAx6
import Derived.Test.YtlmhgnkkdjpkcaaDoorPAx7
import Derived.Test.YtlmhgnkkdjpkcaaDoorPAx8
import Derived.Test.YtlmhgnkkdjpkcaaDoorPAx10
import Derived.Test.YtlmhgnkkdjpkcaaDoorPAx11
import Derived.Test.YtlmhgnkkdjpkcaaDoorPAx15
import Derived.Test.YtlmhgnkkdjpkcaaDoorPAx16
import Derived.Test.YtlmhgnkkdjpkcaaDoorPAx17
import Derived.Test.YtlmhgnkkdjpkcaaDoorPAx18
import Derived.Test.YtlmhgnkkdjpkcaaDoorB3
import Derived.Test.YtlmhgnkkdjpkcaaDoorB5
import Derived.Test.YtlmhgnkkdjpkcaaDoorMl
import Derived.Test.YtlmhgnkkdjpkcaaDoorMt
import Derived.Test.YtlmhgnkkdjpkcaaDoorRo
namespace Go.Proofs.YtlmhgnkkdjpkcaaDoor.PA
open Go.RowKit Go.Proofs.YtlmhgnkkdjpkcaaDoorW.PrintWords Go.Proofs.YtlmhgnkkdjpkcaaDoorW.PrintLast Go.Proofs.YtlmhgnkkdjpkcaaDoorW.PrintMore Go.Proofs.YtlmhgnkkdjpkcaaDoorG
attribute [local go_sem] max2_int min2_int max_two min_two max_three min_three max_four min_four   -- for this text's walks alone
set_option linter.unusedVariables false
set_option linter.unusedSimpArgs false

theorem szPAx19.one_ (x : UInt8) : (⟨#[x]⟩ : ByteArray).size = 1 := rfl
theorem szPAx19.two_ (x y : UInt8) : (⟨#[x, y]⟩ : ByteArray).size = 2 := rfl
theorem szPAx19.three_ (x y z : UInt8) : (⟨#[x, y, z]⟩ : ByteArray).size = 3 := rfl
/-! ### outlawlaw23_AuditCalls: function 5 -/
mutual
def outlawlaw23_AuditCalls.j0 : Nat → List (S30) → ByteArray → ByteArray → Int → Bool → Option (Bool)
 | 0, _, _, _, _, _ => none
 | k + 1, x0, x1, x2, x3, x24 => if x24 = true then (some true) else (outlawlaw23_AuditCalls.l0 k x0 x1 x2 x3 0)
def outlawlaw23_AuditCalls.l0 : Nat → List (S30) → ByteArray → ByteArray → Int → Int → Option (Bool)
 | 0, _, _, _, _, _ => none
 | k + 1, x0, x1, x2, x3, x9 => if x9 < (x0.length : Int) then (if 0 ≤ x9 then ((audit_Line.f ((rd_T30 x0 x9).f0) ((rd_T30 x0 x9).f1) ((rd_T30 x0 x9).f2.f0) ((rd_T30 x0 x9).f2.f1) ((rd_T30 x0 x9).f2.f2) ((rd_T30 x0 x9).f2.f3) ((rd_T30 x0 x9).f2.f4) ((rd_T30 x0 x9).f3) ((rd_T30 x0 x9).f4)).bind fun t257 => ((outlawref23_Line.f k ((rd_T30 x0 x9).f0) ((rd_T30 x0 x9).f1) ((rd_T30 x0 x9).f2.f0) ((rd_T30 x0 x9).f2.f1) ((rd_T30 x0 x9).f2.f2) ((rd_T30 x0 x9).f2.f3) ((rd_T30 x0 x9).f2.f4) ((rd_T30 x0 x9).f3) ((rd_T30 x0 x9).f4)).bind fun t259 => (if t257.toList = t259.toList then (outlawlaw23_AuditCalls.l0 k x0 x1 x2 x3 (wrap64 (x9 + 1))) else (some false)))) else (none)) else ((audit_Life.f x0).bind fun t260 => ((outlawref23_Life.f k x0).bind fun t261 => (if t260 = t261 then ((audit_Own.f k x0 x1 x2).bind fun t262 => ((outlawref23_Own.f k x0 x1 x2).bind fun t263 => (if (t262 == t263) = true then ((audit_Owned.f x0 x1).bind fun t264 => ((outlawref23_Owned.f k x0 x1).bind fun t267 => ((outlawkit_Same_string.f k t264 t267).bind fun t270 => (if t270 = true then ((audit_Of.f k x0 x3).bind fun t271 => ((outlawref23_Of.f k x0 x3).bind fun t274 => ((api_Note.f k t271 t274).bind fun t277 => (if t277 = true then ((audit_Open.f x0).bind fun t278 => ((outlawref23_Open.f x0).bind fun t281 => ((outlawkit_Same_int64.f k t278 t281).bind fun t284 => (if t284 = true then ((audit_Text.f x0).bind fun t285 => ((outlawref23_Text.f k x0).bind fun t286 => (some (t285.toList == t286.toList)))) else (some false))))) else (some false))))) else (some false))))) else (some false)))) else (some false))))
end
def outlawlaw23_AuditCalls.f (k : Nat) (l0 : List (S30)) (a1 : ByteArray) (a2 : ByteArray) (a3 : Int) : Option (Bool) := (outlawlaw23_lives.f k).bind fun t254 => (if t254 = true then ((outlawkit_LightNotes.f k l0 60).bind fun t255 => (if t255 = true then (if (a1.size : Int) > 300 then (outlawlaw23_AuditCalls.j0 k l0 a1 a2 a3 true) else (outlawlaw23_AuditCalls.j0 k l0 a1 a2 a3 (decide ((a2.size : Int) > 300)))) else (outlawlaw23_AuditCalls.j0 k l0 a1 a2 a3 true))) else (some false))
theorem outlawlaw23_AuditCalls.mono_l : ∀ k, (∀ y0 y1 y2 y3 y4, LeO (outlawlaw23_AuditCalls.j0 k y0 y1 y2 y3 y4) (outlawlaw23_AuditCalls.j0 (k + 1) y0 y1 y2 y3 y4)) ∧ (∀ y0 y1 y2 y3 y4, LeO (outlawlaw23_AuditCalls.l0 k y0 y1 y2 y3 y4) (outlawlaw23_AuditCalls.l0 (k + 1) y0 y1 y2 y3 y4))
 | 0 => ⟨fun _ _ _ _ _ r h => by simp [outlawlaw23_AuditCalls.j0] at h, fun _ _ _ _ _ r h => by simp [outlawlaw23_AuditCalls.l0] at h⟩
 | k + 1 => by
  obtain ⟨ih0, ih1⟩ := outlawlaw23_AuditCalls.mono_l k
  refine ⟨?_, ?_⟩
  ·intro y0 y1 y2 y3 y4
   unfold outlawlaw23_AuditCalls.j0
   repeat' first
   | (with_reducible exact ih0 _ _ _ _ _)
   | (with_reducible exact ih1 _ _ _ _ _)
   | (with_reducible exact api_Note.mono _ _ _)
   | (with_reducible exact audit_Of.mono _ _ _)
   | (with_reducible exact audit_Own.mono _ _ _ _)
   | (with_reducible exact outlawkit_LightNotes.mono _ _ _)
   | (with_reducible exact outlawkit_Same_int64.mono _ _ _)
   | (with_reducible exact outlawkit_Same_string.mono _ _ _)
   | (with_reducible exact outlawlaw23_lives.mono _)
   | (with_reducible exact outlawref23_Life.mono _ _)
   | (with_reducible exact outlawref23_Line.mono _ _ _ _ _ _ _ _ _ _)
   | (with_reducible exact outlawref23_Of.mono _ _ _)
   | (with_reducible exact outlawref23_Own.mono _ _ _ _)
   | (with_reducible exact outlawref23_Owned.mono _ _ _)
   | (with_reducible exact outlawref23_Text.mono _ _)
   | (with_reducible exact LeO.refl _)
   | (with_reducible exact LeO.none _)
   | (with_reducible refine LeO.ite ?_ ?_)
   | (with_reducible refine LeO.bind ?_ (fun _ => ?_))
   | refine LeO.ite ?_ ?_
   | refine LeO.bind ?_ (fun _ => ?_)
  ·intro y0 y1 y2 y3 y4
   unfold outlawlaw23_AuditCalls.l0
   repeat' first
   | (with_reducible exact ih0 _ _ _ _ _)
   | (with_reducible exact ih1 _ _ _ _ _)
   | (with_reducible exact api_Note.mono _ _ _)
   | (with_reducible exact audit_Of.mono _ _ _)
   | (with_reducible exact audit_Own.mono _ _ _ _)
   | (with_reducible exact outlawkit_LightNotes.mono _ _ _)
   | (with_reducible exact outlawkit_Same_int64.mono _ _ _)
   | (with_reducible exact outlawkit_Same_string.mono _ _ _)
   | (with_reducible exact outlawlaw23_lives.mono _)
   | (with_reducible exact outlawref23_Life.mono _ _)
   | (with_reducible exact outlawref23_Line.mono _ _ _ _ _ _ _ _ _ _)
   | (with_reducible exact outlawref23_Of.mono _ _ _)
   | (with_reducible exact outlawref23_Own.mono _ _ _ _)
   | (with_reducible exact outlawref23_Owned.mono _ _ _)
   | (with_reducible exact outlawref23_Text.mono _ _)
   | (with_reducible exact LeO.refl _)
   | (with_reducible exact LeO.none _)
   | (with_reducible refine LeO.ite ?_ ?_)
   | (with_reducible refine LeO.bind ?_ (fun _ => ?_))
   | refine LeO.ite ?_ ?_
   | refine LeO.bind ?_ (fun _ => ?_)
theorem outlawlaw23_AuditCalls.mono : ∀ a0 a1 a2 a3 k, LeO (outlawlaw23_AuditCalls.f k a0 a1 a2 a3) (outlawlaw23_AuditCalls.f (k + 1) a0 a1 a2 a3) := by
 intro a0 a1 a2 a3 k
 obtain ⟨ih0, ih1⟩ := outlawlaw23_AuditCalls.mono_l k
 unfold outlawlaw23_AuditCalls.f
 repeat' first
   | (with_reducible exact ih0 _ _ _ _ _)
   | (with_reducible exact ih1 _ _ _ _ _)
   | (with_reducible exact api_Note.mono _ _ _)
   | (with_reducible exact audit_Of.mono _ _ _)
   | (with_reducible exact audit_Own.mono _ _ _ _)
   | (with_reducible exact outlawkit_LightNotes.mono _ _ _)
   | (with_reducible exact outlawkit_Same_int64.mono _ _ _)
   | (with_reducible exact outlawkit_Same_string.mono _ _ _)
   | (with_reducible exact outlawlaw23_lives.mono _)
   | (with_reducible exact outlawref23_Life.mono _ _)
   | (with_reducible exact outlawref23_Line.mono _ _ _ _ _ _ _ _ _ _)
   | (with_reducible exact outlawref23_Of.mono _ _ _)
   | (with_reducible exact outlawref23_Own.mono _ _ _ _)
   | (with_reducible exact outlawref23_Owned.mono _ _ _)
   | (with_reducible exact outlawref23_Text.mono _ _)
   | (with_reducible exact LeO.refl _)
   | (with_reducible exact LeO.none _)
   | (with_reducible refine LeO.ite ?_ ?_)
   | (with_reducible refine LeO.bind ?_ (fun _ => ?_))
   | refine LeO.ite ?_ ?_
   | refine LeO.bind ?_ (fun _ => ?_)
def outlawlaw23_AuditCalls.T8 : Bool × List (List Nat × List Nat) := (true, [([], []), ([], []), ([0, 1], [0, 1]), ([2], [2]), ([3], [3]), ([], []), ([], []), ([5, 6], [5, 6]), ([7], [7]), ([8, 4], [8]), ([4, 9], [4, 9])])
def outlawlaw23_AuditCalls.B8 : List Nat := [0, 0, 3, 7, 15, 0, 0, 96, 224, 511, 1023]
theorem outlawlaw23_AuditCalls.tab8 : rtab .any (opsOf Tryd.f5 8) = outlawlaw23_AuditCalls.T8 := by kernel_rfl
theorem outlawlaw23_AuditCalls.bits8 : waitsOk outlawlaw23_AuditCalls.T8.2 outlawlaw23_AuditCalls.B8 = true := by kernel_rfl
set_option maxHeartbeats 8000000 in
set_option maxRecDepth 100000 in
theorem outlawlaw23_AuditCalls.calls (k : Nat) (A0 : Option Addr) (c0 : Nat) (l0 : List (S30)) (a1 : ByteArray) (a2 : ByteArray) (a3 : Int) (r : Bool) (w : World) (hr_ : Aside0 (r = true)) (htTab_ : Tab w) (hr0 : Kd.C k30 w A0 l0.length l0) (hc0 : l0.length ≤ c0) (h : outlawlaw23_AuditCalls.f k l0 a1 a2 a3 = some r) :
  Calls Tryd.prog 5 #[.slice A0 l0.length c0, .string a1, .string a2, .int .i64 a3] w fun e w' => e = .returned (.bool r) ∧ Below w.heap.size w w' := by
 have hu30 := Tryd.underlying30
 have HR0 := Aside0.mk hr0
 have HC0 := Aside0.mk hc0
 clear hr0 hc0
 have HTTab_ := Aside0.mk htTab_
 clear htTab_
 have HB := Aside0.mk (Below.refl w.heap.size w)
 have H : ((outlawlaw23_lives.f k).bind fun t254 => (if t254 = true then ((outlawkit_LightNotes.f k l0 60).bind fun t255 => (if t255 = true then (if (a1.size : Int) > 300 then (outlawlaw23_AuditCalls.j0 k l0 a1 a2 a3 true) else (outlawlaw23_AuditCalls.j0 k l0 a1 a2 a3 (decide ((a2.size : Int) > 300)))) else (outlawlaw23_AuditCalls.j0 k l0 a1 a2 a3 true))) else (some false))) = some r := h
 clear h
 replace H := Option.bind_eq_some_iff.mp H
 obtain ⟨t254, A50, H⟩ := H
 have A5 := Aside0.mk A50
 clear A50
 by_cases c6 : t254 = true
 ·subst c6
  rw [if_pos rfl] at H
  have HC7 := Aside0.mk H
  clear H
  go_enter Tryd.func5, Tryd.ntmps5
  go_upto_region 3 with (first | ((with_reducible refine gate_callee (f := 7) rfl ?_); refine goesL_ (some 10) rfl rfl Tryd.func7 (by kernel_rfl) rfl #[] rfl (by (try simp only [List.map_toArray, List.map_cons, List.map_nil]); first | done | rfl | (simp only [List.length_drop, List.length_take]; rfl)) ?_; (with_reducible refine (outlawlaw23_lives.calls k  true _ A5.out).mono ?_); rintro e w8 ⟨rfl, hb⟩; refine ⟨_, rfl, ?_⟩; have n0_ := Aside0.mk (below_step (by repeat (first | (with_reducible first | exact HB.out | apply a1_ | apply a2_ | apply a3_) | exact HB.out)) hb); clear HB; have HB := n0_; clear n0_; (try clear hb); (try clear hk)))
  (try simp only [Act.put, List.setIfInBounds_toArray, List.set_cons_zero, List.set_cons_succ])
  go_cut [24] (fun v24 wc => ∃ (kq : Nat) (x24_6 : Bool), v24 = .bool x24_6 ∧ Aside0 (outlawlaw23_AuditCalls.j0 kq l0 a1 a2 a3 x24_6 = some r) ∧ Aside0 (kq ≤ k) ∧ Aside0 (Below w.heap.size w wc))
  case first =>
   have H := HC7.out
   clear HC7
   replace H := Option.bind_eq_some_iff.mp H
   obtain ⟨t255, A90, H⟩ := H
   have A9 := Aside0.mk A90
   clear A90
   by_cases c10 : t255 = true
   ·subst c10
    rw [if_pos rfl] at H
    by_cases c11 : (a1.size : Int) > 300
    ·rw [if_pos c11] at H
     have c11b0 : decide (300 < (a1.size : Int)) = true := decide_eq_true c11
     have c11b1 : decide (300 < a1.size) = true := decide_eq_true (by omega)
     clear c11
     (first | rw [c11b0] | (simp only [i64_w, i32_w]; rw [c11b0]) | skip)
     have H' := Aside0.mk H
     clear H
     go_wp2_with (first | ((with_reducible refine gate_callee (f := 8) rfl ?_); refine goesL_ (some 13) rfl rfl Tryd.func8 (by kernel_rfl) rfl #[.slice A0 l0.length c0, .int .i64 60] rfl (by (try simp only [List.map_toArray, List.map_cons, List.map_nil]); first | done | rfl | (simp only [List.length_drop, List.length_take]; rfl)) ?_; (with_reducible refine (outlawkit_LightNotes.calls k _ _ l0 60 true _ ?side1 ?side2 A9.out).mono ?_); (case side1 => repeat (first | exact (Kd.C_below HR0.out HB.out) | (with_reducible refine Kd.C_alloc ?_ _) | (with_reducible refine Kd.C_drewN ?_ _) | (with_reducible refine Kd.C_drew ?_))); (case side2 => exact HC0.out); rintro e w12 ⟨rfl, hb⟩; refine ⟨_, rfl, ?_⟩; have n0_ := Aside0.mk (below_step (by repeat (first | (with_reducible first | exact HB.out | apply a1_ | apply a2_ | apply a3_) | exact HB.out)) hb); clear HB; have HB := n0_; clear n0_; (try clear hb); (try clear hk)))
     all_goals
      go_meet
      case rel => exact ⟨_, (true), (by first | rfl | (simp; done) | (simp [*]; done) | (simp [bneNil_, beqNil_]; done) | (simp [bneNil_, beqNil_, *]; done) | (simp_all; done)), H', ⟨by first | omega | exact Nat.le_refl _⟩, ⟨by repeat (first | (with_reducible first | exact HB.out | apply a1_ | apply a2_ | apply a3_) | exact HB.out)⟩⟩
    ·rw [if_neg c11] at H
     have c11b0 : decide (300 < (a1.size : Int)) = false := decide_eq_false c11
     have c11b1 : decide (300 < a1.size) = false := decide_eq_false (by omega)
     clear c11
     (first | rw [c11b0] | (simp only [i64_w, i32_w]; rw [c11b0]) | skip)
     have H' := Aside0.mk H
     clear H
     go_wp2_with (first | ((with_reducible refine gate_callee (f := 8) rfl ?_); refine goesL_ (some 13) rfl rfl Tryd.func8 (by kernel_rfl) rfl #[.slice A0 l0.length c0, .int .i64 60] rfl (by (try simp only [List.map_toArray, List.map_cons, List.map_nil]); first | done | rfl | (simp only [List.length_drop, List.length_take]; rfl)) ?_; (with_reducible refine (outlawkit_LightNotes.calls k _ _ l0 60 true _ ?side1 ?side2 A9.out).mono ?_); (case side1 => repeat (first | exact (Kd.C_below HR0.out HB.out) | (with_reducible refine Kd.C_alloc ?_ _) | (with_reducible refine Kd.C_drewN ?_ _) | (with_reducible refine Kd.C_drew ?_))); (case side2 => exact HC0.out); rintro e w13 ⟨rfl, hb⟩; refine ⟨_, rfl, ?_⟩; have n0_ := Aside0.mk (below_step (by repeat (first | (with_reducible first | exact HB.out | apply a1_ | apply a2_ | apply a3_) | exact HB.out)) hb); clear HB; have HB := n0_; clear n0_; (try clear hb); (try clear hk)))
     all_goals
      go_meet
      case rel => exact ⟨_, (decide ((a2.size : Int) > 300)), (by first | rfl | (simp; done) | (simp [*]; done) | (simp [bneNil_, beqNil_]; done) | (simp [bneNil_, beqNil_, *]; done) | (simp_all; done)), H', ⟨by first | omega | exact Nat.le_refl _⟩, ⟨by repeat (first | (with_reducible first | exact HB.out | apply a1_ | apply a2_ | apply a3_) | exact HB.out)⟩⟩
   ·replace c10 := Bool.eq_false_iff.mpr c10
    subst c10
    rw [if_neg (show ¬ (false = true) by decide)] at H
    have H' := Aside0.mk H
    clear H
    go_wp2_with (first | ((with_reducible refine gate_callee (f := 8) rfl ?_); refine goesL_ (some 13) rfl rfl Tryd.func8 (by kernel_rfl) rfl #[.slice A0 l0.length c0, .int .i64 60] rfl (by (try simp only [List.map_toArray, List.map_cons, List.map_nil]); first | done | rfl | (simp only [List.length_drop, List.length_take]; rfl)) ?_; (with_reducible refine (outlawkit_LightNotes.calls k _ _ l0 60 false _ ?side1 ?side2 A9.out).mono ?_); (case side1 => repeat (first | exact (Kd.C_below HR0.out HB.out) | (with_reducible refine Kd.C_alloc ?_ _) | (with_reducible refine Kd.C_drewN ?_ _) | (with_reducible refine Kd.C_drew ?_))); (case side2 => exact HC0.out); rintro e w14 ⟨rfl, hb⟩; refine ⟨_, rfl, ?_⟩; have n0_ := Aside0.mk (below_step (by repeat (first | (with_reducible first | exact HB.out | apply a1_ | apply a2_ | apply a3_) | exact HB.out)) hb); clear HB; have HB := n0_; clear n0_; (try clear hb); (try clear hk)))
    all_goals
     go_meet
     case rel => exact ⟨_, (true), (by first | rfl | (simp; done) | (simp [*]; done) | (simp [bneNil_, beqNil_]; done) | (simp [bneNil_, beqNil_, *]; done) | (simp_all; done)), H', ⟨by first | omega | exact Nat.le_refl _⟩, ⟨by repeat (first | (with_reducible first | exact HB.out | apply a1_ | apply a2_ | apply a3_) | exact HB.out)⟩⟩
  case rest =>
   clear HC7
   try clear c1
   try clear p2
   try clear c5
   try clear c6
   try clear c7
   try clear c8
   try clear c10
   try clear c11
   try clear c11b0
   try clear c11b1
   obtain ⟨kq, x24_6, rfl, HA, HJ6, HB⟩ := hcut
   cases kq with
   | zero => exact absurd HA.out (by simp [outlawlaw23_AuditCalls.j0])
   | succ kj6 =>
    have H := HA.out
    clear HA
    simp only [outlawlaw23_AuditCalls.j0] at H
    by_cases c15 : x24_6 = true
    ·subst c15
     rw [if_pos rfl] at H
     obtain rfl := Option.some.inj H
     go_wp2
     go_ret
     exact ⟨by first | rfl | (simp [errW_none, errW_some] <;> rfl) | (simp [*, errW_none, errW_some] <;> rfl), by repeat (first | (with_reducible first | exact HB.out | apply a1_ | apply a2_ | apply a3_) | exact HB.out)⟩
    ·replace c15 := Bool.eq_false_iff.mpr c15
     subst c15
     rw [if_neg (show ¬ (false = true) by decide)] at H
     have H' := Aside0.mk H
     clear H
     go_wp2
     go_loopg [9] kj6 (fun kq v9 w' => ∃ (x9_2 : Int), v9 = .int .i64 x9_2 ∧ Aside0 (outlawlaw23_AuditCalls.l0 kq l0 a1 a2 a3 x9_2 = some r) ∧ Aside0 (kq ≤ kj6) ∧ Aside0 (Below w.heap.size w w'))
     case atStart => exact ⟨(0), (by first | rfl | (simp; done) | (simp [*]; done) | (simp [bneNil_, beqNil_]; done) | (simp [bneNil_, beqNil_, *]; done) | (simp_all; done)), H', ⟨Nat.le_refl _⟩, ⟨by repeat (first | (with_reducible first | exact HB.out | apply a1_ | apply a2_ | apply a3_) | exact HB.out)⟩⟩
     case round =>
      clear H'
      try clear c1
      try clear p2
      try clear c5
      try clear c6
      try clear c7
      try clear c8
      try clear c10
      try clear c11
      try clear c11b0
      try clear c11b1
      try clear c15
      try clear p2
      obtain ⟨x9_2, rfl, HA, HK2, HB⟩ := hrel
      cases gk with
      | zero => exact absurd HA.out (by simp [outlawlaw23_AuditCalls.l0])
      | succ k2 =>
       have H := HA.out
       clear HA
       simp only [outlawlaw23_AuditCalls.l0] at H
       by_cases c16 : x9_2 < (l0.length : Int)
       ·rw [if_pos c16] at H
        have c16b0 : decide (x9_2 < (l0.length : Int)) = true := decide_eq_true c16
        clear c16
        by_cases c17 : 0 ≤ x9_2
        ·rw [if_pos c17] at H
         have c17b0 : decide (0 ≤ x9_2) = true := decide_eq_true c17
         clear c17
         replace H := Option.bind_eq_some_iff.mp H
         obtain ⟨t257, A180, H⟩ := H
         have A18 := Aside0.mk A180
         clear A180
         replace H := Option.bind_eq_some_iff.mp H
         obtain ⟨t259, A190, H⟩ := H
         have A19 := Aside0.mk A190
         clear A190
         by_cases c20 : t257.toList = t259.toList
         ·rw [if_pos c20] at H
          have c20b0 : (t257.toList == t259.toList) = true := beq_iff_eq.mpr c20
          have c20b1 : (t257.toList != t259.toList) = false := bne_eq_false_iff_eq.mpr c20
          clear c20
          have H' := Aside0.mk H
          clear H
          try go_wp2
          have n0_ := Aside0.mk (below_drew1 HB.out)
          clear HB
          have HB := n0_
          clear n0_
          have p256 : 0 ≤ (x9_2 : Int) := of_decide_eq_true (by first | (with_reducible assumption) | assumption)
          have q256 : x9_2 < (l0.length : Int) := of_decide_eq_true (by first | (with_reducible assumption) | assumption)
          obtain ⟨ad256, e256, hx256_0, hx256_1, hx256_2, hx256_3, hx256_4, hx256_5, hx256_6, hx256_7, hx256_8⟩ := at_T30 HR0.out x9_2 p256 q256
          have hw256_8 := hx256_8
          have hw256_7 := hx256_7
          have hw256_6 := hx256_6
          have hw256_5 := hx256_5
          have hw256_4 := hx256_4
          have hw256_3 := hx256_3
          have hw256_2 := hx256_2
          have hw256_1 := hx256_1
          have hw256_0 := hx256_0
          cases e256
          replace hx256_0 := up_ HB.out hx256_0
          replace hx256_1 := up_ HB.out hx256_1
          replace hx256_2 := up_ HB.out hx256_2
          replace hx256_3 := up_ HB.out hx256_3
          replace hx256_4 := up_ HB.out hx256_4
          replace hx256_5 := up_ HB.out hx256_5
          replace hx256_6 := up_ HB.out hx256_6
          replace hx256_7 := up_ HB.out hx256_7
          replace hx256_8 := up_ HB.out hx256_8
          replace p256 := eq_true p256
          replace q256 := eq_true q256
          have p258 : 0 ≤ (x9_2 : Int) := of_decide_eq_true (by first | (with_reducible assumption) | assumption)
          have q258 : x9_2 < (l0.length : Int) := of_decide_eq_true (by first | (with_reducible assumption) | assumption)
          obtain ⟨ad258, e258, hx258_0, hx258_1, hx258_2, hx258_3, hx258_4, hx258_5, hx258_6, hx258_7, hx258_8⟩ := at_T30 HR0.out x9_2 p258 q258
          have hw258_8 := hx258_8
          have hw258_7 := hx258_7
          have hw258_6 := hx258_6
          have hw258_5 := hx258_5
          have hw258_4 := hx258_4
          have hw258_3 := hx258_3
          have hw258_2 := hx258_2
          have hw258_1 := hx258_1
          have hw258_0 := hx258_0
          obtain rfl : ad256 = ad258 := (by injection e258)
          replace hx258_0 := up_ HB.out hx258_0
          replace hx258_1 := up_ HB.out hx258_1
          replace hx258_2 := up_ HB.out hx258_2
          replace hx258_3 := up_ HB.out hx258_3
          replace hx258_4 := up_ HB.out hx258_4
          replace hx258_5 := up_ HB.out hx258_5
          replace hx258_6 := up_ HB.out hx258_6
          replace hx258_7 := up_ HB.out hx258_7
          replace hx258_8 := up_ HB.out hx258_8
          replace p258 := eq_true p258
          replace q258 := eq_true q258
          refine start_ (n := 11) (S := fun w' => w'.cell? (ad256.add ((x9_2).toNat * 9)) = some (.int .i64 ((rd_T30 l0 x9_2).f0)) ∧ w'.cell? ⟨(ad256.add ((x9_2).toNat * 9)).block, (ad256.add ((x9_2).toNat * 9)).off + 1, none⟩ = some (.int .i64 ((rd_T30 l0 x9_2).f1)) ∧ w'.cell? ⟨(ad256.add ((x9_2).toNat * 9)).block, (ad256.add ((x9_2).toNat * 9)).off + 2, none⟩ = some (.int .i64 ((rd_T30 l0 x9_2).f2.f0)) ∧ w'.cell? ⟨(ad256.add ((x9_2).toNat * 9)).block, (ad256.add ((x9_2).toNat * 9)).off + 3, none⟩ = some (.string ((rd_T30 l0 x9_2).f2.f1)) ∧ w'.cell? ⟨(ad256.add ((x9_2).toNat * 9)).block, (ad256.add ((x9_2).toNat * 9)).off + 4, none⟩ = some (.string ((rd_T30 l0 x9_2).f2.f2)) ∧ w'.cell? ⟨(ad256.add ((x9_2).toNat * 9)).block, (ad256.add ((x9_2).toNat * 9)).off + 5, none⟩ = some (.string ((rd_T30 l0 x9_2).f2.f3)) ∧ w'.cell? ⟨(ad256.add ((x9_2).toNat * 9)).block, (ad256.add ((x9_2).toNat * 9)).off + 6, none⟩ = some (.string ((rd_T30 l0 x9_2).f2.f4)) ∧ w'.cell? ⟨(ad256.add ((x9_2).toNat * 9)).block, (ad256.add ((x9_2).toNat * 9)).off + 7, none⟩ = some (.int .i64 ((rd_T30 l0 x9_2).f3)) ∧ w'.cell? ⟨(ad256.add ((x9_2).toNat * 9)).block, (ad256.add ((x9_2).toNat * 9)).off + 8, none⟩ = some (.string ((rd_T30 l0 x9_2).f4)) ∧ w'.cell? (ad256.add ((x9_2).toNat * 9)) = some (.int .i64 ((rd_T30 l0 x9_2).f0)) ∧ w'.cell? ⟨(ad256.add ((x9_2).toNat * 9)).block, (ad256.add ((x9_2).toNat * 9)).off + 1, none⟩ = some (.int .i64 ((rd_T30 l0 x9_2).f1)) ∧ w'.cell? ⟨(ad256.add ((x9_2).toNat * 9)).block, (ad256.add ((x9_2).toNat * 9)).off + 2, none⟩ = some (.int .i64 ((rd_T30 l0 x9_2).f2.f0)) ∧ w'.cell? ⟨(ad256.add ((x9_2).toNat * 9)).block, (ad256.add ((x9_2).toNat * 9)).off + 3, none⟩ = some (.string ((rd_T30 l0 x9_2).f2.f1)) ∧ w'.cell? ⟨(ad256.add ((x9_2).toNat * 9)).block, (ad256.add ((x9_2).toNat * 9)).off + 4, none⟩ = some (.string ((rd_T30 l0 x9_2).f2.f2)) ∧ w'.cell? ⟨(ad256.add ((x9_2).toNat * 9)).block, (ad256.add ((x9_2).toNat * 9)).off + 5, none⟩ = some (.string ((rd_T30 l0 x9_2).f2.f3)) ∧ w'.cell? ⟨(ad256.add ((x9_2).toNat * 9)).block, (ad256.add ((x9_2).toNat * 9)).off + 6, none⟩ = some (.string ((rd_T30 l0 x9_2).f2.f4)) ∧ w'.cell? ⟨(ad256.add ((x9_2).toNat * 9)).block, (ad256.add ((x9_2).toNat * 9)).off + 7, none⟩ = some (.int .i64 ((rd_T30 l0 x9_2).f3)) ∧ w'.cell? ⟨(ad256.add ((x9_2).toNat * 9)).block, (ad256.add ((x9_2).toNat * 9)).off + 8, none⟩ = some (.string ((rd_T30 l0 x9_2).f4))) (ds := []) #[F_,F_,F_,F_,F_,F_,F_,F_,F_,F_,F_] (by kernel_rfl) rfl rfl ⟨(up_ HB.out hw256_0), (up_ HB.out hw256_1), (up_ HB.out hw256_2), (up_ HB.out hw256_3), (up_ HB.out hw256_4), (up_ HB.out hw256_5), (up_ HB.out hw256_6), (up_ HB.out hw256_7), (up_ HB.out hw256_8), (up_ HB.out hw258_0), (up_ HB.out hw258_1), (up_ HB.out hw258_2), (up_ HB.out hw258_3), (up_ HB.out hw258_4), (up_ HB.out hw258_5), (up_ HB.out hw258_6), (up_ HB.out hw258_7), (up_ HB.out hw258_8)⟩ (fun hHeld => ?_); refine with_tabW outlawlaw23_AuditCalls.tab8 outlawlaw23_AuditCalls.bits8 (fun HT_ HW_ => ?_)
          generalize wr.drew = w21 at HB hx256_0 hx256_1 hx256_2 hx256_3 hx256_4 hx256_5 hx256_6 hx256_7 hx256_8 hx258_0 hx258_1 hx258_2 hx258_3 hx258_4 hx258_5 hx258_6 hx258_7 hx258_8 hHeld ⊢
          refine pq_ 0 31 (mb_ 11 1) HT_.out ?_
          refine pq_ 1 32 (mb_ 11 3) HT_.out ?_
          refine pq_ 2 33 (mb_ 11 7) HT_.out ?_
          refine pq_ 5 36 (mb_ 11 39) HT_.out ?_
          refine pq_ 6 37 (mb_ 11 103) HT_.out ?_
          refine pq_ 7 38 (mb_ 11 231) HT_.out ?_
          refine tq_ 3 34 (mb_ 11 239) HT_.out HW_.out hHeld ?_ (hr := by rintro w' ⟨s0, s1, s2, s3, s4, s5, s6, s7, s8, s9, s10, s11, s12, s13, s14, s15, s16, s17⟩; go_simp; with_reducible rfl)
          refine tq_ 8 39 (mb_ 11 495) HT_.out HW_.out hHeld ?_ (hr := by rintro w' ⟨s0, s1, s2, s3, s4, s5, s6, s7, s8, s9, s10, s11, s12, s13, s14, s15, s16, s17⟩; go_simp; with_reducible rfl)
          refine one_ (i := 4) (N := some 35) (mb_ 11 511) rfl rfl (one_of HT_.out (by kernel_rfl)) (by decide) (fun K hK => ?_)
          refine goes_ Tryd.func10 (by kernel_rfl) rfl #[.agg #[.int .i64 ((rd_T30 l0 x9_2).f0), .int .i64 ((rd_T30 l0 x9_2).f1), .int .i64 ((rd_T30 l0 x9_2).f2.f0), .string ((rd_T30 l0 x9_2).f2.f1), .string ((rd_T30 l0 x9_2).f2.f2), .string ((rd_T30 l0 x9_2).f2.f3), .string ((rd_T30 l0 x9_2).f2.f4), .int .i64 ((rd_T30 l0 x9_2).f3), .string ((rd_T30 l0 x9_2).f4)]] (by rfl) rfl rfl (by (try simp only [List.map_toArray, List.map_cons, List.map_nil]); first | done | rfl | (simp only [List.length_drop, List.length_take]; rfl)) ?_
          with_reducible refine (audit_Line.calls ((rd_T30 l0 x9_2).f0) ((rd_T30 l0 x9_2).f1) ((rd_T30 l0 x9_2).f2.f0) ((rd_T30 l0 x9_2).f2.f1) ((rd_T30 l0 x9_2).f2.f2) ((rd_T30 l0 x9_2).f2.f3) ((rd_T30 l0 x9_2).f2.f4) ((rd_T30 l0 x9_2).f3) ((rd_T30 l0 x9_2).f4) t257 _ ?side1 A18.out).mono ?_
          (case side1 => exact Tab.at HTTab_.out (by repeat (first | (with_reducible first | exact HB.out | apply a1_ | apply a2_ | apply a3_) | exact HB.out)))
          rintro e w22 ⟨rfl, hb⟩
          refine ⟨_, rfl, ?_⟩
          have n0_ := Aside0.mk (below_step (by repeat (first | (with_reducible first | exact HB.out | apply a1_ | apply a2_ | apply a3_) | exact HB.out)) hb)
          clear HB
          have HB := n0_
          clear n0_
          (try clear hb)
          (try clear hb2)
          (try clear hk)
          (try clear hi)
          refine hK.out _ _ ⟨(up_ HB.out hw256_0), (up_ HB.out hw256_1), (up_ HB.out hw256_2), (up_ HB.out hw256_3), (up_ HB.out hw256_4), (up_ HB.out hw256_5), (up_ HB.out hw256_6), (up_ HB.out hw256_7), (up_ HB.out hw256_8), (up_ HB.out hw258_0), (up_ HB.out hw258_1), (up_ HB.out hw258_2), (up_ HB.out hw258_3), (up_ HB.out hw258_4), (up_ HB.out hw258_5), (up_ HB.out hw258_6), (up_ HB.out hw258_7), (up_ HB.out hw258_8)⟩ (fun hHeld => ?_)
          clear hK K
          refine norm_ (a' := ?_) ?_ ?_
          rotate_left
          ·show Act.put _ (some 35) _ = _
           simp only [Act.put, List.setIfInBounds_toArray, List.set_cons_zero, List.set_cons_succ, i64_w, i32_w]
           rfl
          refine one_ (i := 9) (N := some 40) (mb_ 11 1023) rfl rfl (one_of HT_.out (by kernel_rfl)) (by decide) (fun K hK => ?_)
          refine goes_ Tryd.func18 (by kernel_rfl) rfl #[.agg #[.int .i64 ((rd_T30 l0 x9_2).f0), .int .i64 ((rd_T30 l0 x9_2).f1), .int .i64 ((rd_T30 l0 x9_2).f2.f0), .string ((rd_T30 l0 x9_2).f2.f1), .string ((rd_T30 l0 x9_2).f2.f2), .string ((rd_T30 l0 x9_2).f2.f3), .string ((rd_T30 l0 x9_2).f2.f4), .int .i64 ((rd_T30 l0 x9_2).f3), .string ((rd_T30 l0 x9_2).f4)]] (by rfl) rfl rfl (by (try simp only [List.map_toArray, List.map_cons, List.map_nil]); first | done | rfl | (simp only [List.length_drop, List.length_take]; rfl)) ?_
          with_reducible refine (outlawref23_Line.calls k2 ((rd_T30 l0 x9_2).f0) ((rd_T30 l0 x9_2).f1) ((rd_T30 l0 x9_2).f2.f0) ((rd_T30 l0 x9_2).f2.f1) ((rd_T30 l0 x9_2).f2.f2) ((rd_T30 l0 x9_2).f2.f3) ((rd_T30 l0 x9_2).f2.f4) ((rd_T30 l0 x9_2).f3) ((rd_T30 l0 x9_2).f4) t259 _ A19.out).mono ?_
          rintro e w23 ⟨rfl, hb⟩
          refine ⟨_, rfl, ?_⟩
          have n0_ := Aside0.mk (below_step (by repeat (first | (with_reducible first | exact HB.out | apply a1_ | apply a2_ | apply a3_) | exact HB.out)) hb)
          clear HB
          have HB := n0_
          clear n0_
          (try clear hb)
          (try clear hb2)
          (try clear hk)
          (try clear hi)
          refine hK.out _ _ ⟨(up_ HB.out hw256_0), (up_ HB.out hw256_1), (up_ HB.out hw256_2), (up_ HB.out hw256_3), (up_ HB.out hw256_4), (up_ HB.out hw256_5), (up_ HB.out hw256_6), (up_ HB.out hw256_7), (up_ HB.out hw256_8), (up_ HB.out hw258_0), (up_ HB.out hw258_1), (up_ HB.out hw258_2), (up_ HB.out hw258_3), (up_ HB.out hw258_4), (up_ HB.out hw258_5), (up_ HB.out hw258_6), (up_ HB.out hw258_7), (up_ HB.out hw258_8)⟩ (fun hHeld => ?_)
          clear hK K
          refine norm_ (a' := ?_) ?_ ?_
          rotate_left
          ·show Act.put _ (some 40) _ = _
           simp only [Act.put, List.setIfInBounds_toArray, List.set_cons_zero, List.set_cons_succ, i64_w, i32_w]
           rfl
          refine pq_ 10 41 (mb_ 11 2047) HT_.out ?_
          refine done_ (done_of HT_.out (by kernel_rfl)) ?_
          try go_wp2
          go_roundg k2
          case measure => have := HJ6.out; have := HK2.out; omega
          case rel => exact ⟨(wrap64 (x9_2 + 1)), (by first | rfl | (simp; done) | (simp [*]; done) | (simp [bneNil_, beqNil_]; done) | (simp [bneNil_, beqNil_, *]; done) | (simp_all; done)), H', ⟨by have := HJ6.out; have := HK2.out; omega⟩, ⟨by repeat (first | (with_reducible first | exact HB.out | apply a1_ | apply a2_ | apply a3_) | exact HB.out)⟩⟩
         ·rw [if_neg c20] at H
          have c20b0 : (t257.toList == t259.toList) = false := beq_eq_false_iff_ne.mpr c20
          have c20b1 : (t257.toList != t259.toList) = true := bne_iff_ne.mpr c20
          exact absurd ((Option.some.inj H).trans hr_.out) (by decide)
        ·rw [if_neg c17] at H
         exact absurd H (by simp)
       ·rw [if_neg c16] at H
        have c16b0 : decide (x9_2 < (l0.length : Int)) = false := decide_eq_false c16
        clear c16
        replace H := Option.bind_eq_some_iff.mp H
        obtain ⟨t260, A240, H⟩ := H
        have A24 := Aside0.mk A240
        clear A240
        replace H := Option.bind_eq_some_iff.mp H
        obtain ⟨t261, A250, H⟩ := H
        have A25 := Aside0.mk A250
        clear A250
        by_cases c26 : t260 = t261
        ·rw [if_pos c26] at H
         have c26b0 : (t260 == t261) = true := beq_iff_eq.mpr c26
         have c26b1 : (t260 != t261) = false := bne_eq_false_iff_eq.mpr c26
         clear c26
         replace H := Option.bind_eq_some_iff.mp H
         obtain ⟨t262, A270, H⟩ := H
         have A27 := Aside0.mk A270
         clear A270
         replace H := Option.bind_eq_some_iff.mp H
         obtain ⟨t263, A280, H⟩ := H
         have A28 := Aside0.mk A280
         clear A280
         by_cases c29 : (t262 == t263) = true
         ·rw [if_pos c29] at H
          have c29b0 : (t262 == t263) = true := c29
          (try (have c29b1 : decide (t262 = t263) = true := by simpa using c29))
          (try (have c29b2 : (t262 == t263) = true := by simpa using c29))
          clear c29
          replace H := Option.bind_eq_some_iff.mp H
          obtain ⟨t264, A300, H⟩ := H
          have A30 := Aside0.mk A300
          clear A300
          replace H := Option.bind_eq_some_iff.mp H
          obtain ⟨t267, A310, H⟩ := H
          have A31 := Aside0.mk A310
          clear A310
          replace H := Option.bind_eq_some_iff.mp H
          obtain ⟨t270, A320, H⟩ := H
          have A32 := Aside0.mk A320
          clear A320
          by_cases c33 : t270 = true
          ·subst c33
           rw [if_pos rfl] at H
           replace H := Option.bind_eq_some_iff.mp H
           obtain ⟨t271, A340, H⟩ := H
           have A34 := Aside0.mk A340
           clear A340
           replace H := Option.bind_eq_some_iff.mp H
           obtain ⟨t274, A350, H⟩ := H
           have A35 := Aside0.mk A350
           clear A350
           replace H := Option.bind_eq_some_iff.mp H
           obtain ⟨t277, A360, H⟩ := H
           have A36 := Aside0.mk A360
           clear A360
           by_cases c37 : t277 = true
           ·subst c37
            rw [if_pos rfl] at H
            replace H := Option.bind_eq_some_iff.mp H
            obtain ⟨t278, A380, H⟩ := H
            have A38 := Aside0.mk A380
            clear A380
            replace H := Option.bind_eq_some_iff.mp H
            obtain ⟨t281, A390, H⟩ := H
            have A39 := Aside0.mk A390
            clear A390
            replace H := Option.bind_eq_some_iff.mp H
            obtain ⟨t284, A400, H⟩ := H
            have A40 := Aside0.mk A400
            clear A400
            by_cases c41 : t284 = true
            ·subst c41
             rw [if_pos rfl] at H
             replace H := Option.bind_eq_some_iff.mp H
             obtain ⟨t285, A420, H⟩ := H
             have A42 := Aside0.mk A420
             clear A420
             replace H := Option.bind_eq_some_iff.mp H
             obtain ⟨t286, A430, H⟩ := H
             have A43 := Aside0.mk A430
             clear A430
             obtain rfl := Option.some.inj H
             go_wp2_with (first | ((first | ((with_reducible refine gate_callee (f := 16) rfl ?_); refine goesL_ (some 43) rfl rfl Tryd.func16 (by kernel_rfl) rfl #[.slice A0 l0.length c0] rfl (by (try simp only [List.map_toArray, List.map_cons, List.map_nil]); first | done | rfl | (simp only [List.length_drop, List.length_take]; rfl)) ?_; (with_reducible refine (audit_Life.calls _ _ l0 t260 _ ?side1 ?side2 A24.out).mono ?_); (case side1 => repeat (first | exact (Kd.C_below HR0.out HB.out) | (with_reducible refine Kd.C_alloc ?_ _) | (with_reducible refine Kd.C_drewN ?_ _) | (with_reducible refine Kd.C_drew ?_))); (case side2 => exact HC0.out)) | ((with_reducible refine gate_callee (f := 19) rfl ?_); refine goesL_ (some 45) rfl rfl Tryd.func19 (by kernel_rfl) rfl #[.slice A0 l0.length c0] rfl (by (try simp only [List.map_toArray, List.map_cons, List.map_nil]); first | done | rfl | (simp only [List.length_drop, List.length_take]; rfl)) ?_; (with_reducible refine (outlawref23_Life.calls k2 _ _ l0 t261 _ ?side1 ?side2 A25.out).mono ?_); (case side1 => repeat (first | exact (Kd.C_below HR0.out HB.out) | (with_reducible refine Kd.C_alloc ?_ _) | (with_reducible refine Kd.C_drewN ?_ _) | (with_reducible refine Kd.C_drew ?_))); (case side2 => exact HC0.out))); rintro e w44 ⟨rfl, hb⟩; refine ⟨_, rfl, ?_⟩; have n0_ := Aside0.mk (below_step (by repeat (first | (with_reducible first | exact HB.out | apply a1_ | apply a2_ | apply a3_) | exact HB.out)) hb); clear HB; have HB := n0_; clear n0_; (try clear hb); (try clear hk)) | ((first | (go_at_call 13; (with_reducible refine (audit_Own.calls k2 _ _ l0 a1 a2 t262 _ ?side1 ?side2 A27.out).mono ?_); (case side1 => repeat (first | exact (Kd.C_below HR0.out HB.out) | (with_reducible refine Kd.C_alloc ?_ _) | (with_reducible refine Kd.C_drewN ?_ _) | (with_reducible refine Kd.C_drew ?_))); (case side2 => exact HC0.out)) | (go_at_call 20; (with_reducible refine (outlawref23_Own.calls k2 _ _ l0 a1 a2 t263 _ ?side1 ?side2 A28.out).mono ?_); (case side1 => repeat (first | exact (Kd.C_below HR0.out HB.out) | (with_reducible refine Kd.C_alloc ?_ _) | (with_reducible refine Kd.C_drewN ?_ _) | (with_reducible refine Kd.C_drew ?_))); (case side2 => exact HC0.out))); rintro e w46 ⟨rfl, hb⟩; have n0_ := Aside0.mk (below_step (by repeat (first | (with_reducible first | exact HB.out | apply a1_ | apply a2_ | apply a3_) | exact HB.out)) hb); clear HB; have HB := n0_; clear n0_; (try clear hb); (try clear hk)) | (go_at_call 15; (with_reducible refine (audit_Owned.calls _ _ l0 a1 t264 _ ?side1 ?side2 A30.out).mono ?_); (case side1 => repeat (first | exact (Kd.C_below HR0.out HB.out) | (with_reducible refine Kd.C_alloc ?_ _) | (with_reducible refine Kd.C_drewN ?_ _) | (with_reducible refine Kd.C_drew ?_))); (case side2 => exact HC0.out); rintro e w48 ⟨v265, rfl, ho0, hb⟩; have n0_ := Aside0.mk (Kd.R_lower ho0 (below_size (by repeat (first | (with_reducible first | exact HB.out | apply a1_ | apply a2_ | apply a3_) | exact HB.out)))); have n1_ := Aside0.mk (below_step (by repeat (first | (with_reducible first | exact HB.out | apply a1_ | apply a2_ | apply a3_) | exact HB.out)) hb); clear HB; have HO266 := n0_; have HB := n1_; clear n0_ n1_; (try clear hb); (try clear hk); (try clear ho0)) | (go_at_call 21; (with_reducible refine (outlawref23_Owned.calls k2 _ _ l0 a1 t267 _ ?side1 ?side2 A31.out).mono ?_); (case side1 => repeat (first | exact (Kd.C_below HR0.out HB.out) | (with_reducible refine Kd.C_alloc ?_ _) | (with_reducible refine Kd.C_drewN ?_ _) | (with_reducible refine Kd.C_drew ?_))); (case side2 => exact HC0.out); rintro e w49 ⟨v268, rfl, ho0, hb⟩; have n0_ := Aside0.mk (Kd.R_elder' (by (with_reducible repeat (first | apply Kd.R_alloc | apply Kd.R_drewN | apply Kd.R_drew)); exact HO266.out) (Kd.R_base ho0) hb); have n1_ := Aside0.mk (Kd.R_lower (Kd.R_new' ho0 (Kd.R_lt (by (with_reducible repeat (first | apply Kd.R_alloc | apply Kd.R_drewN | apply Kd.R_drew)); exact HO266.out))) (below_size (by repeat (first | (with_reducible first | exact HB.out | apply a1_ | apply a2_ | apply a3_) | exact HB.out)))); have n2_ := Aside0.mk (below_step (by repeat (first | (with_reducible first | exact HB.out | apply a1_ | apply a2_ | apply a3_) | exact HB.out)) hb); clear HO266; clear HB; have HO266 := n0_; have HO269 := n1_; have HB := n2_; clear n0_ n1_ n2_; (try clear hb); (try clear hk); (try clear ho0); obtain ⟨Ao50, co50, eo50⟩ := Kd.R_slice HO266.out; subst eo50; obtain ⟨Ao51, co51, eo51⟩ := Kd.R_slice HO269.out; subst eo51) | (go_at_call 14; (with_reducible refine (outlawkit_Same_string.calls k2 _ _ t264 _ _ t267 true _ ?side1 ?side2 ?side3 ?side4 A32.out).mono ?_); (case side1 => repeat (first | exact (Kd.R_reads' HO266.out).2.2 | (with_reducible refine Kd.C_alloc ?_ _) | (with_reducible refine Kd.C_drewN ?_ _) | (with_reducible refine Kd.C_drew ?_))); (case side2 => exact (Kd.R_reads' HO266.out).2.1); (case side3 => repeat (first | exact (Kd.R_reads' HO269.out).2.2 | (with_reducible refine Kd.C_alloc ?_ _) | (with_reducible refine Kd.C_drewN ?_ _) | (with_reducible refine Kd.C_drew ?_))); (case side4 => exact (Kd.R_reads' HO269.out).2.1); rintro e w' ⟨rfl, ⟨nd, rfl⟩⟩) | (go_at_call 17; (with_reducible refine (audit_Of.calls k2 _ _ l0 a3 t271 _ ?side1 ?side2 A34.out).mono ?_); (case side1 => repeat (first | exact (Kd.C_below HR0.out (by repeat (first | (with_reducible first | exact HB.out | apply a1_ | apply a2_ | apply a3_) | exact HB.out))) | (with_reducible refine Kd.C_alloc ?_ _) | (with_reducible refine Kd.C_drewN ?_ _) | (with_reducible refine Kd.C_drew ?_))); (case side2 => exact HC0.out); rintro e w52 ⟨v272, rfl, ho0, hb⟩; have n0_ := Aside0.mk (Kd.R_below (by (with_reducible repeat (first | apply Kd.R_alloc | apply Kd.R_drewN | apply Kd.R_drew)); exact HO266.out) hb); have n1_ := Aside0.mk (Kd.R_below (by (with_reducible repeat (first | apply Kd.R_alloc | apply Kd.R_drewN | apply Kd.R_drew)); exact HO269.out) hb); have n2_ := Aside0.mk (Kd.R_lower ho0 (below_size (by repeat (first | (with_reducible first | exact HB.out | apply a1_ | apply a2_ | apply a3_) | exact HB.out)))); have n3_ := Aside0.mk (below_step (by repeat (first | (with_reducible first | exact HB.out | apply a1_ | apply a2_ | apply a3_) | exact HB.out)) hb); clear HO266; clear HO269; clear HB; have HO266 := n0_; have HO269 := n1_; have HO273 := n2_; have HB := n3_; clear n0_ n1_ n2_ n3_; (try clear hb); (try clear hk); (try clear ho0)) | (go_at_call 23; (with_reducible refine (outlawref23_Of.calls k2 _ _ l0 a3 t274 _ ?side1 ?side2 A35.out).mono ?_); (case side1 => repeat (first | exact (Kd.C_below HR0.out HB.out) | (with_reducible refine Kd.C_alloc ?_ _) | (with_reducible refine Kd.C_drewN ?_ _) | (with_reducible refine Kd.C_drew ?_))); (case side2 => exact HC0.out); rintro e w53 ⟨v275, rfl, ho0, hb⟩; have n0_ := Aside0.mk (Kd.R_below (by (with_reducible repeat (first | apply Kd.R_alloc | apply Kd.R_drewN | apply Kd.R_drew)); exact HO266.out) hb); have n1_ := Aside0.mk (Kd.R_below (by (with_reducible repeat (first | apply Kd.R_alloc | apply Kd.R_drewN | apply Kd.R_drew)); exact HO269.out) hb); have n2_ := Aside0.mk (Kd.R_elder' (by (with_reducible repeat (first | apply Kd.R_alloc | apply Kd.R_drewN | apply Kd.R_drew)); exact HO273.out) (Kd.R_base ho0) hb); have n3_ := Aside0.mk (Kd.R_lower (Kd.R_new' ho0 (Kd.R_lt (by (with_reducible repeat (first | apply Kd.R_alloc | apply Kd.R_drewN | apply Kd.R_drew)); exact HO273.out))) (below_size (by repeat (first | (with_reducible first | exact HB.out | apply a1_ | apply a2_ | apply a3_) | exact HB.out)))); have n4_ := Aside0.mk (below_step (by repeat (first | (with_reducible first | exact HB.out | apply a1_ | apply a2_ | apply a3_) | exact HB.out)) hb); clear HO266; clear HO269; clear HO273; clear HB; have HO266 := n0_; have HO269 := n1_; have HO273 := n2_; have HO276 := n3_; have HB := n4_; clear n0_ n1_ n2_ n3_ n4_; (try clear hb); (try clear hk); (try clear ho0); obtain ⟨Ao54, co54, eo54⟩ := Kd.R_slice HO273.out; subst eo54; obtain ⟨Ao55, co55, eo55⟩ := Kd.R_slice HO276.out; subst eo55) | (go_at_call 22; (with_reducible refine (api_Note.calls k2 _ _ t271 _ _ t274 true _ ?side1 ?side2 ?side3 ?side4 A36.out).mono ?_); (case side1 => repeat (first | exact (Kd.R_reads' HO273.out).2.2 | (with_reducible refine Kd.C_alloc ?_ _) | (with_reducible refine Kd.C_drewN ?_ _) | (with_reducible refine Kd.C_drew ?_))); (case side2 => exact (Kd.R_reads' HO273.out).2.1); (case side3 => repeat (first | exact (Kd.R_reads' HO276.out).2.2 | (with_reducible refine Kd.C_alloc ?_ _) | (with_reducible refine Kd.C_drewN ?_ _) | (with_reducible refine Kd.C_drew ?_))); (case side4 => exact (Kd.R_reads' HO276.out).2.1); rintro e w' ⟨rfl, ⟨nd, rfl⟩⟩) | (go_at_call 25; (with_reducible refine (audit_Open.calls _ _ l0 t278 _ ?side1 ?side2 A38.out).mono ?_); (case side1 => repeat (first | exact (Kd.C_below HR0.out (by repeat (first | (with_reducible first | exact HB.out | apply a1_ | apply a2_ | apply a3_) | exact HB.out))) | (with_reducible refine Kd.C_alloc ?_ _) | (with_reducible refine Kd.C_drewN ?_ _) | (with_reducible refine Kd.C_drew ?_))); (case side2 => exact HC0.out); rintro e w56 ⟨v279, rfl, ho0, hb⟩; have n0_ := Aside0.mk (Kd.R_below (by (with_reducible repeat (first | apply Kd.R_alloc | apply Kd.R_drewN | apply Kd.R_drew)); exact HO266.out) hb); have n1_ := Aside0.mk (Kd.R_below (by (with_reducible repeat (first | apply Kd.R_alloc | apply Kd.R_drewN | apply Kd.R_drew)); exact HO269.out) hb); have n2_ := Aside0.mk (Kd.R_below (by (with_reducible repeat (first | apply Kd.R_alloc | apply Kd.R_drewN | apply Kd.R_drew)); exact HO273.out) hb); have n3_ := Aside0.mk (Kd.R_below (by (with_reducible repeat (first | apply Kd.R_alloc | apply Kd.R_drewN | apply Kd.R_drew)); exact HO276.out) hb); have n4_ := Aside0.mk (Kd.R_lower ho0 (below_size (by repeat (first | (with_reducible first | exact HB.out | apply a1_ | apply a2_ | apply a3_) | exact HB.out)))); have n5_ := Aside0.mk (below_step (by repeat (first | (with_reducible first | exact HB.out | apply a1_ | apply a2_ | apply a3_) | exact HB.out)) hb); clear HO266; clear HO269; clear HO273; clear HO276; clear HB; have HO266 := n0_; have HO269 := n1_; have HO273 := n2_; have HO276 := n3_; have HO280 := n4_; have HB := n5_; clear n0_ n1_ n2_ n3_ n4_ n5_; (try clear hb); (try clear hk); (try clear ho0)) | (go_at_call 26; (with_reducible refine (outlawref23_Open.calls _ _ l0 t281 _ ?side1 ?side2 A39.out).mono ?_); (case side1 => repeat (first | exact (Kd.C_below HR0.out HB.out) | (with_reducible refine Kd.C_alloc ?_ _) | (with_reducible refine Kd.C_drewN ?_ _) | (with_reducible refine Kd.C_drew ?_))); (case side2 => exact HC0.out); rintro e w57 ⟨v282, rfl, ho0, hb⟩; have n0_ := Aside0.mk (Kd.R_below (by (with_reducible repeat (first | apply Kd.R_alloc | apply Kd.R_drewN | apply Kd.R_drew)); exact HO266.out) hb); have n1_ := Aside0.mk (Kd.R_below (by (with_reducible repeat (first | apply Kd.R_alloc | apply Kd.R_drewN | apply Kd.R_drew)); exact HO269.out) hb); have n2_ := Aside0.mk (Kd.R_below (by (with_reducible repeat (first | apply Kd.R_alloc | apply Kd.R_drewN | apply Kd.R_drew)); exact HO273.out) hb); have n3_ := Aside0.mk (Kd.R_below (by (with_reducible repeat (first | apply Kd.R_alloc | apply Kd.R_drewN | apply Kd.R_drew)); exact HO276.out) hb); have n4_ := Aside0.mk (Kd.R_elder' (by (with_reducible repeat (first | apply Kd.R_alloc | apply Kd.R_drewN | apply Kd.R_drew)); exact HO280.out) (Kd.R_base ho0) hb); have n5_ := Aside0.mk (Kd.R_lower (Kd.R_new' ho0 (Kd.R_lt (by (with_reducible repeat (first | apply Kd.R_alloc | apply Kd.R_drewN | apply Kd.R_drew)); exact HO280.out))) (below_size (by repeat (first | (with_reducible first | exact HB.out | apply a1_ | apply a2_ | apply a3_) | exact HB.out)))); have n6_ := Aside0.mk (below_step (by repeat (first | (with_reducible first | exact HB.out | apply a1_ | apply a2_ | apply a3_) | exact HB.out)) hb); clear HO266; clear HO269; clear HO273; clear HO276; clear HO280; clear HB; have HO266 := n0_; have HO269 := n1_; have HO273 := n2_; have HO276 := n3_; have HO280 := n4_; have HO283 := n5_; have HB := n6_; clear n0_ n1_ n2_ n3_ n4_ n5_ n6_; (try clear hb); (try clear hk); (try clear ho0); obtain ⟨Ao58, co58, eo58⟩ := Kd.R_slice HO280.out; subst eo58; obtain ⟨Ao59, co59, eo59⟩ := Kd.R_slice HO283.out; subst eo59) | (go_at_call 24; (with_reducible refine (outlawkit_Same_int64.calls k2 _ _ t278 _ _ t281 true _ ?side1 ?side2 ?side3 ?side4 A40.out).mono ?_); (case side1 => repeat (first | exact (Kd.R_reads' HO280.out).2.2 | (with_reducible refine Kd.C_alloc ?_ _) | (with_reducible refine Kd.C_drewN ?_ _) | (with_reducible refine Kd.C_drew ?_))); (case side2 => exact (Kd.R_reads' HO280.out).2.1); (case side3 => repeat (first | exact (Kd.R_reads' HO283.out).2.2 | (with_reducible refine Kd.C_alloc ?_ _) | (with_reducible refine Kd.C_drewN ?_ _) | (with_reducible refine Kd.C_drew ?_))); (case side4 => exact (Kd.R_reads' HO283.out).2.1); rintro e w' ⟨rfl, ⟨nd, rfl⟩⟩) | ((first | (go_at_call 11; (with_reducible refine (audit_Text.calls _ _ l0 t285 _ ?side3 ?side1 ?side2 A42.out).mono ?_); (case side1 => repeat (first | exact (Kd.C_below HR0.out (by repeat (first | (with_reducible first | exact HB.out | apply a1_ | apply a2_ | apply a3_) | exact HB.out))) | (with_reducible refine Kd.C_alloc ?_ _) | (with_reducible refine Kd.C_drewN ?_ _) | (with_reducible refine Kd.C_drew ?_))); (case side2 => exact HC0.out); (case side3 => exact Tab.at HTTab_.out (by repeat (first | (with_reducible first | exact HB.out | apply a1_ | apply a2_ | apply a3_) | exact HB.out)))) | (go_at_call 27; (with_reducible refine (outlawref23_Text.calls k2 _ _ l0 t286 _ ?side1 ?side2 A43.out).mono ?_); (case side1 => repeat (first | exact (Kd.C_below HR0.out HB.out) | (with_reducible refine Kd.C_alloc ?_ _) | (with_reducible refine Kd.C_drewN ?_ _) | (with_reducible refine Kd.C_drew ?_))); (case side2 => exact HC0.out))); rintro e w60 ⟨rfl, hb⟩; have n0_ := Aside0.mk (Kd.R_below (by (with_reducible repeat (first | apply Kd.R_alloc | apply Kd.R_drewN | apply Kd.R_drew)); exact HO266.out) hb); have n1_ := Aside0.mk (Kd.R_below (by (with_reducible repeat (first | apply Kd.R_alloc | apply Kd.R_drewN | apply Kd.R_drew)); exact HO269.out) hb); have n2_ := Aside0.mk (Kd.R_below (by (with_reducible repeat (first | apply Kd.R_alloc | apply Kd.R_drewN | apply Kd.R_drew)); exact HO273.out) hb); have n3_ := Aside0.mk (Kd.R_below (by (with_reducible repeat (first | apply Kd.R_alloc | apply Kd.R_drewN | apply Kd.R_drew)); exact HO276.out) hb); have n4_ := Aside0.mk (Kd.R_below (by (with_reducible repeat (first | apply Kd.R_alloc | apply Kd.R_drewN | apply Kd.R_drew)); exact HO280.out) hb); have n5_ := Aside0.mk (Kd.R_below (by (with_reducible repeat (first | apply Kd.R_alloc | apply Kd.R_drewN | apply Kd.R_drew)); exact HO283.out) hb); have n6_ := Aside0.mk (below_step (by repeat (first | (with_reducible first | exact HB.out | apply a1_ | apply a2_ | apply a3_) | exact HB.out)) hb); clear HO266; clear HO269; clear HO273; clear HO276; clear HO280; clear HO283; clear HB; have HO266 := n0_; have HO269 := n1_; have HO273 := n2_; have HO276 := n3_; have HO280 := n4_; have HO283 := n5_; have HB := n6_; clear n0_ n1_ n2_ n3_ n4_ n5_ n6_; (try clear hb); (try clear hk)))
             go_ret
             exact ⟨by first | rfl | (simp [errW_none, errW_some] <;> rfl) | (simp [*, errW_none, errW_some] <;> rfl), by repeat (first | (with_reducible first | exact HB.out | apply a1_ | apply a2_ | apply a3_) | exact HB.out)⟩
            ·replace c41 := Bool.eq_false_iff.mpr c41
             subst c41
             rw [if_neg (show ¬ (false = true) by decide)] at H
             exact absurd ((Option.some.inj H).trans hr_.out) (by decide)
           ·replace c37 := Bool.eq_false_iff.mpr c37
            subst c37
            rw [if_neg (show ¬ (false = true) by decide)] at H
            exact absurd ((Option.some.inj H).trans hr_.out) (by decide)
          ·replace c33 := Bool.eq_false_iff.mpr c33
           subst c33
           rw [if_neg (show ¬ (false = true) by decide)] at H
           exact absurd ((Option.some.inj H).trans hr_.out) (by decide)
         ·rw [if_neg c29] at H
          have c29b0 : (t262 == t263) = false := by simpa using c29
          (try (have c29b1 : decide (t262 = t263) = false := by simpa using c29))
          (try (have c29b2 : (t262 == t263) = false := by simpa using c29))
          (try (have c29b3 : ¬ (t262 = t263) := by simpa using c29))
          clear c29
          exact absurd ((Option.some.inj H).trans hr_.out) (by decide)
        ·rw [if_neg c26] at H
         have c26b0 : (t260 == t261) = false := beq_eq_false_iff_ne.mpr c26
         have c26b1 : (t260 != t261) = true := bne_iff_ne.mpr c26
         exact absurd ((Option.some.inj H).trans hr_.out) (by decide)
 ·replace c6 := Bool.eq_false_iff.mpr c6
  subst c6
  rw [if_neg (show ¬ (false = true) by decide)] at H
  exact absurd ((Option.some.inj H).trans hr_.out) (by decide)

end Go.Proofs.YtlmhgnkkdjpkcaaDoor.PA
