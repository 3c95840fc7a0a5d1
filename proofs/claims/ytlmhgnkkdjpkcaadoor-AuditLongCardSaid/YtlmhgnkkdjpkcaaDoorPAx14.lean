-- Written by a program of this session (gprint.py, a turned print with given contracts).
import Derived.Test.YtlmhgnkkdjpkcaaDoorWm
import Derived.Test.YtlmhgnkkdjpkcaaDoorPAx0m
import Derived.Test.YtlmhgnkkdjpkcaaDoorPAx11
import Derived.Test.YtlmhgnkkdjpkcaaDoorPAx12
import Derived.Test.YtlmhgnkkdjpkcaaDoorPAx13
namespace Go.Proofs.YtlmhgnkkdjpkcaaDoor.PA
open Go.RowKit Go.Proofs.YtlmhgnkkdjpkcaaDoorW.PrintWords Go.Proofs.YtlmhgnkkdjpkcaaDoorW.PrintLast Go.Proofs.YtlmhgnkkdjpkcaaDoorW.PrintMore
attribute [local go_sem] max2_int min2_int max_two min_two max_three min_three max_four min_four   -- for this text's walks alone
set_option linter.unusedVariables false
set_option linter.unusedSimpArgs false

/-! ### outlawref23_one: function 42 -/
def outlawref23_one.j0 : Nat → List (S30) → Int → Bool → Int → Int → Int → ByteArray → ByteArray → ByteArray → ByteArray → Int → ByteArray → Option (Bool)
 | 0, _, _, _, _, _, _, _, _, _, _, _, _ => none
 | k + 1, x0, x6, x7, x221000, x221001, x221002, x221003, x221004, x221005, x221006, x221007, x221008 => if x7 = true then (some (x221001 == 0)) else (if x6 = 3 then ((outlawref23_queued.f k x0).bind fun t221 => (if x221001 = (wrap64 (t221 + 1)) then (if x221002 ≥ 1 then (some (decide (x221002 ≤ 4))) else (some false)) else (some false))) else (if x221001 > 0 then ((outlawref23_Of.f k x0 x221001).bind fun t222 => ((outlawref23_may.f k t222 x221000 x221001 x221002 x221003 x221004 x221005 x221006 x221007 x221008).bind fun t225 => (some t225))) else (some false)))
def outlawref23_one.f (k : Nat) (l0 : List (S30)) (a1_0 : Int) (a1_1 : Int) (a1_2 : Int) (a1_3 : ByteArray) (a1_4 : ByteArray) (a1_5 : ByteArray) (a1_6 : ByteArray) (a1_7 : Int) (a1_8 : ByteArray) : Option (Bool) := if a1_0 = 1 then (outlawref23_one.j0 k l0 a1_0 (a1_0 == 1) a1_0 a1_1 a1_2 a1_3 a1_4 a1_5 a1_6 a1_7 a1_8) else (if a1_0 = 2 then (outlawref23_one.j0 k l0 a1_0 (a1_0 == 2) a1_0 a1_1 a1_2 a1_3 a1_4 a1_5 a1_6 a1_7 a1_8) else (outlawref23_one.j0 k l0 a1_0 (a1_0 == 9) a1_0 a1_1 a1_2 a1_3 a1_4 a1_5 a1_6 a1_7 a1_8))
theorem outlawref23_one.mono_l : ∀ k, (∀ y0 y1 y2 y3 y4 y5 y6 y7 y8 y9 y10 y11, LeO (outlawref23_one.j0 k y0 y1 y2 y3 y4 y5 y6 y7 y8 y9 y10 y11) (outlawref23_one.j0 (k + 1) y0 y1 y2 y3 y4 y5 y6 y7 y8 y9 y10 y11))
 | 0 => fun _ _ _ _ _ _ _ _ _ _ _ _ r h => by simp [outlawref23_one.j0] at h
 | k + 1 => by
  have ih0 := outlawref23_one.mono_l k
  ·intro y0 y1 y2 y3 y4 y5 y6 y7 y8 y9 y10 y11
   unfold outlawref23_one.j0
   repeat' first
   | (with_reducible exact ih0 _ _ _ _ _ _ _ _ _ _ _ _)
   | (with_reducible exact outlawref23_Of.mono _ _ _)
   | (with_reducible exact outlawref23_may.mono _ _ _ _ _ _ _ _ _ _ _)
   | (with_reducible exact outlawref23_queued.mono _ _)
   | (with_reducible exact LeO.refl _)
   | (with_reducible exact LeO.none _)
   | (with_reducible refine LeO.ite ?_ ?_)
   | (with_reducible refine LeO.bind ?_ (fun _ => ?_))
   | refine LeO.ite ?_ ?_
   | refine LeO.bind ?_ (fun _ => ?_)
theorem outlawref23_one.mono : ∀ a0 a1 a2 a3 a4 a5 a6 a7 a8 a9 k, LeO (outlawref23_one.f k a0 a1 a2 a3 a4 a5 a6 a7 a8 a9) (outlawref23_one.f (k + 1) a0 a1 a2 a3 a4 a5 a6 a7 a8 a9) := by
 intro a0 a1 a2 a3 a4 a5 a6 a7 a8 a9 k
 have ih0 := outlawref23_one.mono_l k
 unfold outlawref23_one.f
 repeat' first
   | (with_reducible exact ih0 _ _ _ _ _ _ _ _ _ _ _ _)
   | (with_reducible exact outlawref23_Of.mono _ _ _)
   | (with_reducible exact outlawref23_may.mono _ _ _ _ _ _ _ _ _ _ _)
   | (with_reducible exact outlawref23_queued.mono _ _)
   | (with_reducible exact LeO.refl _)
   | (with_reducible exact LeO.none _)
   | (with_reducible refine LeO.ite ?_ ?_)
   | (with_reducible refine LeO.bind ?_ (fun _ => ?_))
   | refine LeO.ite ?_ ?_
   | refine LeO.bind ?_ (fun _ => ?_)
def outlawref23_one.T7 : Bool × List (List Nat × List Nat) := (true, [([], []), ([0], [0]), ([], []), ([2], [2]), ([3], [3]), ([1, 4], [1, 4]), ([5, 3], [5]), ([6], [6]), ([7, 6], [6, 7]), ([8, 6], [6, 8]), ([9, 6], [6, 9]), ([6, 10], [6, 10]), ([11, 6], [11]), ([12], [12]), ([13, 12], [12, 13]), ([14, 12], [12, 14]), ([15, 12], [12, 15]), ([12, 16], [12, 16]), ([17, 12, 0, 1, 2, 3, 4, 5, 6, 7, 8, 9, 10, 11, 12, 13, 14, 15, 16, 17], [17])])
def outlawref23_one.B7 : List Nat := [0, 1, 0, 4, 12, 31, 63, 127, 255, 511, 1023, 2047, 4095, 8191, 16383, 32767, 65535, 131071, 262143]
theorem outlawref23_one.tab7 : rtab .any (opsOf Tryd.f42 7) = outlawref23_one.T7 := by kernel_rfl
theorem outlawref23_one.bits7 : waitsOk outlawref23_one.T7.2 outlawref23_one.B7 = true := by kernel_rfl
def outlawref23_one.T8 : Bool × List (List Nat × List Nat) := (true, [([], []), ([0], [0]), ([1], [1]), ([2], [2]), ([3], [3]), ([3], [3]), ([5, 3], [3, 5]), ([4, 6, 3, 3], [3, 4, 6]), ([3], [3]), ([7, 8, 7, 3], [3, 7, 8]), ([3, 9], [3, 9]), ([10, 9, 0, 1, 2, 3, 4, 5, 6, 7, 8, 9, 10], [10])])
def outlawref23_one.B8 : List Nat := [0, 1, 3, 7, 15, 15, 47, 127, 15, 511, 1023, 2047]
theorem outlawref23_one.tab8 : rtab .any (opsOf Tryd.f42 8) = outlawref23_one.T8 := by kernel_rfl
theorem outlawref23_one.bits8 : waitsOk outlawref23_one.T8.2 outlawref23_one.B8 = true := by kernel_rfl
set_option maxHeartbeats 8000000 in
set_option maxRecDepth 100000 in
theorem outlawref23_one.calls (k : Nat) (A0 : Option Addr) (c0 : Nat) (l0 : List (S30)) (a1_0 : Int) (a1_1 : Int) (a1_2 : Int) (a1_3 : ByteArray) (a1_4 : ByteArray) (a1_5 : ByteArray) (a1_6 : ByteArray) (a1_7 : Int) (a1_8 : ByteArray) (r : Bool) (w : World) (hr0 : Kd.C k30 w A0 l0.length l0) (hc0 : l0.length ≤ c0) (h : outlawref23_one.f k l0 a1_0 a1_1 a1_2 a1_3 a1_4 a1_5 a1_6 a1_7 a1_8 = some r) :
  Calls Tryd.prog 42 #[.slice A0 l0.length c0, .agg #[.int .i64 a1_0, .int .i64 a1_1, .int .i64 a1_2, .string a1_3, .string a1_4, .string a1_5, .string a1_6, .int .i64 a1_7, .string a1_8]] w fun e w' => e = .returned (.bool r) ∧ Below w.heap.size w w' := by
 have hu30 := Tryd.underlying30
 have HR0 := Aside0.mk hr0
 have HC0 := Aside0.mk hc0
 clear hr0 hc0
 have HB := Aside0.mk (Below.refl w.heap.size w)
 have H : (if a1_0 = 1 then (outlawref23_one.j0 k l0 a1_0 (a1_0 == 1) a1_0 a1_1 a1_2 a1_3 a1_4 a1_5 a1_6 a1_7 a1_8) else (if a1_0 = 2 then (outlawref23_one.j0 k l0 a1_0 (a1_0 == 2) a1_0 a1_1 a1_2 a1_3 a1_4 a1_5 a1_6 a1_7 a1_8) else (outlawref23_one.j0 k l0 a1_0 (a1_0 == 9) a1_0 a1_1 a1_2 a1_3 a1_4 a1_5 a1_6 a1_7 a1_8))) = some r := h
 clear h
 have HC3 := Aside0.mk H
 clear H
 go_enter Tryd.func42, Tryd.ntmps42
 go_upto_if 7 with (first | ((with_reducible refine gate_dst (N := 3) rfl ?_); refine box_event ?hg (N := 3) ?hd (cs := #[.int .i64 a1_0, .int .i64 a1_1, .int .i64 a1_2, .string a1_3, .string a1_4, .string a1_5, .string a1_6, .int .i64 a1_7, .string a1_8]) (t := 30) ?hr ?_; (case hd => rfl); (case hg => rfl); (case hr => first | (go_simp; done) | (go_simp; rfl)); intro gb220 hg w4 hbox hb; have n0_ := Aside0.mk (below_step (by repeat (first | (with_reducible first | exact HB.out | apply a1_ | apply a2_ | apply a3_) | exact HB.out)) hb); have n1_ := Aside0.mk (hbox); have n2_ := Aside0.mk ((by rw [hg]; exact (below_size (by repeat (first | (with_reducible first | exact HB.out | apply a1_ | apply a2_ | apply a3_) | exact HB.out))) : w.heap.size ≤ gb220)); have n3_ := Aside0.mk ((by rw [hg]; exact (below_size (by repeat (first | (with_reducible first | exact HB.out | apply a1_ | apply a2_ | apply a3_) | exact HB.out))) : w.heap.size ≤ gb220)); clear HB; have HB := n0_; have BK220 := n1_; have GW220 := n2_; have GE220 := n3_; clear n0_ n1_ n2_ n3_; clear hb hbox hg; have hcz5_0 : w4.cell? ⟨gb220, 0, none⟩ = some (.int .i64 a1_0) := (blk_cell BK220.out 0).trans rfl; have hcz5_1 : w4.cell? ⟨gb220, 1, none⟩ = some (.int .i64 a1_1) := (blk_cell BK220.out 1).trans rfl; have hcz5_2 : w4.cell? ⟨gb220, 2, none⟩ = some (.int .i64 a1_2) := (blk_cell BK220.out 2).trans rfl; have hcz5_3 : w4.cell? ⟨gb220, 3, none⟩ = some (.string a1_3) := (blk_cell BK220.out 3).trans rfl; have hcz5_4 : w4.cell? ⟨gb220, 4, none⟩ = some (.string a1_4) := (blk_cell BK220.out 4).trans rfl; have hcz5_5 : w4.cell? ⟨gb220, 5, none⟩ = some (.string a1_5) := (blk_cell BK220.out 5).trans rfl; have hcz5_6 : w4.cell? ⟨gb220, 6, none⟩ = some (.string a1_6) := (blk_cell BK220.out 6).trans rfl; have hcz5_7 : w4.cell? ⟨gb220, 7, none⟩ = some (.int .i64 a1_7) := (blk_cell BK220.out 7).trans rfl; have hcz5_8 : w4.cell? ⟨gb220, 8, none⟩ = some (.string a1_8) := (blk_cell BK220.out 8).trans rfl; have hfz5_0 := blk_frozen BK220.out 0; have hfz5_1 := blk_frozen BK220.out 1; have hfz5_2 := blk_frozen BK220.out 2; have hfz5_3 := blk_frozen BK220.out 3; have hfz5_4 := blk_frozen BK220.out 4; have hfz5_5 := blk_frozen BK220.out 5; have hfz5_6 := blk_frozen BK220.out 6; have hfz5_7 := blk_frozen BK220.out 7; have hfz5_8 := blk_frozen BK220.out 8))
 (try simp only [Act.put, List.setIfInBounds_toArray, List.set_cons_zero, List.set_cons_succ])
 go_cut [7] (fun v7 wc => ∃ (kq : Nat) (x7_2 : Bool), v7 = .bool x7_2 ∧ Aside0 (outlawref23_one.j0 kq l0 a1_0 x7_2 a1_0 a1_1 a1_2 a1_3 a1_4 a1_5 a1_6 a1_7 a1_8 = some r) ∧ Aside0 (kq ≤ k) ∧ Aside0 (wc.heap[gb220]? = some (.cells #[.int .i64 a1_0, .int .i64 a1_1, .int .i64 a1_2, .string a1_3, .string a1_4, .string a1_5, .string a1_6, .int .i64 a1_7, .string a1_8] 30 (0, 0))) ∧ Aside0 (Below w.heap.size w wc))
 case first =>
  have H := HC3.out
  clear HC3
  by_cases c6 : a1_0 = 1
  ·rw [if_pos c6] at H
   have c6b0 : (a1_0 == 1) = true := beq_iff_eq.mpr c6
   have c6b1 : (a1_0 != 1) = false := bne_eq_false_iff_eq.mpr c6
   clear c6
   (first | rw [c6b0] | (simp only [i64_w, i32_w]; rw [c6b0]) | skip)
   have H' := Aside0.mk H
   clear H
   go_wp2
   go_meet
   case rel => exact ⟨_, ((a1_0 == 1)), (by first | rfl | (simp; done) | (simp [*]; done)), H', ⟨by first | omega | exact Nat.le_refl _⟩, ⟨by (with_reducible repeat (first | refine blk_drewN ?_ _ | refine blk_drew ?_ | refine blk_alloc ?_ _)); exact BK220.out⟩, ⟨by repeat (first | (with_reducible first | exact HB.out | apply a1_ | apply a2_ | apply a3_ | refine below_set ?_ GE220.out) | exact HB.out)⟩⟩
  ·rw [if_neg c6] at H
   have c6b0 : (a1_0 == 1) = false := beq_eq_false_iff_ne.mpr c6
   have c6b1 : (a1_0 != 1) = true := bne_iff_ne.mpr c6
   (first | rw [c6b0] | (simp only [i64_w, i32_w]; rw [c6b0]) | skip)
   by_cases c7 : a1_0 = 2
   ·rw [if_pos c7] at H
    have c7b0 : (a1_0 == 2) = true := beq_iff_eq.mpr c7
    have c7b1 : (a1_0 != 2) = false := bne_eq_false_iff_eq.mpr c7
    clear c7
    have H' := Aside0.mk H
    clear H
    go_wp2
    go_meet
    case rel => exact ⟨_, ((a1_0 == 2)), (by first | rfl | (simp; done) | (simp [*]; done)), H', ⟨by first | omega | exact Nat.le_refl _⟩, ⟨by (with_reducible repeat (first | refine blk_drewN ?_ _ | refine blk_drew ?_ | refine blk_alloc ?_ _)); exact BK220.out⟩, ⟨by repeat (first | (with_reducible first | exact HB.out | apply a1_ | apply a2_ | apply a3_ | refine below_set ?_ GE220.out) | exact HB.out)⟩⟩
   ·rw [if_neg c7] at H
    have c7b0 : (a1_0 == 2) = false := beq_eq_false_iff_ne.mpr c7
    have c7b1 : (a1_0 != 2) = true := bne_iff_ne.mpr c7
    have H' := Aside0.mk H
    clear H
    go_wp2
    go_meet
    case rel => exact ⟨_, ((a1_0 == 9)), (by first | rfl | (simp; done) | (simp [*]; done)), H', ⟨by first | omega | exact Nat.le_refl _⟩, ⟨by (with_reducible repeat (first | refine blk_drewN ?_ _ | refine blk_drew ?_ | refine blk_alloc ?_ _)); exact BK220.out⟩, ⟨by repeat (first | (with_reducible first | exact HB.out | apply a1_ | apply a2_ | apply a3_ | refine below_set ?_ GE220.out) | exact HB.out)⟩⟩
 case rest =>
  clear HC3
  try clear p2
  try clear c4
  try clear c6
  try clear c6b0
  try clear c6b1
  try clear c7
  try clear c7b0
  try clear c7b1
  try clear hcz5_0
  try clear hcz5_1
  try clear hcz5_2
  try clear hcz5_3
  try clear hcz5_4
  try clear hcz5_5
  try clear hcz5_6
  try clear hcz5_7
  try clear hcz5_8
  try clear hfz5_0
  try clear hfz5_1
  try clear hfz5_2
  try clear hfz5_3
  try clear hfz5_4
  try clear hfz5_5
  try clear hfz5_6
  try clear hfz5_7
  try clear hfz5_8
  obtain ⟨kq, x7_2, rfl, HA, HJ2, BK220, HB⟩ := hcut
  cases kq with
  | zero => exact absurd HA.out (by simp [outlawref23_one.j0])
  | succ kj2 =>
   have H := HA.out
   clear HA
   simp only [outlawref23_one.j0] at H
   by_cases c8 : x7_2 = true
   ·subst c8
    rw [if_pos rfl] at H
    obtain rfl := Option.some.inj H
    have hcz9_0 : wc.cell? ⟨gb220, 0, none⟩ = some (.int .i64 a1_0) := (blk_cell BK220.out 0).trans rfl
    have hcz9_1 : wc.cell? ⟨gb220, 1, none⟩ = some (.int .i64 a1_1) := (blk_cell BK220.out 1).trans rfl
    have hcz9_2 : wc.cell? ⟨gb220, 2, none⟩ = some (.int .i64 a1_2) := (blk_cell BK220.out 2).trans rfl
    have hcz9_3 : wc.cell? ⟨gb220, 3, none⟩ = some (.string a1_3) := (blk_cell BK220.out 3).trans rfl
    have hcz9_4 : wc.cell? ⟨gb220, 4, none⟩ = some (.string a1_4) := (blk_cell BK220.out 4).trans rfl
    have hcz9_5 : wc.cell? ⟨gb220, 5, none⟩ = some (.string a1_5) := (blk_cell BK220.out 5).trans rfl
    have hcz9_6 : wc.cell? ⟨gb220, 6, none⟩ = some (.string a1_6) := (blk_cell BK220.out 6).trans rfl
    have hcz9_7 : wc.cell? ⟨gb220, 7, none⟩ = some (.int .i64 a1_7) := (blk_cell BK220.out 7).trans rfl
    have hcz9_8 : wc.cell? ⟨gb220, 8, none⟩ = some (.string a1_8) := (blk_cell BK220.out 8).trans rfl
    have hfz9_0 := blk_frozen BK220.out 0
    have hfz9_1 := blk_frozen BK220.out 1
    have hfz9_2 := blk_frozen BK220.out 2
    have hfz9_3 := blk_frozen BK220.out 3
    have hfz9_4 := blk_frozen BK220.out 4
    have hfz9_5 := blk_frozen BK220.out 5
    have hfz9_6 := blk_frozen BK220.out 6
    have hfz9_7 := blk_frozen BK220.out 7
    have hfz9_8 := blk_frozen BK220.out 8
    go_wp2
    go_ret
    exact ⟨by first | rfl | (simp [errW_none, errW_some] <;> rfl) | (simp [*, errW_none, errW_some] <;> rfl), by repeat (first | (with_reducible first | exact HB.out | apply a1_ | apply a2_ | apply a3_ | refine below_set ?_ GE220.out) | exact HB.out)⟩
   ·replace c8 := Bool.eq_false_iff.mpr c8
    subst c8
    rw [if_neg (show ¬ (false = true) by decide)] at H
    by_cases c10 : a1_0 = 3
    ·rw [if_pos c10] at H
     have c10b0 : (a1_0 == 3) = true := beq_iff_eq.mpr c10
     have c10b1 : (a1_0 != 3) = false := bne_eq_false_iff_eq.mpr c10
     clear c10
     replace H := Option.bind_eq_some_iff.mp H
     obtain ⟨t221, A110, H⟩ := H
     have A11 := Aside0.mk A110
     clear A110
     by_cases c12 : a1_1 = (wrap64 (t221 + 1))
     ·rw [if_pos c12] at H
      have c12b0 : (a1_1 == (wrap64 (t221 + 1))) = true := beq_iff_eq.mpr c12
      have c12b1 : (a1_1 != (wrap64 (t221 + 1))) = false := bne_eq_false_iff_eq.mpr c12
      clear c12
      by_cases c13 : a1_2 ≥ 1
      ·rw [if_pos c13] at H
       have c13b0 : decide (1 ≤ a1_2) = true := decide_eq_true c13
       clear c13
       obtain rfl := Option.some.inj H
       try go_wp2
       have n0_ := Aside0.mk (blk_drew BK220.out)
       have n1_ := Aside0.mk (below_drew1 HB.out)
       clear BK220
       clear HB
       have BK220 := n0_
       have HB := n1_
       clear n0_ n1_
       refine start_ (n := 19) (S := fun w' => w'.cell? ⟨gb220, 0, none⟩ = some (.int .i64 a1_0) ∧ w'.cell? ⟨gb220, 1, none⟩ = some (.int .i64 a1_1) ∧ w'.cell? ⟨gb220, 2, none⟩ = some (.int .i64 a1_2) ∧ w'.cell? ⟨gb220, 3, none⟩ = some (.string a1_3) ∧ w'.cell? ⟨gb220, 4, none⟩ = some (.string a1_4) ∧ w'.cell? ⟨gb220, 5, none⟩ = some (.string a1_5) ∧ w'.cell? ⟨gb220, 6, none⟩ = some (.string a1_6) ∧ w'.cell? ⟨gb220, 7, none⟩ = some (.int .i64 a1_7) ∧ w'.cell? ⟨gb220, 8, none⟩ = some (.string a1_8)) (ds := []) #[F_,F_,F_,F_,F_,F_,F_,F_,F_,F_,F_,F_,F_,F_,F_,F_,F_,F_,F_] (by kernel_rfl) rfl rfl ⟨(blk_cell BK220.out 0).trans rfl, (blk_cell BK220.out 1).trans rfl, (blk_cell BK220.out 2).trans rfl, (blk_cell BK220.out 3).trans rfl, (blk_cell BK220.out 4).trans rfl, (blk_cell BK220.out 5).trans rfl, (blk_cell BK220.out 6).trans rfl, (blk_cell BK220.out 7).trans rfl, (blk_cell BK220.out 8).trans rfl⟩ (fun hHeld => ?_); refine with_tabW outlawref23_one.tab7 outlawref23_one.bits7 (fun HT_ HW_ => ?_)
       generalize wc.drew = w14 at BK220 HB hHeld ⊢
       refine pq_ 0 16 (mb_ 19 1) HT_.out ?_
       refine pq_ 2 18 (mb_ 19 5) HT_.out ?_
       refine tq_ 1 17 (mb_ 19 7) HT_.out HW_.out hHeld ?_ (hr := by rintro w' ⟨s0, s1, s2, s3, s4, s5, s6, s7, s8⟩; go_simp; with_reducible rfl)
       refine one_ (i := 3) (N := some 19) (mb_ 19 15) rfl rfl (one_of HT_.out (by kernel_rfl)) (by decide) (fun K hK => ?_)
       refine goes_ Tryd.func57 (by kernel_rfl) rfl #[.slice A0 l0.length c0] (by rfl) rfl rfl (by (try simp only [List.map_toArray, List.map_cons, List.map_nil]); first | done | rfl | (simp only [List.length_drop, List.length_take]; rfl)) ?_
       with_reducible refine (outlawref23_queued.calls kj2 _ _ l0 t221 _ ?side1 ?side2 A11.out).mono ?_
       (case side1 => repeat (first | exact (Kd.C_below HR0.out HB.out) | (with_reducible refine Kd.C_alloc ?_ _) | (with_reducible refine Kd.C_drewN ?_ _) | (with_reducible refine Kd.C_drew ?_)))
       (case side2 => exact HC0.out)
       rintro e w' ⟨rfl, ⟨nd, rfl⟩⟩
       refine ⟨_, rfl, ?_⟩
       refine hK.out _ _ ⟨(blk_cell BK220.out 0).trans rfl, (blk_cell BK220.out 1).trans rfl, (blk_cell BK220.out 2).trans rfl, (blk_cell BK220.out 3).trans rfl, (blk_cell BK220.out 4).trans rfl, (blk_cell BK220.out 5).trans rfl, (blk_cell BK220.out 6).trans rfl, (blk_cell BK220.out 7).trans rfl, (blk_cell BK220.out 8).trans rfl⟩ (fun hHeld => ?_)
       clear hK K
       refine norm_ (a' := ?_) ?_ ?_
       rotate_left
       ·show Act.put _ (some 19) _ = _
        simp only [Act.put, List.setIfInBounds_toArray, List.set_cons_zero, List.set_cons_succ, i64_w, i32_w]
        rfl
       refine pq_ 4 20 (mb_ 19 31) HT_.out ?_
       refine pq_ 5 21 (mb_ 19 63) HT_.out ?_
       refine pq_ 6 22 (mb_ 19 127) HT_.out ?_
       refine pq_ 7 23 (mb_ 19 255) HT_.out ?_
       refine pq_ 8 24 (mb_ 19 511) HT_.out ?_
       refine tq_ 9 25 (mb_ 19 1023) HT_.out HW_.out hHeld ?_ (hr := by rintro w' ⟨s0, s1, s2, s3, s4, s5, s6, s7, s8⟩; go_simp; with_reducible rfl)
       refine pq_ 10 26 (mb_ 19 2047) HT_.out ?_
       refine pq_ 11 27 (mb_ 19 4095) HT_.out ?_
       refine pq_ 12 28 (mb_ 19 8191) HT_.out ?_
       refine pq_ 13 29 (mb_ 19 16383) HT_.out ?_
       refine pq_ 14 30 (mb_ 19 32767) HT_.out ?_
       refine tq_ 15 31 (mb_ 19 65535) HT_.out HW_.out hHeld ?_ (hr := by rintro w' ⟨s0, s1, s2, s3, s4, s5, s6, s7, s8⟩; go_simp; with_reducible rfl)
       refine pq_ 16 32 (mb_ 19 131071) HT_.out ?_
       refine pq_ 17 33 (mb_ 19 262143) HT_.out ?_
       refine pq_ 18 4 (mb_ 19 524287) HT_.out ?_
       refine done_ (done_of HT_.out (by kernel_rfl)) ?_
       try go_wp2
       go_ret
       exact ⟨by first | rfl | (simp [errW_none, errW_some] <;> rfl) | (simp [*, errW_none, errW_some] <;> rfl), by repeat (first | (with_reducible first | exact HB.out | apply a1_ | apply a2_ | apply a3_ | refine below_set ?_ GE220.out) | exact HB.out)⟩
      ·rw [if_neg c13] at H
       have c13b0 : decide (1 ≤ a1_2) = false := decide_eq_false c13
       clear c13
       obtain rfl := Option.some.inj H
       try go_wp2
       have n0_ := Aside0.mk (blk_drew BK220.out)
       have n1_ := Aside0.mk (below_drew1 HB.out)
       clear BK220
       clear HB
       have BK220 := n0_
       have HB := n1_
       clear n0_ n1_
       refine start_ (n := 19) (S := fun w' => w'.cell? ⟨gb220, 0, none⟩ = some (.int .i64 a1_0) ∧ w'.cell? ⟨gb220, 1, none⟩ = some (.int .i64 a1_1) ∧ w'.cell? ⟨gb220, 2, none⟩ = some (.int .i64 a1_2) ∧ w'.cell? ⟨gb220, 3, none⟩ = some (.string a1_3) ∧ w'.cell? ⟨gb220, 4, none⟩ = some (.string a1_4) ∧ w'.cell? ⟨gb220, 5, none⟩ = some (.string a1_5) ∧ w'.cell? ⟨gb220, 6, none⟩ = some (.string a1_6) ∧ w'.cell? ⟨gb220, 7, none⟩ = some (.int .i64 a1_7) ∧ w'.cell? ⟨gb220, 8, none⟩ = some (.string a1_8)) (ds := []) #[F_,F_,F_,F_,F_,F_,F_,F_,F_,F_,F_,F_,F_,F_,F_,F_,F_,F_,F_] (by kernel_rfl) rfl rfl ⟨(blk_cell BK220.out 0).trans rfl, (blk_cell BK220.out 1).trans rfl, (blk_cell BK220.out 2).trans rfl, (blk_cell BK220.out 3).trans rfl, (blk_cell BK220.out 4).trans rfl, (blk_cell BK220.out 5).trans rfl, (blk_cell BK220.out 6).trans rfl, (blk_cell BK220.out 7).trans rfl, (blk_cell BK220.out 8).trans rfl⟩ (fun hHeld => ?_); refine with_tabW outlawref23_one.tab7 outlawref23_one.bits7 (fun HT_ HW_ => ?_)
       generalize wc.drew = w15 at BK220 HB hHeld ⊢
       refine pq_ 0 16 (mb_ 19 1) HT_.out ?_
       refine pq_ 2 18 (mb_ 19 5) HT_.out ?_
       refine tq_ 1 17 (mb_ 19 7) HT_.out HW_.out hHeld ?_ (hr := by rintro w' ⟨s0, s1, s2, s3, s4, s5, s6, s7, s8⟩; go_simp; with_reducible rfl)
       refine one_ (i := 3) (N := some 19) (mb_ 19 15) rfl rfl (one_of HT_.out (by kernel_rfl)) (by decide) (fun K hK => ?_)
       refine goes_ Tryd.func57 (by kernel_rfl) rfl #[.slice A0 l0.length c0] (by rfl) rfl rfl (by (try simp only [List.map_toArray, List.map_cons, List.map_nil]); first | done | rfl | (simp only [List.length_drop, List.length_take]; rfl)) ?_
       with_reducible refine (outlawref23_queued.calls kj2 _ _ l0 t221 _ ?side1 ?side2 A11.out).mono ?_
       (case side1 => repeat (first | exact (Kd.C_below HR0.out HB.out) | (with_reducible refine Kd.C_alloc ?_ _) | (with_reducible refine Kd.C_drewN ?_ _) | (with_reducible refine Kd.C_drew ?_)))
       (case side2 => exact HC0.out)
       rintro e w' ⟨rfl, ⟨nd, rfl⟩⟩
       refine ⟨_, rfl, ?_⟩
       refine hK.out _ _ ⟨(blk_cell BK220.out 0).trans rfl, (blk_cell BK220.out 1).trans rfl, (blk_cell BK220.out 2).trans rfl, (blk_cell BK220.out 3).trans rfl, (blk_cell BK220.out 4).trans rfl, (blk_cell BK220.out 5).trans rfl, (blk_cell BK220.out 6).trans rfl, (blk_cell BK220.out 7).trans rfl, (blk_cell BK220.out 8).trans rfl⟩ (fun hHeld => ?_)
       clear hK K
       refine norm_ (a' := ?_) ?_ ?_
       rotate_left
       ·show Act.put _ (some 19) _ = _
        simp only [Act.put, List.setIfInBounds_toArray, List.set_cons_zero, List.set_cons_succ, i64_w, i32_w]
        rfl
       refine pq_ 4 20 (mb_ 19 31) HT_.out ?_
       refine pq_ 5 21 (mb_ 19 63) HT_.out ?_
       refine pq_ 6 22 (mb_ 19 127) HT_.out ?_
       refine pq_ 7 23 (mb_ 19 255) HT_.out ?_
       refine pq_ 8 24 (mb_ 19 511) HT_.out ?_
       refine tq_ 9 25 (mb_ 19 1023) HT_.out HW_.out hHeld ?_ (hr := by rintro w' ⟨s0, s1, s2, s3, s4, s5, s6, s7, s8⟩; go_simp; with_reducible rfl)
       refine pq_ 10 26 (mb_ 19 2047) HT_.out ?_
       refine pq_ 11 27 (mb_ 19 4095) HT_.out ?_
       refine pq_ 12 28 (mb_ 19 8191) HT_.out ?_
       refine pu_ 13 29 (mb_ 19 16383) HT_.out ?_
       refine pu_ 14 30 (mb_ 19 32767) HT_.out ?_
       refine pu_ 15 31 (mb_ 19 65535) HT_.out ?_
       refine pu_ 16 32 (mb_ 19 131071) HT_.out ?_
       refine pq_ 17 33 (mb_ 19 262143) HT_.out ?_
       refine pq_ 18 4 (mb_ 19 524287) HT_.out ?_
       refine done_ (done_of HT_.out (by kernel_rfl)) ?_
       try go_wp2
       go_ret
       exact ⟨by first | rfl | (simp [errW_none, errW_some] <;> rfl) | (simp [*, errW_none, errW_some] <;> rfl), by repeat (first | (with_reducible first | exact HB.out | apply a1_ | apply a2_ | apply a3_ | refine below_set ?_ GE220.out) | exact HB.out)⟩
     ·rw [if_neg c12] at H
      have c12b0 : (a1_1 == (wrap64 (t221 + 1))) = false := beq_eq_false_iff_ne.mpr c12
      have c12b1 : (a1_1 != (wrap64 (t221 + 1))) = true := bne_iff_ne.mpr c12
      obtain rfl := Option.some.inj H
      try go_wp2
      have n0_ := Aside0.mk (blk_drew BK220.out)
      have n1_ := Aside0.mk (below_drew1 HB.out)
      clear BK220
      clear HB
      have BK220 := n0_
      have HB := n1_
      clear n0_ n1_
      refine start_ (n := 19) (S := fun w' => w'.cell? ⟨gb220, 0, none⟩ = some (.int .i64 a1_0) ∧ w'.cell? ⟨gb220, 1, none⟩ = some (.int .i64 a1_1) ∧ w'.cell? ⟨gb220, 2, none⟩ = some (.int .i64 a1_2) ∧ w'.cell? ⟨gb220, 3, none⟩ = some (.string a1_3) ∧ w'.cell? ⟨gb220, 4, none⟩ = some (.string a1_4) ∧ w'.cell? ⟨gb220, 5, none⟩ = some (.string a1_5) ∧ w'.cell? ⟨gb220, 6, none⟩ = some (.string a1_6) ∧ w'.cell? ⟨gb220, 7, none⟩ = some (.int .i64 a1_7) ∧ w'.cell? ⟨gb220, 8, none⟩ = some (.string a1_8)) (ds := []) #[F_,F_,F_,F_,F_,F_,F_,F_,F_,F_,F_,F_,F_,F_,F_,F_,F_,F_,F_] (by kernel_rfl) rfl rfl ⟨(blk_cell BK220.out 0).trans rfl, (blk_cell BK220.out 1).trans rfl, (blk_cell BK220.out 2).trans rfl, (blk_cell BK220.out 3).trans rfl, (blk_cell BK220.out 4).trans rfl, (blk_cell BK220.out 5).trans rfl, (blk_cell BK220.out 6).trans rfl, (blk_cell BK220.out 7).trans rfl, (blk_cell BK220.out 8).trans rfl⟩ (fun hHeld => ?_); refine with_tabW outlawref23_one.tab7 outlawref23_one.bits7 (fun HT_ HW_ => ?_)
      generalize wc.drew = w16 at BK220 HB hHeld ⊢
      refine pq_ 0 16 (mb_ 19 1) HT_.out ?_
      refine pq_ 2 18 (mb_ 19 5) HT_.out ?_
      refine tq_ 1 17 (mb_ 19 7) HT_.out HW_.out hHeld ?_ (hr := by rintro w' ⟨s0, s1, s2, s3, s4, s5, s6, s7, s8⟩; go_simp; with_reducible rfl)
      refine one_ (i := 3) (N := some 19) (mb_ 19 15) rfl rfl (one_of HT_.out (by kernel_rfl)) (by decide) (fun K hK => ?_)
      refine goes_ Tryd.func57 (by kernel_rfl) rfl #[.slice A0 l0.length c0] (by rfl) rfl rfl (by (try simp only [List.map_toArray, List.map_cons, List.map_nil]); first | done | rfl | (simp only [List.length_drop, List.length_take]; rfl)) ?_
      with_reducible refine (outlawref23_queued.calls kj2 _ _ l0 t221 _ ?side1 ?side2 A11.out).mono ?_
      (case side1 => repeat (first | exact (Kd.C_below HR0.out HB.out) | (with_reducible refine Kd.C_alloc ?_ _) | (with_reducible refine Kd.C_drewN ?_ _) | (with_reducible refine Kd.C_drew ?_)))
      (case side2 => exact HC0.out)
      rintro e w' ⟨rfl, ⟨nd, rfl⟩⟩
      refine ⟨_, rfl, ?_⟩
      refine hK.out _ _ ⟨(blk_cell BK220.out 0).trans rfl, (blk_cell BK220.out 1).trans rfl, (blk_cell BK220.out 2).trans rfl, (blk_cell BK220.out 3).trans rfl, (blk_cell BK220.out 4).trans rfl, (blk_cell BK220.out 5).trans rfl, (blk_cell BK220.out 6).trans rfl, (blk_cell BK220.out 7).trans rfl, (blk_cell BK220.out 8).trans rfl⟩ (fun hHeld => ?_)
      clear hK K
      refine norm_ (a' := ?_) ?_ ?_
      rotate_left
      ·show Act.put _ (some 19) _ = _
       simp only [Act.put, List.setIfInBounds_toArray, List.set_cons_zero, List.set_cons_succ, i64_w, i32_w]
       rfl
      refine pq_ 4 20 (mb_ 19 31) HT_.out ?_
      refine pq_ 5 21 (mb_ 19 63) HT_.out ?_
      refine pq_ 6 22 (mb_ 19 127) HT_.out ?_
      refine pu_ 7 23 (mb_ 19 255) HT_.out ?_
      refine pu_ 8 24 (mb_ 19 511) HT_.out ?_
      refine pu_ 9 25 (mb_ 19 1023) HT_.out ?_
      refine pu_ 10 26 (mb_ 19 2047) HT_.out ?_
      refine pq_ 11 27 (mb_ 19 4095) HT_.out ?_
      refine pq_ 12 28 (mb_ 19 8191) HT_.out ?_
      refine pu_ 13 29 (mb_ 19 16383) HT_.out ?_
      refine pu_ 14 30 (mb_ 19 32767) HT_.out ?_
      refine pu_ 15 31 (mb_ 19 65535) HT_.out ?_
      refine pu_ 16 32 (mb_ 19 131071) HT_.out ?_
      refine pq_ 17 33 (mb_ 19 262143) HT_.out ?_
      refine pq_ 18 4 (mb_ 19 524287) HT_.out ?_
      refine done_ (done_of HT_.out (by kernel_rfl)) ?_
      try go_wp2
      go_ret
      exact ⟨by first | rfl | (simp [errW_none, errW_some] <;> rfl) | (simp [*, errW_none, errW_some] <;> rfl), by repeat (first | (with_reducible first | exact HB.out | apply a1_ | apply a2_ | apply a3_ | refine below_set ?_ GE220.out) | exact HB.out)⟩
    ·rw [if_neg c10] at H
     have c10b0 : (a1_0 == 3) = false := beq_eq_false_iff_ne.mpr c10
     have c10b1 : (a1_0 != 3) = true := bne_iff_ne.mpr c10
     by_cases c17 : a1_1 > 0
     ·rw [if_pos c17] at H
      have c17b0 : decide (0 < a1_1) = true := decide_eq_true c17
      clear c17
      replace H := Option.bind_eq_some_iff.mp H
      obtain ⟨t222, A180, H⟩ := H
      have A18 := Aside0.mk A180
      clear A180
      replace H := Option.bind_eq_some_iff.mp H
      obtain ⟨t225, A190, H⟩ := H
      have A19 := Aside0.mk A190
      clear A190
      obtain rfl := Option.some.inj H
      try go_wp2
      have n0_ := Aside0.mk (blk_drew BK220.out)
      have n1_ := Aside0.mk (below_drew1 HB.out)
      clear BK220
      clear HB
      have BK220 := n0_
      have HB := n1_
      clear n0_ n1_
      refine start_ (n := 12) (S := fun w' => w'.cell? ⟨gb220, 0, none⟩ = some (.int .i64 a1_0) ∧ w'.cell? ⟨gb220, 1, none⟩ = some (.int .i64 a1_1) ∧ w'.cell? ⟨gb220, 2, none⟩ = some (.int .i64 a1_2) ∧ w'.cell? ⟨gb220, 3, none⟩ = some (.string a1_3) ∧ w'.cell? ⟨gb220, 4, none⟩ = some (.string a1_4) ∧ w'.cell? ⟨gb220, 5, none⟩ = some (.string a1_5) ∧ w'.cell? ⟨gb220, 6, none⟩ = some (.string a1_6) ∧ w'.cell? ⟨gb220, 7, none⟩ = some (.int .i64 a1_7) ∧ w'.cell? ⟨gb220, 8, none⟩ = some (.string a1_8)) (ds := []) #[F_,F_,F_,F_,F_,F_,F_,F_,F_,F_,F_,F_] (by kernel_rfl) rfl rfl ⟨(blk_cell BK220.out 0).trans rfl, (blk_cell BK220.out 1).trans rfl, (blk_cell BK220.out 2).trans rfl, (blk_cell BK220.out 3).trans rfl, (blk_cell BK220.out 4).trans rfl, (blk_cell BK220.out 5).trans rfl, (blk_cell BK220.out 6).trans rfl, (blk_cell BK220.out 7).trans rfl, (blk_cell BK220.out 8).trans rfl⟩ (fun hHeld => ?_); refine with_tabW outlawref23_one.tab8 outlawref23_one.bits8 (fun HT_ HW_ => ?_)
      generalize wc.drew = w20 at BK220 HB hHeld ⊢
      refine pq_ 0 34 (mb_ 12 1) HT_.out ?_
      refine tq_ 1 35 (mb_ 12 3) HT_.out HW_.out hHeld ?_ (hr := by rintro w' ⟨s0, s1, s2, s3, s4, s5, s6, s7, s8⟩; go_simp; with_reducible rfl)
      refine pq_ 2 36 (mb_ 12 7) HT_.out ?_
      refine pq_ 3 37 (mb_ 12 15) HT_.out ?_
      refine pq_ 4 38 (mb_ 12 31) HT_.out ?_
      refine pq_ 5 39 (mb_ 12 63) HT_.out ?_
      refine tq_ 6 40 (mb_ 12 127) HT_.out HW_.out hHeld ?_ (hr := by rintro w' ⟨s0, s1, s2, s3, s4, s5, s6, s7, s8⟩; go_simp; with_reducible rfl)
      refine tq_ 8 42 (mb_ 12 383) HT_.out HW_.out hHeld ?_ (hr := by rintro w' ⟨s0, s1, s2, s3, s4, s5, s6, s7, s8⟩; go_simp; with_reducible rfl)
      refine one_ (i := 7) (N := some 41) (mb_ 12 511) rfl rfl (one_of HT_.out (by kernel_rfl)) (by decide) (fun K hK => ?_)
      refine goes_ Tryd.func23 (by kernel_rfl) rfl #[.slice A0 l0.length c0, .int .i64 a1_1] (by rfl) rfl rfl (by (try simp only [List.map_toArray, List.map_cons, List.map_nil]); first | done | rfl | (simp only [List.length_drop, List.length_take]; rfl)) ?_
      with_reducible refine (outlawref23_Of.calls kj2 _ _ l0 a1_1 t222 _ ?side1 ?side2 A18.out).mono ?_
      (case side1 => repeat (first | exact (Kd.C_below HR0.out HB.out) | (with_reducible refine Kd.C_alloc ?_ _) | (with_reducible refine Kd.C_drewN ?_ _) | (with_reducible refine Kd.C_drew ?_)))
      (case side2 => exact HC0.out)
      rintro e w21 ⟨v223, rfl, ho0, hb⟩
      refine ⟨_, rfl, ?_⟩
      have n0_ := Aside0.mk (Kd.R_lower (Kd.R_newB ho0 (g := gb220) (o := .cells #[.int .i64 a1_0, .int .i64 a1_1, .int .i64 a1_2, .string a1_3, .string a1_4, .string a1_5, .string a1_6, .int .i64 a1_7, .string a1_8] 30 (0, 0)) (by (with_reducible repeat (first | refine blk_drewN ?_ _ | refine blk_drew ?_ | refine blk_alloc ?_ _)); exact BK220.out)) (below_size (by repeat (first | (with_reducible first | exact HB.out | apply a1_ | apply a2_ | apply a3_ | refine below_set ?_ GE220.out) | exact HB.out))))
      have n1_ := Aside0.mk (blk_below (g := gb220) (o := .cells #[.int .i64 a1_0, .int .i64 a1_1, .int .i64 a1_2, .string a1_3, .string a1_4, .string a1_5, .string a1_6, .int .i64 a1_7, .string a1_8] 30 (0, 0)) (by (with_reducible repeat (first | refine blk_drewN ?_ _ | refine blk_drew ?_ | refine blk_alloc ?_ _)); exact BK220.out) hb)
      have n2_ := Aside0.mk (below_step (by repeat (first | (with_reducible first | exact HB.out | apply a1_ | apply a2_ | apply a3_ | refine below_set ?_ GE220.out) | exact HB.out)) hb)
      clear BK220
      clear HB
      have HO224 := n0_
      have BK220 := n1_
      have HB := n2_
      clear n0_ n1_ n2_
      (try clear hb)
      (try clear hb2)
      (try clear hk)
      (try clear hi)
      (try clear ho0)
      obtain ⟨Ao22, co22, eo22⟩ := Kd.R_slice HO224.out
      (first | subst eo22 | (injection eo22 with f1_ f2_ f3_; have f4_ := f1_.symm; have f5_ := f3_.symm; clear f1_ f2_ f3_; subst f4_; subst f5_))
      refine hK.out _ _ ⟨(blk_cell BK220.out 0).trans rfl, (blk_cell BK220.out 1).trans rfl, (blk_cell BK220.out 2).trans rfl, (blk_cell BK220.out 3).trans rfl, (blk_cell BK220.out 4).trans rfl, (blk_cell BK220.out 5).trans rfl, (blk_cell BK220.out 6).trans rfl, (blk_cell BK220.out 7).trans rfl, (blk_cell BK220.out 8).trans rfl⟩ (fun hHeld => ?_)
      clear hK K
      refine norm_ (a' := ?_) ?_ ?_
      rotate_left
      ·show Act.put _ (some 41) _ = _
       simp only [Act.put, List.setIfInBounds_toArray, List.set_cons_zero, List.set_cons_succ, i64_w, i32_w]
       rfl
      refine one_ (i := 9) (N := some 43) (mb_ 12 1023) rfl rfl (one_of HT_.out (by kernel_rfl)) (by decide) (fun K hK => ?_)
      refine goes_ Tryd.func58 (by kernel_rfl) rfl #[.slice Ao22 t222.length co22, .agg #[.int .i64 a1_0, .int .i64 a1_1, .int .i64 a1_2, .string a1_3, .string a1_4, .string a1_5, .string a1_6, .int .i64 a1_7, .string a1_8]] (by rfl) rfl rfl (by (try simp only [List.map_toArray, List.map_cons, List.map_nil]); first | done | rfl | (simp only [List.length_drop, List.length_take]; rfl)) ?_
      with_reducible refine (outlawref23_may.calls kj2 _ _ t222 a1_0 a1_1 a1_2 a1_3 a1_4 a1_5 a1_6 a1_7 a1_8 t225 _ ?side1 ?side2 A19.out).mono ?_
      (case side1 => repeat (first | exact (Kd.R_reads' HO224.out).2.2 | (with_reducible refine Kd.C_alloc ?_ _) | (with_reducible refine Kd.C_drewN ?_ _) | (with_reducible refine Kd.C_drew ?_)))
      (case side2 => exact (Kd.R_reads' HO224.out).2.1)
      rintro e w23 ⟨rfl, hb⟩
      refine ⟨_, rfl, ?_⟩
      have n0_ := Aside0.mk (Kd.R_below (by (with_reducible repeat (first | apply Kd.R_alloc | apply Kd.R_drewN | apply Kd.R_drew)); exact HO224.out) hb)
      have n1_ := Aside0.mk (blk_below (g := gb220) (o := .cells #[.int .i64 a1_0, .int .i64 a1_1, .int .i64 a1_2, .string a1_3, .string a1_4, .string a1_5, .string a1_6, .int .i64 a1_7, .string a1_8] 30 (0, 0)) (by (with_reducible repeat (first | refine blk_drewN ?_ _ | refine blk_drew ?_ | refine blk_alloc ?_ _)); exact BK220.out) hb)
      have n2_ := Aside0.mk (below_step (by repeat (first | (with_reducible first | exact HB.out | apply a1_ | apply a2_ | apply a3_ | refine below_set ?_ GE220.out) | exact HB.out)) hb)
      clear HO224
      clear BK220
      clear HB
      have HO224 := n0_
      have BK220 := n1_
      have HB := n2_
      clear n0_ n1_ n2_
      (try clear hb)
      (try clear hb2)
      (try clear hk)
      (try clear hi)
      refine hK.out _ _ ⟨(blk_cell BK220.out 0).trans rfl, (blk_cell BK220.out 1).trans rfl, (blk_cell BK220.out 2).trans rfl, (blk_cell BK220.out 3).trans rfl, (blk_cell BK220.out 4).trans rfl, (blk_cell BK220.out 5).trans rfl, (blk_cell BK220.out 6).trans rfl, (blk_cell BK220.out 7).trans rfl, (blk_cell BK220.out 8).trans rfl⟩ (fun hHeld => ?_)
      clear hK K
      refine norm_ (a' := ?_) ?_ ?_
      rotate_left
      ·show Act.put _ (some 43) _ = _
       simp only [Act.put, List.setIfInBounds_toArray, List.set_cons_zero, List.set_cons_succ, i64_w, i32_w]
       rfl
      refine pq_ 10 44 (mb_ 12 2047) HT_.out ?_
      refine pq_ 11 4 (mb_ 12 4095) HT_.out ?_
      refine done_ (done_of HT_.out (by kernel_rfl)) ?_
      try go_wp2
      go_ret
      exact ⟨by first | rfl | (simp [errW_none, errW_some] <;> rfl) | (simp [*, errW_none, errW_some] <;> rfl), by repeat (first | (with_reducible first | exact HB.out | apply a1_ | apply a2_ | apply a3_ | refine below_set ?_ GE220.out) | exact HB.out)⟩
     ·rw [if_neg c17] at H
      have c17b0 : decide (0 < a1_1) = false := decide_eq_false c17
      clear c17
      obtain rfl := Option.some.inj H
      try go_wp2
      have n0_ := Aside0.mk (blk_drew BK220.out)
      have n1_ := Aside0.mk (below_drew1 HB.out)
      clear BK220
      clear HB
      have BK220 := n0_
      have HB := n1_
      clear n0_ n1_
      refine start_ (n := 12) (S := fun w' => w'.cell? ⟨gb220, 0, none⟩ = some (.int .i64 a1_0) ∧ w'.cell? ⟨gb220, 1, none⟩ = some (.int .i64 a1_1) ∧ w'.cell? ⟨gb220, 2, none⟩ = some (.int .i64 a1_2) ∧ w'.cell? ⟨gb220, 3, none⟩ = some (.string a1_3) ∧ w'.cell? ⟨gb220, 4, none⟩ = some (.string a1_4) ∧ w'.cell? ⟨gb220, 5, none⟩ = some (.string a1_5) ∧ w'.cell? ⟨gb220, 6, none⟩ = some (.string a1_6) ∧ w'.cell? ⟨gb220, 7, none⟩ = some (.int .i64 a1_7) ∧ w'.cell? ⟨gb220, 8, none⟩ = some (.string a1_8)) (ds := []) #[F_,F_,F_,F_,F_,F_,F_,F_,F_,F_,F_,F_] (by kernel_rfl) rfl rfl ⟨(blk_cell BK220.out 0).trans rfl, (blk_cell BK220.out 1).trans rfl, (blk_cell BK220.out 2).trans rfl, (blk_cell BK220.out 3).trans rfl, (blk_cell BK220.out 4).trans rfl, (blk_cell BK220.out 5).trans rfl, (blk_cell BK220.out 6).trans rfl, (blk_cell BK220.out 7).trans rfl, (blk_cell BK220.out 8).trans rfl⟩ (fun hHeld => ?_); refine with_tabW outlawref23_one.tab8 outlawref23_one.bits8 (fun HT_ HW_ => ?_)
      generalize wc.drew = w24 at BK220 HB hHeld ⊢
      refine pq_ 0 34 (mb_ 12 1) HT_.out ?_
      refine tq_ 1 35 (mb_ 12 3) HT_.out HW_.out hHeld ?_ (hr := by rintro w' ⟨s0, s1, s2, s3, s4, s5, s6, s7, s8⟩; go_simp; with_reducible rfl)
      refine pq_ 2 36 (mb_ 12 7) HT_.out ?_
      refine pq_ 3 37 (mb_ 12 15) HT_.out ?_
      refine pu_ 4 38 (mb_ 12 31) HT_.out ?_
      refine pu_ 5 39 (mb_ 12 63) HT_.out ?_
      refine pu_ 6 40 (mb_ 12 127) HT_.out ?_
      refine pu_ 7 41 (mb_ 12 255) HT_.out ?_
      refine pu_ 8 42 (mb_ 12 511) HT_.out ?_
      refine pu_ 9 43 (mb_ 12 1023) HT_.out ?_
      refine pq_ 10 44 (mb_ 12 2047) HT_.out ?_
      refine pq_ 11 4 (mb_ 12 4095) HT_.out ?_
      refine done_ (done_of HT_.out (by kernel_rfl)) ?_
      try go_wp2
      go_ret
      exact ⟨by first | rfl | (simp [errW_none, errW_some] <;> rfl) | (simp [*, errW_none, errW_some] <;> rfl), by repeat (first | (with_reducible first | exact HB.out | apply a1_ | apply a2_ | apply a3_ | refine below_set ?_ GE220.out) | exact HB.out)⟩

end Go.Proofs.YtlmhgnkkdjpkcaaDoor.PA
