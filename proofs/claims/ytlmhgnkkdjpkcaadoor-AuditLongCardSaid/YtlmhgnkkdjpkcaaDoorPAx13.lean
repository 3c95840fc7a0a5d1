-- Written by a program of this session (gprint.py, a turned print with given contracts).
import Derived.Test.YtlmhgnkkdjpkcaaDoorWm
import Derived.Test.YtlmhgnkkdjpkcaaDoorPAx0m
import Derived.Test.YtlmhgnkkdjpkcaaDoorPAx12
namespace Go.Proofs.YtlmhgnkkdjpkcaaDoor.PA
open Go.RowKit Go.Proofs.YtlmhgnkkdjpkcaaDoorW.PrintWords Go.Proofs.YtlmhgnkkdjpkcaaDoorW.PrintLast Go.Proofs.YtlmhgnkkdjpkcaaDoorW.PrintMore
attribute [local go_sem] max2_int min2_int max_two min_two max_three min_three max_four min_four   -- for this text's walks alone
set_option linter.unusedVariables false
set_option linter.unusedSimpArgs false

attribute [local go_sem high] eqA28
/-! ### outlawref23_may: function 58 -/
def outlawref23_may.j0 : Nat → List (S30) → Bool → Int → Int → Int → ByteArray → ByteArray → ByteArray → ByteArray → Int → ByteArray → Option (Bool)
 | 0, _, _, _, _, _, _, _, _, _, _, _ => none
 | k + 1, x0, x34, x215000, x215001, x215002, x215003, x215004, x215005, x215006, x215007, x215008 => if x34 = true then (some false) else (if 0 ≤ (wrap64 ((x0.length : Int) - 1)) then (if (wrap64 ((x0.length : Int) - 1)) < (x0.length : Int) then (if x215000 = 4 then (some true) else (if x215000 = 5 then (some (((rd_T30 x0 (wrap64 ((x0.length : Int) - 1))).f0) == 4)) else (if x215000 = 7 then (some (((rd_T30 x0 (wrap64 ((x0.length : Int) - 1))).f0) == 4)) else (if x215000 = 6 then (some (((rd_T30 x0 (wrap64 ((x0.length : Int) - 1))).f0) == 4)) else (if x215000 = 8 then (some (!(((rd_T30 x0 (wrap64 ((x0.length : Int) - 1))).f0) == 4))) else (some false)))))) else (none)) else (none))
def outlawref23_may.f (k : Nat) (l0 : List (S30)) (a1_0 : Int) (a1_1 : Int) (a1_2 : Int) (a1_3 : ByteArray) (a1_4 : ByteArray) (a1_5 : ByteArray) (a1_6 : ByteArray) (a1_7 : Int) (a1_8 : ByteArray) : Option (Bool) := if (l0.length : Int) = 0 then (outlawref23_may.j0 k l0 true a1_0 a1_1 a1_2 a1_3 a1_4 a1_5 a1_6 a1_7 a1_8) else (if 0 < (l0.length : Int) then (if ((rd_T30 l0 0).f0) = 3 then (if 0 ≤ (wrap64 ((l0.length : Int) - 1)) then (if (wrap64 ((l0.length : Int) - 1)) < (l0.length : Int) then ((outlawref23_ends.f ((rd_T30 l0 (wrap64 ((l0.length : Int) - 1))).f0)).bind fun t217 => (if t217 = true then (outlawref23_may.j0 k l0 true a1_0 a1_1 a1_2 a1_3 a1_4 a1_5 a1_6 a1_7 a1_8) else (outlawref23_may.j0 k l0 (!(((rd_T30 l0 0).f2.f0) == a1_2) || (!((((rd_T30 l0 0).f2.f1).toList) == a1_3.toList) || (!((((rd_T30 l0 0).f2.f2).toList) == a1_4.toList) || (!((((rd_T30 l0 0).f2.f3).toList) == a1_5.toList) || (!((((rd_T30 l0 0).f2.f4).toList) == a1_6.toList)))))) a1_0 a1_1 a1_2 a1_3 a1_4 a1_5 a1_6 a1_7 a1_8))) else (none)) else (none)) else (outlawref23_may.j0 k l0 true a1_0 a1_1 a1_2 a1_3 a1_4 a1_5 a1_6 a1_7 a1_8)) else (none))
theorem outlawref23_may.mono_l : ∀ k, (∀ y0 y1 y2 y3 y4 y5 y6 y7 y8 y9 y10, LeO (outlawref23_may.j0 k y0 y1 y2 y3 y4 y5 y6 y7 y8 y9 y10) (outlawref23_may.j0 (k + 1) y0 y1 y2 y3 y4 y5 y6 y7 y8 y9 y10))
 | 0 => fun _ _ _ _ _ _ _ _ _ _ _ r h => by simp [outlawref23_may.j0] at h
 | k + 1 => by
  have ih0 := outlawref23_may.mono_l k
  ·intro y0 y1 y2 y3 y4 y5 y6 y7 y8 y9 y10
   unfold outlawref23_may.j0
   repeat' first
   | (with_reducible exact ih0 _ _ _ _ _ _ _ _ _ _ _)
   | (with_reducible exact LeO.refl _)
   | (with_reducible exact LeO.none _)
   | (with_reducible refine LeO.ite ?_ ?_)
   | (with_reducible refine LeO.bind ?_ (fun _ => ?_))
   | refine LeO.ite ?_ ?_
   | refine LeO.bind ?_ (fun _ => ?_)
theorem outlawref23_may.mono : ∀ a0 a1 a2 a3 a4 a5 a6 a7 a8 a9 k, LeO (outlawref23_may.f k a0 a1 a2 a3 a4 a5 a6 a7 a8 a9) (outlawref23_may.f (k + 1) a0 a1 a2 a3 a4 a5 a6 a7 a8 a9) := by
 intro a0 a1 a2 a3 a4 a5 a6 a7 a8 a9 k
 have ih0 := outlawref23_may.mono_l k
 unfold outlawref23_may.f
 repeat' first
   | (with_reducible exact ih0 _ _ _ _ _ _ _ _ _ _ _)
   | (with_reducible exact LeO.refl _)
   | (with_reducible exact LeO.none _)
   | (with_reducible refine LeO.ite ?_ ?_)
   | (with_reducible refine LeO.bind ?_ (fun _ => ?_))
   | refine LeO.ite ?_ ?_
   | refine LeO.bind ?_ (fun _ => ?_)
set_option maxHeartbeats 8000000 in
set_option maxRecDepth 100000 in
theorem outlawref23_may.calls (k : Nat) (A0 : Option Addr) (c0 : Nat) (l0 : List (S30)) (a1_0 : Int) (a1_1 : Int) (a1_2 : Int) (a1_3 : ByteArray) (a1_4 : ByteArray) (a1_5 : ByteArray) (a1_6 : ByteArray) (a1_7 : Int) (a1_8 : ByteArray) (r : Bool) (w : World) (hr0 : Kd.C k30 w A0 l0.length l0) (hc0 : l0.length ≤ c0) (h : outlawref23_may.f k l0 a1_0 a1_1 a1_2 a1_3 a1_4 a1_5 a1_6 a1_7 a1_8 = some r) :
  Calls Tryd.prog 58 #[.slice A0 l0.length c0, .agg #[.int .i64 a1_0, .int .i64 a1_1, .int .i64 a1_2, .string a1_3, .string a1_4, .string a1_5, .string a1_6, .int .i64 a1_7, .string a1_8]] w fun e w' => e = .returned (.bool r) ∧ Below w.heap.size w w' := by
 have hu30 := Tryd.underlying30
 have hu28 := Tryd.underlying28
 have HR0 := Aside0.mk hr0
 have HC0 := Aside0.mk hc0
 clear hr0 hc0
 have HB := Aside0.mk (Below.refl w.heap.size w)
 have H : (if (l0.length : Int) = 0 then (outlawref23_may.j0 k l0 true a1_0 a1_1 a1_2 a1_3 a1_4 a1_5 a1_6 a1_7 a1_8) else (if 0 < (l0.length : Int) then (if ((rd_T30 l0 0).f0) = 3 then (if 0 ≤ (wrap64 ((l0.length : Int) - 1)) then (if (wrap64 ((l0.length : Int) - 1)) < (l0.length : Int) then ((outlawref23_ends.f ((rd_T30 l0 (wrap64 ((l0.length : Int) - 1))).f0)).bind fun t217 => (if t217 = true then (outlawref23_may.j0 k l0 true a1_0 a1_1 a1_2 a1_3 a1_4 a1_5 a1_6 a1_7 a1_8) else (outlawref23_may.j0 k l0 (!(((rd_T30 l0 0).f2.f0) == a1_2) || (!((((rd_T30 l0 0).f2.f1).toList) == a1_3.toList) || (!((((rd_T30 l0 0).f2.f2).toList) == a1_4.toList) || (!((((rd_T30 l0 0).f2.f3).toList) == a1_5.toList) || (!((((rd_T30 l0 0).f2.f4).toList) == a1_6.toList)))))) a1_0 a1_1 a1_2 a1_3 a1_4 a1_5 a1_6 a1_7 a1_8))) else (none)) else (none)) else (outlawref23_may.j0 k l0 true a1_0 a1_1 a1_2 a1_3 a1_4 a1_5 a1_6 a1_7 a1_8)) else (none))) = some r := h
 clear h
 have HC3 := Aside0.mk H
 clear H
 go_enter Tryd.func58, Tryd.ntmps58
 go_upto_region 1 with (first | ((with_reducible refine gate_dst (N := 3) rfl ?_); (try (refine gate_guard (by rfl) ?_; dsimp only)); refine box_event ?hg (N := 3) ?hd (cs := #[.int .i64 a1_0, .int .i64 a1_1, .int .i64 a1_2, .string a1_3, .string a1_4, .string a1_5, .string a1_6, .int .i64 a1_7, .string a1_8]) (t := 30) ?hr ?_; (case hd => rfl); (case hg => rfl); (case hr => first | (go_simp; done) | (go_simp; rfl)); intro gb214 hg w4 hbox hb; have n0_ := Aside0.mk (below_step (by repeat (first | (with_reducible first | exact HB.out | apply a1_ | apply a2_ | apply a3_) | exact HB.out)) hb); have n1_ := Aside0.mk (hbox); have n2_ := Aside0.mk ((by rw [hg]; exact (below_size (by repeat (first | (with_reducible first | exact HB.out | apply a1_ | apply a2_ | apply a3_) | exact HB.out))) : w.heap.size ≤ gb214)); have n3_ := Aside0.mk ((by rw [hg]; exact (below_size (by repeat (first | (with_reducible first | exact HB.out | apply a1_ | apply a2_ | apply a3_) | exact HB.out))) : w.heap.size ≤ gb214)); clear HB; have HB := n0_; have BK214 := n1_; have GW214 := n2_; have GE214 := n3_; clear n0_ n1_ n2_ n3_; clear hb hbox hg))
 repeat (go_quiet (first | ((with_reducible refine gate_dst (N := 3) rfl ?_); (try (refine gate_guard (by rfl) ?_; dsimp only)); refine box_event ?hg (N := 3) ?hd (cs := #[.int .i64 a1_0, .int .i64 a1_1, .int .i64 a1_2, .string a1_3, .string a1_4, .string a1_5, .string a1_6, .int .i64 a1_7, .string a1_8]) (t := 30) ?hr ?_; (case hd => rfl); (case hg => rfl); (case hr => first | (go_simp; done) | (go_simp; rfl)); intro gb214 hg w4 hbox hb; have n0_ := Aside0.mk (below_step (by repeat (first | (with_reducible first | exact HB.out | apply a1_ | apply a2_ | apply a3_) | exact HB.out)) hb); have n1_ := Aside0.mk (hbox); have n2_ := Aside0.mk ((by rw [hg]; exact (below_size (by repeat (first | (with_reducible first | exact HB.out | apply a1_ | apply a2_ | apply a3_) | exact HB.out))) : w.heap.size ≤ gb214)); have n3_ := Aside0.mk ((by rw [hg]; exact (below_size (by repeat (first | (with_reducible first | exact HB.out | apply a1_ | apply a2_ | apply a3_) | exact HB.out))) : w.heap.size ≤ gb214)); clear HB; have HB := n0_; have BK214 := n1_; have GW214 := n2_; have GE214 := n3_; clear n0_ n1_ n2_ n3_; clear hb hbox hg)); go_upto_region 1 with (first | ((with_reducible refine gate_dst (N := 3) rfl ?_); (try (refine gate_guard (by rfl) ?_; dsimp only)); refine box_event ?hg (N := 3) ?hd (cs := #[.int .i64 a1_0, .int .i64 a1_1, .int .i64 a1_2, .string a1_3, .string a1_4, .string a1_5, .string a1_6, .int .i64 a1_7, .string a1_8]) (t := 30) ?hr ?_; (case hd => rfl); (case hg => rfl); (case hr => first | (go_simp; done) | (go_simp; rfl)); intro gb214 hg w4 hbox hb; have n0_ := Aside0.mk (below_step (by repeat (first | (with_reducible first | exact HB.out | apply a1_ | apply a2_ | apply a3_) | exact HB.out)) hb); have n1_ := Aside0.mk (hbox); have n2_ := Aside0.mk ((by rw [hg]; exact (below_size (by repeat (first | (with_reducible first | exact HB.out | apply a1_ | apply a2_ | apply a3_) | exact HB.out))) : w.heap.size ≤ gb214)); have n3_ := Aside0.mk ((by rw [hg]; exact (below_size (by repeat (first | (with_reducible first | exact HB.out | apply a1_ | apply a2_ | apply a3_) | exact HB.out))) : w.heap.size ≤ gb214)); clear HB; have HB := n0_; have BK214 := n1_; have GW214 := n2_; have GE214 := n3_; clear n0_ n1_ n2_ n3_; clear hb hbox hg)))
 (try simp only [Act.put, List.setIfInBounds_toArray, List.set_cons_zero, List.set_cons_succ])
 go_cut [34] (fun v34 wc => ∃ (kq : Nat) (x34_2 : Bool), v34 = .bool x34_2 ∧ Aside0 (outlawref23_may.j0 kq l0 x34_2 a1_0 a1_1 a1_2 a1_3 a1_4 a1_5 a1_6 a1_7 a1_8 = some r) ∧ Aside0 (kq ≤ k) ∧ Aside0 (wc.heap[gb214]? = some (.cells #[.int .i64 a1_0, .int .i64 a1_1, .int .i64 a1_2, .string a1_3, .string a1_4, .string a1_5, .string a1_6, .int .i64 a1_7, .string a1_8] 30 (0, 0))) ∧ Aside0 (Below w.heap.size w wc))
 case first =>
  have H := HC3.out
  clear HC3
  by_cases c5 : (l0.length : Int) = 0
  ·rw [if_pos c5] at H
   have c5b0 : ((l0.length : Int) == 0) = true := beq_iff_eq.mpr c5
   have c5b1 : ((l0.length : Int) != 0) = false := bne_eq_false_iff_eq.mpr c5
   clear c5
   (first | rw [c5b0] | (simp only [i64_w, i32_w]; rw [c5b0]) | skip)
   have H' := Aside0.mk H
   clear H
   go_wp2
   repeat (go_quiet (fail); try go_wp2)
   go_meet
   case rel => exact ⟨_, (true), (by first | rfl | (simp; done) | (simp [*]; done)), H', ⟨by first | omega | exact Nat.le_refl _⟩, ⟨by (with_reducible repeat (first | refine blk_drewN ?_ _ | refine blk_drew ?_ | refine blk_alloc ?_ _)); exact BK214.out⟩, ⟨by repeat (first | (with_reducible first | exact HB.out | apply a1_ | apply a2_ | apply a3_ | refine below_set ?_ GE214.out) | exact HB.out)⟩⟩
  ·rw [if_neg c5] at H
   have c5b0 : ((l0.length : Int) == 0) = false := beq_eq_false_iff_ne.mpr c5
   have c5b1 : ((l0.length : Int) != 0) = true := bne_iff_ne.mpr c5
   have c5b2 : ¬ (l0 = []) := fun h_ => c5 (by rw [h_]; rfl)
   (first | rw [c5b0] | (simp only [i64_w, i32_w]; rw [c5b0]) | skip)
   by_cases c6 : 0 < (l0.length : Int)
   ·rw [if_pos c6] at H
    have c6b0 : decide (0 < (l0.length : Int)) = true := decide_eq_true c6
    have c6b1 : decide (0 < l0.length) = true := decide_eq_true (by omega)
    clear c6
    by_cases c7 : ((rd_T30 l0 0).f0) = 3
    ·rw [if_pos c7] at H
     have c7b0 : (((rd_T30 l0 0).f0) == 3) = true := beq_iff_eq.mpr c7
     have c7b1 : (((rd_T30 l0 0).f0) != 3) = false := bne_eq_false_iff_eq.mpr c7
     clear c7
     obtain ⟨ji8, hji8⟩ : ∃ j_ : Int, (wrap64 ((l0.length : Int) - 1)) = j_ := ⟨_, rfl⟩
     first | rw [hji8] at H | simp only [hji8] at H
     have hji8w : (IntKind.i64.wrap ((l0.length : Int) - 1)) = ji8 := (i64_w _).trans hji8
     by_cases c9 : 0 ≤ (ji8)
     ·rw [if_pos c9] at H
      have c9b0 : decide (0 ≤ (ji8)) = true := decide_eq_true c9
      clear c9
      by_cases c10 : (ji8) < (l0.length : Int)
      ·rw [if_pos c10] at H
       have c10b0 : decide ((ji8) < (l0.length : Int)) = true := decide_eq_true c10
       clear c10
       replace H := Option.bind_eq_some_iff.mp H
       obtain ⟨t217, A110, H⟩ := H
       have A11 := Aside0.mk A110
       clear A110
       by_cases c12 : t217 = true
       ·subst c12
        rw [if_pos rfl] at H
        have H' := Aside0.mk H
        clear H
        have p215 : 0 ≤ (0 : Int) := (by omega)
        have q215 : 0 < (l0.length : Int) := of_decide_eq_true (by first | (with_reducible assumption) | assumption)
        obtain ⟨ad215, e215, hx215_0, hx215_1, hx215_2, hx215_3, hx215_4, hx215_5, hx215_6, hx215_7, hx215_8⟩ := at_T30 HR0.out 0 p215 q215
        cases e215
        have qi215 : (0 < l0.length) = True := eq_true (by omega)
        (try rw [show ((0 : Int)).toNat = 0 from rfl] at hx215_0)
        (try rw [show 0 * 9 = 0 from rfl] at hx215_0)
        (try rw [Addr.add_zero'] at hx215_0)
        (try rw [show ((0 : Int)).toNat = 0 from rfl] at hx215_1)
        (try rw [show 0 * 9 = 0 from rfl] at hx215_1)
        (try rw [Addr.add_zero'] at hx215_1)
        (try rw [show ((0 : Int)).toNat = 0 from rfl] at hx215_2)
        (try rw [show 0 * 9 = 0 from rfl] at hx215_2)
        (try rw [Addr.add_zero'] at hx215_2)
        (try rw [show ((0 : Int)).toNat = 0 from rfl] at hx215_3)
        (try rw [show 0 * 9 = 0 from rfl] at hx215_3)
        (try rw [Addr.add_zero'] at hx215_3)
        (try rw [show ((0 : Int)).toNat = 0 from rfl] at hx215_4)
        (try rw [show 0 * 9 = 0 from rfl] at hx215_4)
        (try rw [Addr.add_zero'] at hx215_4)
        (try rw [show ((0 : Int)).toNat = 0 from rfl] at hx215_5)
        (try rw [show 0 * 9 = 0 from rfl] at hx215_5)
        (try rw [Addr.add_zero'] at hx215_5)
        (try rw [show ((0 : Int)).toNat = 0 from rfl] at hx215_6)
        (try rw [show 0 * 9 = 0 from rfl] at hx215_6)
        (try rw [Addr.add_zero'] at hx215_6)
        (try rw [show ((0 : Int)).toNat = 0 from rfl] at hx215_7)
        (try rw [show 0 * 9 = 0 from rfl] at hx215_7)
        (try rw [Addr.add_zero'] at hx215_7)
        (try rw [show ((0 : Int)).toNat = 0 from rfl] at hx215_8)
        (try rw [show 0 * 9 = 0 from rfl] at hx215_8)
        (try rw [Addr.add_zero'] at hx215_8)
        replace hx215_0 := up_ HB.out hx215_0
        replace hx215_1 := up_ HB.out hx215_1
        replace hx215_2 := up_ HB.out hx215_2
        replace hx215_3 := up_ HB.out hx215_3
        replace hx215_4 := up_ HB.out hx215_4
        replace hx215_5 := up_ HB.out hx215_5
        replace hx215_6 := up_ HB.out hx215_6
        replace hx215_7 := up_ HB.out hx215_7
        replace hx215_8 := up_ HB.out hx215_8
        replace p215 := eq_true p215
        replace q215 := eq_true q215
        have p216 : 0 ≤ ((ji8) : Int) := of_decide_eq_true (by first | (with_reducible assumption) | assumption)
        have q216 : (ji8) < (l0.length : Int) := of_decide_eq_true (by first | (with_reducible assumption) | assumption)
        obtain ⟨ad216, e216, hx216_0, hx216_1, hx216_2, hx216_3, hx216_4, hx216_5, hx216_6, hx216_7, hx216_8⟩ := at_T30 HR0.out (ji8) p216 q216
        obtain rfl : ad215 = ad216 := (by injection e216)
        replace hx216_0 := up_ HB.out hx216_0
        replace hx216_1 := up_ HB.out hx216_1
        replace hx216_2 := up_ HB.out hx216_2
        replace hx216_3 := up_ HB.out hx216_3
        replace hx216_4 := up_ HB.out hx216_4
        replace hx216_5 := up_ HB.out hx216_5
        replace hx216_6 := up_ HB.out hx216_6
        replace hx216_7 := up_ HB.out hx216_7
        replace hx216_8 := up_ HB.out hx216_8
        replace p216 := eq_true p216
        replace q216 := eq_true q216
        go_wp2_with (first | (go_at_call 61; (with_reducible refine (outlawref23_ends.calls ((rd_T30 l0 (ji8)).f0) true _ A11.out).mono ?_); rintro e w' ⟨rfl, ⟨nd, rfl⟩⟩; (try first | exact ⟨rfl, _, World.drewN_drewN _ _ _⟩ | exact ⟨rfl, _, Eq.trans (World.drewN_drewN _ _ _) (congrArg (World.drewN _) (Nat.add_assoc _ _ _))⟩)))
        repeat (go_quiet (first | (go_at_call 61; (with_reducible refine (outlawref23_ends.calls ((rd_T30 l0 (ji8)).f0) true _ A11.out).mono ?_); rintro e w' ⟨rfl, ⟨nd, rfl⟩⟩; (try first | exact ⟨rfl, _, World.drewN_drewN _ _ _⟩ | exact ⟨rfl, _, Eq.trans (World.drewN_drewN _ _ _) (congrArg (World.drewN _) (Nat.add_assoc _ _ _))⟩))); try go_wp2_with (first | (go_at_call 61; (with_reducible refine (outlawref23_ends.calls ((rd_T30 l0 (ji8)).f0) true _ A11.out).mono ?_); rintro e w' ⟨rfl, ⟨nd, rfl⟩⟩; (try first | exact ⟨rfl, _, World.drewN_drewN _ _ _⟩ | exact ⟨rfl, _, Eq.trans (World.drewN_drewN _ _ _) (congrArg (World.drewN _) (Nat.add_assoc _ _ _))⟩))))
        go_meet
        case rel => exact ⟨_, (true), (by first | rfl | (simp; done) | (simp [*]; done)), H', ⟨by first | omega | exact Nat.le_refl _⟩, ⟨by (with_reducible repeat (first | refine blk_drewN ?_ _ | refine blk_drew ?_ | refine blk_alloc ?_ _)); exact BK214.out⟩, ⟨by repeat (first | (with_reducible first | exact HB.out | apply a1_ | apply a2_ | apply a3_ | refine below_set ?_ GE214.out) | exact HB.out)⟩⟩
       ·replace c12 := Bool.eq_false_iff.mpr c12
        subst c12
        rw [if_neg (show ¬ (false = true) by decide)] at H
        have H' := Aside0.mk H
        clear H
        have p215 : 0 ≤ (0 : Int) := (by omega)
        have q215 : 0 < (l0.length : Int) := of_decide_eq_true (by first | (with_reducible assumption) | assumption)
        obtain ⟨ad215, e215, hx215_0, hx215_1, hx215_2, hx215_3, hx215_4, hx215_5, hx215_6, hx215_7, hx215_8⟩ := at_T30 HR0.out 0 p215 q215
        cases e215
        have qi215 : (0 < l0.length) = True := eq_true (by omega)
        (try rw [show ((0 : Int)).toNat = 0 from rfl] at hx215_0)
        (try rw [show 0 * 9 = 0 from rfl] at hx215_0)
        (try rw [Addr.add_zero'] at hx215_0)
        (try rw [show ((0 : Int)).toNat = 0 from rfl] at hx215_1)
        (try rw [show 0 * 9 = 0 from rfl] at hx215_1)
        (try rw [Addr.add_zero'] at hx215_1)
        (try rw [show ((0 : Int)).toNat = 0 from rfl] at hx215_2)
        (try rw [show 0 * 9 = 0 from rfl] at hx215_2)
        (try rw [Addr.add_zero'] at hx215_2)
        (try rw [show ((0 : Int)).toNat = 0 from rfl] at hx215_3)
        (try rw [show 0 * 9 = 0 from rfl] at hx215_3)
        (try rw [Addr.add_zero'] at hx215_3)
        (try rw [show ((0 : Int)).toNat = 0 from rfl] at hx215_4)
        (try rw [show 0 * 9 = 0 from rfl] at hx215_4)
        (try rw [Addr.add_zero'] at hx215_4)
        (try rw [show ((0 : Int)).toNat = 0 from rfl] at hx215_5)
        (try rw [show 0 * 9 = 0 from rfl] at hx215_5)
        (try rw [Addr.add_zero'] at hx215_5)
        (try rw [show ((0 : Int)).toNat = 0 from rfl] at hx215_6)
        (try rw [show 0 * 9 = 0 from rfl] at hx215_6)
        (try rw [Addr.add_zero'] at hx215_6)
        (try rw [show ((0 : Int)).toNat = 0 from rfl] at hx215_7)
        (try rw [show 0 * 9 = 0 from rfl] at hx215_7)
        (try rw [Addr.add_zero'] at hx215_7)
        (try rw [show ((0 : Int)).toNat = 0 from rfl] at hx215_8)
        (try rw [show 0 * 9 = 0 from rfl] at hx215_8)
        (try rw [Addr.add_zero'] at hx215_8)
        replace hx215_0 := up_ HB.out hx215_0
        replace hx215_1 := up_ HB.out hx215_1
        replace hx215_2 := up_ HB.out hx215_2
        replace hx215_3 := up_ HB.out hx215_3
        replace hx215_4 := up_ HB.out hx215_4
        replace hx215_5 := up_ HB.out hx215_5
        replace hx215_6 := up_ HB.out hx215_6
        replace hx215_7 := up_ HB.out hx215_7
        replace hx215_8 := up_ HB.out hx215_8
        replace p215 := eq_true p215
        replace q215 := eq_true q215
        have p216 : 0 ≤ ((ji8) : Int) := of_decide_eq_true (by first | (with_reducible assumption) | assumption)
        have q216 : (ji8) < (l0.length : Int) := of_decide_eq_true (by first | (with_reducible assumption) | assumption)
        obtain ⟨ad216, e216, hx216_0, hx216_1, hx216_2, hx216_3, hx216_4, hx216_5, hx216_6, hx216_7, hx216_8⟩ := at_T30 HR0.out (ji8) p216 q216
        obtain rfl : ad215 = ad216 := (by injection e216)
        replace hx216_0 := up_ HB.out hx216_0
        replace hx216_1 := up_ HB.out hx216_1
        replace hx216_2 := up_ HB.out hx216_2
        replace hx216_3 := up_ HB.out hx216_3
        replace hx216_4 := up_ HB.out hx216_4
        replace hx216_5 := up_ HB.out hx216_5
        replace hx216_6 := up_ HB.out hx216_6
        replace hx216_7 := up_ HB.out hx216_7
        replace hx216_8 := up_ HB.out hx216_8
        replace p216 := eq_true p216
        replace q216 := eq_true q216
        go_wp2_with (first | (go_at_call 61; (with_reducible refine (outlawref23_ends.calls ((rd_T30 l0 (ji8)).f0) false _ A11.out).mono ?_); rintro e w' ⟨rfl, ⟨nd, rfl⟩⟩; (try first | exact ⟨rfl, _, World.drewN_drewN _ _ _⟩ | exact ⟨rfl, _, Eq.trans (World.drewN_drewN _ _ _) (congrArg (World.drewN _) (Nat.add_assoc _ _ _))⟩); have p218 : 0 ≤ (0 : Int) := (by omega); have q218 : 0 < (l0.length : Int) := of_decide_eq_true (by first | (with_reducible assumption) | assumption); obtain ⟨ad218, e218, hx218_0, hx218_1, hx218_2, hx218_3, hx218_4, hx218_5, hx218_6, hx218_7, hx218_8⟩ := at_T30 HR0.out 0 p218 q218; obtain rfl : ad215 = ad218 := (by injection e218); have qi218 : (0 < l0.length) = True := eq_true (by omega); (try rw [show ((0 : Int)).toNat = 0 from rfl] at hx218_0); (try rw [show 0 * 9 = 0 from rfl] at hx218_0); (try rw [Addr.add_zero'] at hx218_0); (try rw [show ((0 : Int)).toNat = 0 from rfl] at hx218_1); (try rw [show 0 * 9 = 0 from rfl] at hx218_1); (try rw [Addr.add_zero'] at hx218_1); (try rw [show ((0 : Int)).toNat = 0 from rfl] at hx218_2); (try rw [show 0 * 9 = 0 from rfl] at hx218_2); (try rw [Addr.add_zero'] at hx218_2); (try rw [show ((0 : Int)).toNat = 0 from rfl] at hx218_3); (try rw [show 0 * 9 = 0 from rfl] at hx218_3); (try rw [Addr.add_zero'] at hx218_3); (try rw [show ((0 : Int)).toNat = 0 from rfl] at hx218_4); (try rw [show 0 * 9 = 0 from rfl] at hx218_4); (try rw [Addr.add_zero'] at hx218_4); (try rw [show ((0 : Int)).toNat = 0 from rfl] at hx218_5); (try rw [show 0 * 9 = 0 from rfl] at hx218_5); (try rw [Addr.add_zero'] at hx218_5); (try rw [show ((0 : Int)).toNat = 0 from rfl] at hx218_6); (try rw [show 0 * 9 = 0 from rfl] at hx218_6); (try rw [Addr.add_zero'] at hx218_6); (try rw [show ((0 : Int)).toNat = 0 from rfl] at hx218_7); (try rw [show 0 * 9 = 0 from rfl] at hx218_7); (try rw [Addr.add_zero'] at hx218_7); (try rw [show ((0 : Int)).toNat = 0 from rfl] at hx218_8); (try rw [show 0 * 9 = 0 from rfl] at hx218_8); (try rw [Addr.add_zero'] at hx218_8); replace hx218_0 := up_ HB.out hx218_0; replace hx218_1 := up_ HB.out hx218_1; replace hx218_2 := up_ HB.out hx218_2; replace hx218_3 := up_ HB.out hx218_3; replace hx218_4 := up_ HB.out hx218_4; replace hx218_5 := up_ HB.out hx218_5; replace hx218_6 := up_ HB.out hx218_6; replace hx218_7 := up_ HB.out hx218_7; replace hx218_8 := up_ HB.out hx218_8; replace p218 := eq_true p218; replace q218 := eq_true q218; have hcz13_0 : w4.cell? ⟨gb214, 0, none⟩ = some (.int .i64 a1_0) := (blk_cell BK214.out 0).trans rfl; have hcz13_1 : w4.cell? ⟨gb214, 1, none⟩ = some (.int .i64 a1_1) := (blk_cell BK214.out 1).trans rfl; have hcz13_2 : w4.cell? ⟨gb214, 2, none⟩ = some (.int .i64 a1_2) := (blk_cell BK214.out 2).trans rfl; have hcz13_3 : w4.cell? ⟨gb214, 3, none⟩ = some (.string a1_3) := (blk_cell BK214.out 3).trans rfl; have hcz13_4 : w4.cell? ⟨gb214, 4, none⟩ = some (.string a1_4) := (blk_cell BK214.out 4).trans rfl; have hcz13_5 : w4.cell? ⟨gb214, 5, none⟩ = some (.string a1_5) := (blk_cell BK214.out 5).trans rfl; have hcz13_6 : w4.cell? ⟨gb214, 6, none⟩ = some (.string a1_6) := (blk_cell BK214.out 6).trans rfl; have hcz13_7 : w4.cell? ⟨gb214, 7, none⟩ = some (.int .i64 a1_7) := (blk_cell BK214.out 7).trans rfl; have hcz13_8 : w4.cell? ⟨gb214, 8, none⟩ = some (.string a1_8) := (blk_cell BK214.out 8).trans rfl; have hfz13_0 := blk_frozen BK214.out 0; have hfz13_1 := blk_frozen BK214.out 1; have hfz13_2 := blk_frozen BK214.out 2; have hfz13_3 := blk_frozen BK214.out 3; have hfz13_4 := blk_frozen BK214.out 4; have hfz13_5 := blk_frozen BK214.out 5; have hfz13_6 := blk_frozen BK214.out 6; have hfz13_7 := blk_frozen BK214.out 7; have hfz13_8 := blk_frozen BK214.out 8))
        repeat (go_quiet (first | (go_at_call 61; (with_reducible refine (outlawref23_ends.calls ((rd_T30 l0 (ji8)).f0) false _ A11.out).mono ?_); rintro e w' ⟨rfl, ⟨nd, rfl⟩⟩; (try first | exact ⟨rfl, _, World.drewN_drewN _ _ _⟩ | exact ⟨rfl, _, Eq.trans (World.drewN_drewN _ _ _) (congrArg (World.drewN _) (Nat.add_assoc _ _ _))⟩); have p218 : 0 ≤ (0 : Int) := (by omega); have q218 : 0 < (l0.length : Int) := of_decide_eq_true (by first | (with_reducible assumption) | assumption); obtain ⟨ad218, e218, hx218_0, hx218_1, hx218_2, hx218_3, hx218_4, hx218_5, hx218_6, hx218_7, hx218_8⟩ := at_T30 HR0.out 0 p218 q218; obtain rfl : ad215 = ad218 := (by injection e218); have qi218 : (0 < l0.length) = True := eq_true (by omega); (try rw [show ((0 : Int)).toNat = 0 from rfl] at hx218_0); (try rw [show 0 * 9 = 0 from rfl] at hx218_0); (try rw [Addr.add_zero'] at hx218_0); (try rw [show ((0 : Int)).toNat = 0 from rfl] at hx218_1); (try rw [show 0 * 9 = 0 from rfl] at hx218_1); (try rw [Addr.add_zero'] at hx218_1); (try rw [show ((0 : Int)).toNat = 0 from rfl] at hx218_2); (try rw [show 0 * 9 = 0 from rfl] at hx218_2); (try rw [Addr.add_zero'] at hx218_2); (try rw [show ((0 : Int)).toNat = 0 from rfl] at hx218_3); (try rw [show 0 * 9 = 0 from rfl] at hx218_3); (try rw [Addr.add_zero'] at hx218_3); (try rw [show ((0 : Int)).toNat = 0 from rfl] at hx218_4); (try rw [show 0 * 9 = 0 from rfl] at hx218_4); (try rw [Addr.add_zero'] at hx218_4); (try rw [show ((0 : Int)).toNat = 0 from rfl] at hx218_5); (try rw [show 0 * 9 = 0 from rfl] at hx218_5); (try rw [Addr.add_zero'] at hx218_5); (try rw [show ((0 : Int)).toNat = 0 from rfl] at hx218_6); (try rw [show 0 * 9 = 0 from rfl] at hx218_6); (try rw [Addr.add_zero'] at hx218_6); (try rw [show ((0 : Int)).toNat = 0 from rfl] at hx218_7); (try rw [show 0 * 9 = 0 from rfl] at hx218_7); (try rw [Addr.add_zero'] at hx218_7); (try rw [show ((0 : Int)).toNat = 0 from rfl] at hx218_8); (try rw [show 0 * 9 = 0 from rfl] at hx218_8); (try rw [Addr.add_zero'] at hx218_8); replace hx218_0 := up_ HB.out hx218_0; replace hx218_1 := up_ HB.out hx218_1; replace hx218_2 := up_ HB.out hx218_2; replace hx218_3 := up_ HB.out hx218_3; replace hx218_4 := up_ HB.out hx218_4; replace hx218_5 := up_ HB.out hx218_5; replace hx218_6 := up_ HB.out hx218_6; replace hx218_7 := up_ HB.out hx218_7; replace hx218_8 := up_ HB.out hx218_8; replace p218 := eq_true p218; replace q218 := eq_true q218; have hcz13_0 : w4.cell? ⟨gb214, 0, none⟩ = some (.int .i64 a1_0) := (blk_cell BK214.out 0).trans rfl; have hcz13_1 : w4.cell? ⟨gb214, 1, none⟩ = some (.int .i64 a1_1) := (blk_cell BK214.out 1).trans rfl; have hcz13_2 : w4.cell? ⟨gb214, 2, none⟩ = some (.int .i64 a1_2) := (blk_cell BK214.out 2).trans rfl; have hcz13_3 : w4.cell? ⟨gb214, 3, none⟩ = some (.string a1_3) := (blk_cell BK214.out 3).trans rfl; have hcz13_4 : w4.cell? ⟨gb214, 4, none⟩ = some (.string a1_4) := (blk_cell BK214.out 4).trans rfl; have hcz13_5 : w4.cell? ⟨gb214, 5, none⟩ = some (.string a1_5) := (blk_cell BK214.out 5).trans rfl; have hcz13_6 : w4.cell? ⟨gb214, 6, none⟩ = some (.string a1_6) := (blk_cell BK214.out 6).trans rfl; have hcz13_7 : w4.cell? ⟨gb214, 7, none⟩ = some (.int .i64 a1_7) := (blk_cell BK214.out 7).trans rfl; have hcz13_8 : w4.cell? ⟨gb214, 8, none⟩ = some (.string a1_8) := (blk_cell BK214.out 8).trans rfl; have hfz13_0 := blk_frozen BK214.out 0; have hfz13_1 := blk_frozen BK214.out 1; have hfz13_2 := blk_frozen BK214.out 2; have hfz13_3 := blk_frozen BK214.out 3; have hfz13_4 := blk_frozen BK214.out 4; have hfz13_5 := blk_frozen BK214.out 5; have hfz13_6 := blk_frozen BK214.out 6; have hfz13_7 := blk_frozen BK214.out 7; have hfz13_8 := blk_frozen BK214.out 8)); try go_wp2_with (first | (go_at_call 61; (with_reducible refine (outlawref23_ends.calls ((rd_T30 l0 (ji8)).f0) false _ A11.out).mono ?_); rintro e w' ⟨rfl, ⟨nd, rfl⟩⟩; (try first | exact ⟨rfl, _, World.drewN_drewN _ _ _⟩ | exact ⟨rfl, _, Eq.trans (World.drewN_drewN _ _ _) (congrArg (World.drewN _) (Nat.add_assoc _ _ _))⟩); have p218 : 0 ≤ (0 : Int) := (by omega); have q218 : 0 < (l0.length : Int) := of_decide_eq_true (by first | (with_reducible assumption) | assumption); obtain ⟨ad218, e218, hx218_0, hx218_1, hx218_2, hx218_3, hx218_4, hx218_5, hx218_6, hx218_7, hx218_8⟩ := at_T30 HR0.out 0 p218 q218; obtain rfl : ad215 = ad218 := (by injection e218); have qi218 : (0 < l0.length) = True := eq_true (by omega); (try rw [show ((0 : Int)).toNat = 0 from rfl] at hx218_0); (try rw [show 0 * 9 = 0 from rfl] at hx218_0); (try rw [Addr.add_zero'] at hx218_0); (try rw [show ((0 : Int)).toNat = 0 from rfl] at hx218_1); (try rw [show 0 * 9 = 0 from rfl] at hx218_1); (try rw [Addr.add_zero'] at hx218_1); (try rw [show ((0 : Int)).toNat = 0 from rfl] at hx218_2); (try rw [show 0 * 9 = 0 from rfl] at hx218_2); (try rw [Addr.add_zero'] at hx218_2); (try rw [show ((0 : Int)).toNat = 0 from rfl] at hx218_3); (try rw [show 0 * 9 = 0 from rfl] at hx218_3); (try rw [Addr.add_zero'] at hx218_3); (try rw [show ((0 : Int)).toNat = 0 from rfl] at hx218_4); (try rw [show 0 * 9 = 0 from rfl] at hx218_4); (try rw [Addr.add_zero'] at hx218_4); (try rw [show ((0 : Int)).toNat = 0 from rfl] at hx218_5); (try rw [show 0 * 9 = 0 from rfl] at hx218_5); (try rw [Addr.add_zero'] at hx218_5); (try rw [show ((0 : Int)).toNat = 0 from rfl] at hx218_6); (try rw [show 0 * 9 = 0 from rfl] at hx218_6); (try rw [Addr.add_zero'] at hx218_6); (try rw [show ((0 : Int)).toNat = 0 from rfl] at hx218_7); (try rw [show 0 * 9 = 0 from rfl] at hx218_7); (try rw [Addr.add_zero'] at hx218_7); (try rw [show ((0 : Int)).toNat = 0 from rfl] at hx218_8); (try rw [show 0 * 9 = 0 from rfl] at hx218_8); (try rw [Addr.add_zero'] at hx218_8); replace hx218_0 := up_ HB.out hx218_0; replace hx218_1 := up_ HB.out hx218_1; replace hx218_2 := up_ HB.out hx218_2; replace hx218_3 := up_ HB.out hx218_3; replace hx218_4 := up_ HB.out hx218_4; replace hx218_5 := up_ HB.out hx218_5; replace hx218_6 := up_ HB.out hx218_6; replace hx218_7 := up_ HB.out hx218_7; replace hx218_8 := up_ HB.out hx218_8; replace p218 := eq_true p218; replace q218 := eq_true q218; have hcz13_0 : w4.cell? ⟨gb214, 0, none⟩ = some (.int .i64 a1_0) := (blk_cell BK214.out 0).trans rfl; have hcz13_1 : w4.cell? ⟨gb214, 1, none⟩ = some (.int .i64 a1_1) := (blk_cell BK214.out 1).trans rfl; have hcz13_2 : w4.cell? ⟨gb214, 2, none⟩ = some (.int .i64 a1_2) := (blk_cell BK214.out 2).trans rfl; have hcz13_3 : w4.cell? ⟨gb214, 3, none⟩ = some (.string a1_3) := (blk_cell BK214.out 3).trans rfl; have hcz13_4 : w4.cell? ⟨gb214, 4, none⟩ = some (.string a1_4) := (blk_cell BK214.out 4).trans rfl; have hcz13_5 : w4.cell? ⟨gb214, 5, none⟩ = some (.string a1_5) := (blk_cell BK214.out 5).trans rfl; have hcz13_6 : w4.cell? ⟨gb214, 6, none⟩ = some (.string a1_6) := (blk_cell BK214.out 6).trans rfl; have hcz13_7 : w4.cell? ⟨gb214, 7, none⟩ = some (.int .i64 a1_7) := (blk_cell BK214.out 7).trans rfl; have hcz13_8 : w4.cell? ⟨gb214, 8, none⟩ = some (.string a1_8) := (blk_cell BK214.out 8).trans rfl; have hfz13_0 := blk_frozen BK214.out 0; have hfz13_1 := blk_frozen BK214.out 1; have hfz13_2 := blk_frozen BK214.out 2; have hfz13_3 := blk_frozen BK214.out 3; have hfz13_4 := blk_frozen BK214.out 4; have hfz13_5 := blk_frozen BK214.out 5; have hfz13_6 := blk_frozen BK214.out 6; have hfz13_7 := blk_frozen BK214.out 7; have hfz13_8 := blk_frozen BK214.out 8)))
        go_meet
        case rel => exact ⟨_, ((!(((rd_T30 l0 0).f2.f0) == a1_2) || (!((((rd_T30 l0 0).f2.f1).toList) == a1_3.toList) || (!((((rd_T30 l0 0).f2.f2).toList) == a1_4.toList) || (!((((rd_T30 l0 0).f2.f3).toList) == a1_5.toList) || (!((((rd_T30 l0 0).f2.f4).toList) == a1_6.toList))))))), (by first | rfl | (simp; done) | (simp [*]; done)), H', ⟨by first | omega | exact Nat.le_refl _⟩, ⟨by (with_reducible repeat (first | refine blk_drewN ?_ _ | refine blk_drew ?_ | refine blk_alloc ?_ _)); exact BK214.out⟩, ⟨by repeat (first | (with_reducible first | exact HB.out | apply a1_ | apply a2_ | apply a3_ | refine below_set ?_ GE214.out) | exact HB.out)⟩⟩
      ·rw [if_neg c10] at H
       exact absurd H (by simp)
     ·rw [if_neg c9] at H
      exact absurd H (by simp)
    ·rw [if_neg c7] at H
     have c7b0 : (((rd_T30 l0 0).f0) == 3) = false := beq_eq_false_iff_ne.mpr c7
     have c7b1 : (((rd_T30 l0 0).f0) != 3) = true := bne_iff_ne.mpr c7
     have H' := Aside0.mk H
     clear H
     have p215 : 0 ≤ (0 : Int) := (by omega)
     have q215 : 0 < (l0.length : Int) := of_decide_eq_true (by first | (with_reducible assumption) | assumption)
     obtain ⟨ad215, e215, hx215_0, hx215_1, hx215_2, hx215_3, hx215_4, hx215_5, hx215_6, hx215_7, hx215_8⟩ := at_T30 HR0.out 0 p215 q215
     cases e215
     have qi215 : (0 < l0.length) = True := eq_true (by omega)
     (try rw [show ((0 : Int)).toNat = 0 from rfl] at hx215_0)
     (try rw [show 0 * 9 = 0 from rfl] at hx215_0)
     (try rw [Addr.add_zero'] at hx215_0)
     (try rw [show ((0 : Int)).toNat = 0 from rfl] at hx215_1)
     (try rw [show 0 * 9 = 0 from rfl] at hx215_1)
     (try rw [Addr.add_zero'] at hx215_1)
     (try rw [show ((0 : Int)).toNat = 0 from rfl] at hx215_2)
     (try rw [show 0 * 9 = 0 from rfl] at hx215_2)
     (try rw [Addr.add_zero'] at hx215_2)
     (try rw [show ((0 : Int)).toNat = 0 from rfl] at hx215_3)
     (try rw [show 0 * 9 = 0 from rfl] at hx215_3)
     (try rw [Addr.add_zero'] at hx215_3)
     (try rw [show ((0 : Int)).toNat = 0 from rfl] at hx215_4)
     (try rw [show 0 * 9 = 0 from rfl] at hx215_4)
     (try rw [Addr.add_zero'] at hx215_4)
     (try rw [show ((0 : Int)).toNat = 0 from rfl] at hx215_5)
     (try rw [show 0 * 9 = 0 from rfl] at hx215_5)
     (try rw [Addr.add_zero'] at hx215_5)
     (try rw [show ((0 : Int)).toNat = 0 from rfl] at hx215_6)
     (try rw [show 0 * 9 = 0 from rfl] at hx215_6)
     (try rw [Addr.add_zero'] at hx215_6)
     (try rw [show ((0 : Int)).toNat = 0 from rfl] at hx215_7)
     (try rw [show 0 * 9 = 0 from rfl] at hx215_7)
     (try rw [Addr.add_zero'] at hx215_7)
     (try rw [show ((0 : Int)).toNat = 0 from rfl] at hx215_8)
     (try rw [show 0 * 9 = 0 from rfl] at hx215_8)
     (try rw [Addr.add_zero'] at hx215_8)
     replace hx215_0 := up_ HB.out hx215_0
     replace hx215_1 := up_ HB.out hx215_1
     replace hx215_2 := up_ HB.out hx215_2
     replace hx215_3 := up_ HB.out hx215_3
     replace hx215_4 := up_ HB.out hx215_4
     replace hx215_5 := up_ HB.out hx215_5
     replace hx215_6 := up_ HB.out hx215_6
     replace hx215_7 := up_ HB.out hx215_7
     replace hx215_8 := up_ HB.out hx215_8
     replace p215 := eq_true p215
     replace q215 := eq_true q215
     go_wp2
     repeat (go_quiet (fail); try go_wp2)
     go_meet
     case rel => exact ⟨_, (true), (by first | rfl | (simp; done) | (simp [*]; done)), H', ⟨by first | omega | exact Nat.le_refl _⟩, ⟨by (with_reducible repeat (first | refine blk_drewN ?_ _ | refine blk_drew ?_ | refine blk_alloc ?_ _)); exact BK214.out⟩, ⟨by repeat (first | (with_reducible first | exact HB.out | apply a1_ | apply a2_ | apply a3_ | refine below_set ?_ GE214.out) | exact HB.out)⟩⟩
   ·rw [if_neg c6] at H
    exact absurd H (by simp)
 case rest =>
  clear HC3
  try clear c1
  try clear p2
  try clear q2
  try clear hx2
  try clear qi2
  try clear c5
  try clear c5b0
  try clear c5b1
  try clear c5b2
  try clear c6
  try clear c6b0
  try clear c6b1
  try clear p6
  try clear c7
  try clear c7b0
  try clear c7b1
  try clear c9
  try clear c9b0
  try clear c10
  try clear c10b0
  try clear c12
  try clear hcz13_0
  try clear hcz13_1
  try clear hcz13_2
  try clear hcz13_3
  try clear hcz13_4
  try clear hcz13_5
  try clear hcz13_6
  try clear hcz13_7
  try clear hcz13_8
  try clear hfz13_0
  try clear hfz13_1
  try clear hfz13_2
  try clear hfz13_3
  try clear hfz13_4
  try clear hfz13_5
  try clear hfz13_6
  try clear hfz13_7
  try clear hfz13_8
  try clear hx215_0
  try clear hx215_1
  try clear hx215_2
  try clear hx215_3
  try clear hx215_4
  try clear hx215_5
  try clear hx215_6
  try clear hx215_7
  try clear hx215_8
  try clear hx216_0
  try clear hx216_1
  try clear hx216_2
  try clear hx216_3
  try clear hx216_4
  try clear hx216_5
  try clear hx216_6
  try clear hx216_7
  try clear hx216_8
  try clear hx218_0
  try clear hx218_1
  try clear hx218_2
  try clear hx218_3
  try clear hx218_4
  try clear hx218_5
  try clear hx218_6
  try clear hx218_7
  try clear hx218_8
  try clear p215
  try clear p216
  try clear p218
  try clear q215
  try clear q216
  try clear q218
  obtain ⟨kq, x34_2, rfl, HA, HJ2, BK214, HB⟩ := hcut
  cases kq with
  | zero => exact absurd HA.out (by simp [outlawref23_may.j0])
  | succ kj2 =>
   have H := HA.out
   clear HA
   simp only [outlawref23_may.j0] at H
   by_cases c14 : x34_2 = true
   ·subst c14
    rw [if_pos rfl] at H
    obtain rfl := Option.some.inj H
    go_wp2
    repeat (go_quiet (fail); try go_wp2)
    go_ret
    exact ⟨by first | rfl | (simp [errW_none, errW_some] <;> rfl) | (simp [*, errW_none, errW_some] <;> rfl), by repeat (first | (with_reducible first | exact HB.out | apply a1_ | apply a2_ | apply a3_ | refine below_set ?_ GE214.out) | exact HB.out)⟩
   ·replace c14 := Bool.eq_false_iff.mpr c14
    subst c14
    rw [if_neg (show ¬ (false = true) by decide)] at H
    obtain ⟨ji15, hji15⟩ : ∃ j_ : Int, (wrap64 ((l0.length : Int) - 1)) = j_ := ⟨_, rfl⟩
    first | rw [hji15] at H | simp only [hji15] at H
    have hji15w : (IntKind.i64.wrap ((l0.length : Int) - 1)) = ji15 := (i64_w _).trans hji15
    by_cases c16 : 0 ≤ (ji15)
    ·rw [if_pos c16] at H
     have c16b0 : decide (0 ≤ (ji15)) = true := decide_eq_true c16
     clear c16
     by_cases c17 : (ji15) < (l0.length : Int)
     ·rw [if_pos c17] at H
      have c17b0 : decide ((ji15) < (l0.length : Int)) = true := decide_eq_true c17
      clear c17
      by_cases c18 : a1_0 = 4
      ·rw [if_pos c18] at H
       have c18b0 : (a1_0 == 4) = true := beq_iff_eq.mpr c18
       have c18b1 : (a1_0 != 4) = false := bne_eq_false_iff_eq.mpr c18
       clear c18
       obtain rfl := Option.some.inj H
       have p219 : 0 ≤ ((ji15) : Int) := of_decide_eq_true (by first | (with_reducible assumption) | assumption)
       have q219 : (ji15) < (l0.length : Int) := of_decide_eq_true (by first | (with_reducible assumption) | assumption)
       obtain ⟨ad219, e219, hx219_0, hx219_1, hx219_2, hx219_3, hx219_4, hx219_5, hx219_6, hx219_7, hx219_8⟩ := at_T30 HR0.out (ji15) p219 q219
       cases e219
       replace hx219_0 := up_ HB.out hx219_0
       replace hx219_1 := up_ HB.out hx219_1
       replace hx219_2 := up_ HB.out hx219_2
       replace hx219_3 := up_ HB.out hx219_3
       replace hx219_4 := up_ HB.out hx219_4
       replace hx219_5 := up_ HB.out hx219_5
       replace hx219_6 := up_ HB.out hx219_6
       replace hx219_7 := up_ HB.out hx219_7
       replace hx219_8 := up_ HB.out hx219_8
       replace p219 := eq_true p219
       replace q219 := eq_true q219
       have hcz19_0 : wc.cell? ⟨gb214, 0, none⟩ = some (.int .i64 a1_0) := (blk_cell BK214.out 0).trans rfl
       have hcz19_1 : wc.cell? ⟨gb214, 1, none⟩ = some (.int .i64 a1_1) := (blk_cell BK214.out 1).trans rfl
       have hcz19_2 : wc.cell? ⟨gb214, 2, none⟩ = some (.int .i64 a1_2) := (blk_cell BK214.out 2).trans rfl
       have hcz19_3 : wc.cell? ⟨gb214, 3, none⟩ = some (.string a1_3) := (blk_cell BK214.out 3).trans rfl
       have hcz19_4 : wc.cell? ⟨gb214, 4, none⟩ = some (.string a1_4) := (blk_cell BK214.out 4).trans rfl
       have hcz19_5 : wc.cell? ⟨gb214, 5, none⟩ = some (.string a1_5) := (blk_cell BK214.out 5).trans rfl
       have hcz19_6 : wc.cell? ⟨gb214, 6, none⟩ = some (.string a1_6) := (blk_cell BK214.out 6).trans rfl
       have hcz19_7 : wc.cell? ⟨gb214, 7, none⟩ = some (.int .i64 a1_7) := (blk_cell BK214.out 7).trans rfl
       have hcz19_8 : wc.cell? ⟨gb214, 8, none⟩ = some (.string a1_8) := (blk_cell BK214.out 8).trans rfl
       have hfz19_0 := blk_frozen BK214.out 0
       have hfz19_1 := blk_frozen BK214.out 1
       have hfz19_2 := blk_frozen BK214.out 2
       have hfz19_3 := blk_frozen BK214.out 3
       have hfz19_4 := blk_frozen BK214.out 4
       have hfz19_5 := blk_frozen BK214.out 5
       have hfz19_6 := blk_frozen BK214.out 6
       have hfz19_7 := blk_frozen BK214.out 7
       have hfz19_8 := blk_frozen BK214.out 8
       go_wp2
       repeat (go_quiet (fail); try go_wp2)
       go_ret
       exact ⟨by first | rfl | (simp [errW_none, errW_some] <;> rfl) | (simp only [← hji15]; first | rfl | (simp [errW_none, errW_some] <;> rfl)) | (simp [*, errW_none, errW_some] <;> rfl), by repeat (first | (with_reducible first | exact HB.out | apply a1_ | apply a2_ | apply a3_ | refine below_set ?_ GE214.out) | exact HB.out)⟩
      ·rw [if_neg c18] at H
       have c18b0 : (a1_0 == 4) = false := beq_eq_false_iff_ne.mpr c18
       have c18b1 : (a1_0 != 4) = true := bne_iff_ne.mpr c18
       by_cases c20 : a1_0 = 5
       ·rw [if_pos c20] at H
        have c20b0 : (a1_0 == 5) = true := beq_iff_eq.mpr c20
        have c20b1 : (a1_0 != 5) = false := bne_eq_false_iff_eq.mpr c20
        clear c20
        obtain rfl := Option.some.inj H
        have p219 : 0 ≤ ((ji15) : Int) := of_decide_eq_true (by first | (with_reducible assumption) | assumption)
        have q219 : (ji15) < (l0.length : Int) := of_decide_eq_true (by first | (with_reducible assumption) | assumption)
        obtain ⟨ad219, e219, hx219_0, hx219_1, hx219_2, hx219_3, hx219_4, hx219_5, hx219_6, hx219_7, hx219_8⟩ := at_T30 HR0.out (ji15) p219 q219
        cases e219
        replace hx219_0 := up_ HB.out hx219_0
        replace hx219_1 := up_ HB.out hx219_1
        replace hx219_2 := up_ HB.out hx219_2
        replace hx219_3 := up_ HB.out hx219_3
        replace hx219_4 := up_ HB.out hx219_4
        replace hx219_5 := up_ HB.out hx219_5
        replace hx219_6 := up_ HB.out hx219_6
        replace hx219_7 := up_ HB.out hx219_7
        replace hx219_8 := up_ HB.out hx219_8
        replace p219 := eq_true p219
        replace q219 := eq_true q219
        have hcz21_0 : wc.cell? ⟨gb214, 0, none⟩ = some (.int .i64 a1_0) := (blk_cell BK214.out 0).trans rfl
        have hcz21_1 : wc.cell? ⟨gb214, 1, none⟩ = some (.int .i64 a1_1) := (blk_cell BK214.out 1).trans rfl
        have hcz21_2 : wc.cell? ⟨gb214, 2, none⟩ = some (.int .i64 a1_2) := (blk_cell BK214.out 2).trans rfl
        have hcz21_3 : wc.cell? ⟨gb214, 3, none⟩ = some (.string a1_3) := (blk_cell BK214.out 3).trans rfl
        have hcz21_4 : wc.cell? ⟨gb214, 4, none⟩ = some (.string a1_4) := (blk_cell BK214.out 4).trans rfl
        have hcz21_5 : wc.cell? ⟨gb214, 5, none⟩ = some (.string a1_5) := (blk_cell BK214.out 5).trans rfl
        have hcz21_6 : wc.cell? ⟨gb214, 6, none⟩ = some (.string a1_6) := (blk_cell BK214.out 6).trans rfl
        have hcz21_7 : wc.cell? ⟨gb214, 7, none⟩ = some (.int .i64 a1_7) := (blk_cell BK214.out 7).trans rfl
        have hcz21_8 : wc.cell? ⟨gb214, 8, none⟩ = some (.string a1_8) := (blk_cell BK214.out 8).trans rfl
        have hfz21_0 := blk_frozen BK214.out 0
        have hfz21_1 := blk_frozen BK214.out 1
        have hfz21_2 := blk_frozen BK214.out 2
        have hfz21_3 := blk_frozen BK214.out 3
        have hfz21_4 := blk_frozen BK214.out 4
        have hfz21_5 := blk_frozen BK214.out 5
        have hfz21_6 := blk_frozen BK214.out 6
        have hfz21_7 := blk_frozen BK214.out 7
        have hfz21_8 := blk_frozen BK214.out 8
        go_wp2
        repeat (go_quiet (fail); try go_wp2)
        go_ret
        exact ⟨by first | rfl | (simp [errW_none, errW_some] <;> rfl) | (simp only [← hji15]; first | rfl | (simp [errW_none, errW_some] <;> rfl)) | (simp [*, errW_none, errW_some] <;> rfl), by repeat (first | (with_reducible first | exact HB.out | apply a1_ | apply a2_ | apply a3_ | refine below_set ?_ GE214.out) | exact HB.out)⟩
       ·rw [if_neg c20] at H
        have c20b0 : (a1_0 == 5) = false := beq_eq_false_iff_ne.mpr c20
        have c20b1 : (a1_0 != 5) = true := bne_iff_ne.mpr c20
        by_cases c22 : a1_0 = 7
        ·rw [if_pos c22] at H
         have c22b0 : (a1_0 == 7) = true := beq_iff_eq.mpr c22
         have c22b1 : (a1_0 != 7) = false := bne_eq_false_iff_eq.mpr c22
         clear c22
         obtain rfl := Option.some.inj H
         have p219 : 0 ≤ ((ji15) : Int) := of_decide_eq_true (by first | (with_reducible assumption) | assumption)
         have q219 : (ji15) < (l0.length : Int) := of_decide_eq_true (by first | (with_reducible assumption) | assumption)
         obtain ⟨ad219, e219, hx219_0, hx219_1, hx219_2, hx219_3, hx219_4, hx219_5, hx219_6, hx219_7, hx219_8⟩ := at_T30 HR0.out (ji15) p219 q219
         cases e219
         replace hx219_0 := up_ HB.out hx219_0
         replace hx219_1 := up_ HB.out hx219_1
         replace hx219_2 := up_ HB.out hx219_2
         replace hx219_3 := up_ HB.out hx219_3
         replace hx219_4 := up_ HB.out hx219_4
         replace hx219_5 := up_ HB.out hx219_5
         replace hx219_6 := up_ HB.out hx219_6
         replace hx219_7 := up_ HB.out hx219_7
         replace hx219_8 := up_ HB.out hx219_8
         replace p219 := eq_true p219
         replace q219 := eq_true q219
         have hcz23_0 : wc.cell? ⟨gb214, 0, none⟩ = some (.int .i64 a1_0) := (blk_cell BK214.out 0).trans rfl
         have hcz23_1 : wc.cell? ⟨gb214, 1, none⟩ = some (.int .i64 a1_1) := (blk_cell BK214.out 1).trans rfl
         have hcz23_2 : wc.cell? ⟨gb214, 2, none⟩ = some (.int .i64 a1_2) := (blk_cell BK214.out 2).trans rfl
         have hcz23_3 : wc.cell? ⟨gb214, 3, none⟩ = some (.string a1_3) := (blk_cell BK214.out 3).trans rfl
         have hcz23_4 : wc.cell? ⟨gb214, 4, none⟩ = some (.string a1_4) := (blk_cell BK214.out 4).trans rfl
         have hcz23_5 : wc.cell? ⟨gb214, 5, none⟩ = some (.string a1_5) := (blk_cell BK214.out 5).trans rfl
         have hcz23_6 : wc.cell? ⟨gb214, 6, none⟩ = some (.string a1_6) := (blk_cell BK214.out 6).trans rfl
         have hcz23_7 : wc.cell? ⟨gb214, 7, none⟩ = some (.int .i64 a1_7) := (blk_cell BK214.out 7).trans rfl
         have hcz23_8 : wc.cell? ⟨gb214, 8, none⟩ = some (.string a1_8) := (blk_cell BK214.out 8).trans rfl
         have hfz23_0 := blk_frozen BK214.out 0
         have hfz23_1 := blk_frozen BK214.out 1
         have hfz23_2 := blk_frozen BK214.out 2
         have hfz23_3 := blk_frozen BK214.out 3
         have hfz23_4 := blk_frozen BK214.out 4
         have hfz23_5 := blk_frozen BK214.out 5
         have hfz23_6 := blk_frozen BK214.out 6
         have hfz23_7 := blk_frozen BK214.out 7
         have hfz23_8 := blk_frozen BK214.out 8
         go_wp2
         repeat (go_quiet (fail); try go_wp2)
         go_ret
         exact ⟨by first | rfl | (simp [errW_none, errW_some] <;> rfl) | (simp only [← hji15]; first | rfl | (simp [errW_none, errW_some] <;> rfl)) | (simp [*, errW_none, errW_some] <;> rfl), by repeat (first | (with_reducible first | exact HB.out | apply a1_ | apply a2_ | apply a3_ | refine below_set ?_ GE214.out) | exact HB.out)⟩
        ·rw [if_neg c22] at H
         have c22b0 : (a1_0 == 7) = false := beq_eq_false_iff_ne.mpr c22
         have c22b1 : (a1_0 != 7) = true := bne_iff_ne.mpr c22
         by_cases c24 : a1_0 = 6
         ·rw [if_pos c24] at H
          have c24b0 : (a1_0 == 6) = true := beq_iff_eq.mpr c24
          have c24b1 : (a1_0 != 6) = false := bne_eq_false_iff_eq.mpr c24
          clear c24
          obtain rfl := Option.some.inj H
          have p219 : 0 ≤ ((ji15) : Int) := of_decide_eq_true (by first | (with_reducible assumption) | assumption)
          have q219 : (ji15) < (l0.length : Int) := of_decide_eq_true (by first | (with_reducible assumption) | assumption)
          obtain ⟨ad219, e219, hx219_0, hx219_1, hx219_2, hx219_3, hx219_4, hx219_5, hx219_6, hx219_7, hx219_8⟩ := at_T30 HR0.out (ji15) p219 q219
          cases e219
          replace hx219_0 := up_ HB.out hx219_0
          replace hx219_1 := up_ HB.out hx219_1
          replace hx219_2 := up_ HB.out hx219_2
          replace hx219_3 := up_ HB.out hx219_3
          replace hx219_4 := up_ HB.out hx219_4
          replace hx219_5 := up_ HB.out hx219_5
          replace hx219_6 := up_ HB.out hx219_6
          replace hx219_7 := up_ HB.out hx219_7
          replace hx219_8 := up_ HB.out hx219_8
          replace p219 := eq_true p219
          replace q219 := eq_true q219
          have hcz25_0 : wc.cell? ⟨gb214, 0, none⟩ = some (.int .i64 a1_0) := (blk_cell BK214.out 0).trans rfl
          have hcz25_1 : wc.cell? ⟨gb214, 1, none⟩ = some (.int .i64 a1_1) := (blk_cell BK214.out 1).trans rfl
          have hcz25_2 : wc.cell? ⟨gb214, 2, none⟩ = some (.int .i64 a1_2) := (blk_cell BK214.out 2).trans rfl
          have hcz25_3 : wc.cell? ⟨gb214, 3, none⟩ = some (.string a1_3) := (blk_cell BK214.out 3).trans rfl
          have hcz25_4 : wc.cell? ⟨gb214, 4, none⟩ = some (.string a1_4) := (blk_cell BK214.out 4).trans rfl
          have hcz25_5 : wc.cell? ⟨gb214, 5, none⟩ = some (.string a1_5) := (blk_cell BK214.out 5).trans rfl
          have hcz25_6 : wc.cell? ⟨gb214, 6, none⟩ = some (.string a1_6) := (blk_cell BK214.out 6).trans rfl
          have hcz25_7 : wc.cell? ⟨gb214, 7, none⟩ = some (.int .i64 a1_7) := (blk_cell BK214.out 7).trans rfl
          have hcz25_8 : wc.cell? ⟨gb214, 8, none⟩ = some (.string a1_8) := (blk_cell BK214.out 8).trans rfl
          have hfz25_0 := blk_frozen BK214.out 0
          have hfz25_1 := blk_frozen BK214.out 1
          have hfz25_2 := blk_frozen BK214.out 2
          have hfz25_3 := blk_frozen BK214.out 3
          have hfz25_4 := blk_frozen BK214.out 4
          have hfz25_5 := blk_frozen BK214.out 5
          have hfz25_6 := blk_frozen BK214.out 6
          have hfz25_7 := blk_frozen BK214.out 7
          have hfz25_8 := blk_frozen BK214.out 8
          go_wp2
          repeat (go_quiet (fail); try go_wp2)
          go_ret
          exact ⟨by first | rfl | (simp [errW_none, errW_some] <;> rfl) | (simp only [← hji15]; first | rfl | (simp [errW_none, errW_some] <;> rfl)) | (simp [*, errW_none, errW_some] <;> rfl), by repeat (first | (with_reducible first | exact HB.out | apply a1_ | apply a2_ | apply a3_ | refine below_set ?_ GE214.out) | exact HB.out)⟩
         ·rw [if_neg c24] at H
          have c24b0 : (a1_0 == 6) = false := beq_eq_false_iff_ne.mpr c24
          have c24b1 : (a1_0 != 6) = true := bne_iff_ne.mpr c24
          by_cases c26 : a1_0 = 8
          ·rw [if_pos c26] at H
           have c26b0 : (a1_0 == 8) = true := beq_iff_eq.mpr c26
           have c26b1 : (a1_0 != 8) = false := bne_eq_false_iff_eq.mpr c26
           clear c26
           obtain rfl := Option.some.inj H
           have p219 : 0 ≤ ((ji15) : Int) := of_decide_eq_true (by first | (with_reducible assumption) | assumption)
           have q219 : (ji15) < (l0.length : Int) := of_decide_eq_true (by first | (with_reducible assumption) | assumption)
           obtain ⟨ad219, e219, hx219_0, hx219_1, hx219_2, hx219_3, hx219_4, hx219_5, hx219_6, hx219_7, hx219_8⟩ := at_T30 HR0.out (ji15) p219 q219
           cases e219
           replace hx219_0 := up_ HB.out hx219_0
           replace hx219_1 := up_ HB.out hx219_1
           replace hx219_2 := up_ HB.out hx219_2
           replace hx219_3 := up_ HB.out hx219_3
           replace hx219_4 := up_ HB.out hx219_4
           replace hx219_5 := up_ HB.out hx219_5
           replace hx219_6 := up_ HB.out hx219_6
           replace hx219_7 := up_ HB.out hx219_7
           replace hx219_8 := up_ HB.out hx219_8
           replace p219 := eq_true p219
           replace q219 := eq_true q219
           have hcz27_0 : wc.cell? ⟨gb214, 0, none⟩ = some (.int .i64 a1_0) := (blk_cell BK214.out 0).trans rfl
           have hcz27_1 : wc.cell? ⟨gb214, 1, none⟩ = some (.int .i64 a1_1) := (blk_cell BK214.out 1).trans rfl
           have hcz27_2 : wc.cell? ⟨gb214, 2, none⟩ = some (.int .i64 a1_2) := (blk_cell BK214.out 2).trans rfl
           have hcz27_3 : wc.cell? ⟨gb214, 3, none⟩ = some (.string a1_3) := (blk_cell BK214.out 3).trans rfl
           have hcz27_4 : wc.cell? ⟨gb214, 4, none⟩ = some (.string a1_4) := (blk_cell BK214.out 4).trans rfl
           have hcz27_5 : wc.cell? ⟨gb214, 5, none⟩ = some (.string a1_5) := (blk_cell BK214.out 5).trans rfl
           have hcz27_6 : wc.cell? ⟨gb214, 6, none⟩ = some (.string a1_6) := (blk_cell BK214.out 6).trans rfl
           have hcz27_7 : wc.cell? ⟨gb214, 7, none⟩ = some (.int .i64 a1_7) := (blk_cell BK214.out 7).trans rfl
           have hcz27_8 : wc.cell? ⟨gb214, 8, none⟩ = some (.string a1_8) := (blk_cell BK214.out 8).trans rfl
           have hfz27_0 := blk_frozen BK214.out 0
           have hfz27_1 := blk_frozen BK214.out 1
           have hfz27_2 := blk_frozen BK214.out 2
           have hfz27_3 := blk_frozen BK214.out 3
           have hfz27_4 := blk_frozen BK214.out 4
           have hfz27_5 := blk_frozen BK214.out 5
           have hfz27_6 := blk_frozen BK214.out 6
           have hfz27_7 := blk_frozen BK214.out 7
           have hfz27_8 := blk_frozen BK214.out 8
           go_wp2
           repeat (go_quiet (fail); try go_wp2)
           go_ret
           exact ⟨by first | rfl | (simp [errW_none, errW_some] <;> rfl) | (simp only [← hji15]; first | rfl | (simp [errW_none, errW_some] <;> rfl)) | (simp [*, errW_none, errW_some] <;> rfl), by repeat (first | (with_reducible first | exact HB.out | apply a1_ | apply a2_ | apply a3_ | refine below_set ?_ GE214.out) | exact HB.out)⟩
          ·rw [if_neg c26] at H
           have c26b0 : (a1_0 == 8) = false := beq_eq_false_iff_ne.mpr c26
           have c26b1 : (a1_0 != 8) = true := bne_iff_ne.mpr c26
           obtain rfl := Option.some.inj H
           have p219 : 0 ≤ ((ji15) : Int) := of_decide_eq_true (by first | (with_reducible assumption) | assumption)
           have q219 : (ji15) < (l0.length : Int) := of_decide_eq_true (by first | (with_reducible assumption) | assumption)
           obtain ⟨ad219, e219, hx219_0, hx219_1, hx219_2, hx219_3, hx219_4, hx219_5, hx219_6, hx219_7, hx219_8⟩ := at_T30 HR0.out (ji15) p219 q219
           cases e219
           replace hx219_0 := up_ HB.out hx219_0
           replace hx219_1 := up_ HB.out hx219_1
           replace hx219_2 := up_ HB.out hx219_2
           replace hx219_3 := up_ HB.out hx219_3
           replace hx219_4 := up_ HB.out hx219_4
           replace hx219_5 := up_ HB.out hx219_5
           replace hx219_6 := up_ HB.out hx219_6
           replace hx219_7 := up_ HB.out hx219_7
           replace hx219_8 := up_ HB.out hx219_8
           replace p219 := eq_true p219
           replace q219 := eq_true q219
           have hcz28_0 : wc.cell? ⟨gb214, 0, none⟩ = some (.int .i64 a1_0) := (blk_cell BK214.out 0).trans rfl
           have hcz28_1 : wc.cell? ⟨gb214, 1, none⟩ = some (.int .i64 a1_1) := (blk_cell BK214.out 1).trans rfl
           have hcz28_2 : wc.cell? ⟨gb214, 2, none⟩ = some (.int .i64 a1_2) := (blk_cell BK214.out 2).trans rfl
           have hcz28_3 : wc.cell? ⟨gb214, 3, none⟩ = some (.string a1_3) := (blk_cell BK214.out 3).trans rfl
           have hcz28_4 : wc.cell? ⟨gb214, 4, none⟩ = some (.string a1_4) := (blk_cell BK214.out 4).trans rfl
           have hcz28_5 : wc.cell? ⟨gb214, 5, none⟩ = some (.string a1_5) := (blk_cell BK214.out 5).trans rfl
           have hcz28_6 : wc.cell? ⟨gb214, 6, none⟩ = some (.string a1_6) := (blk_cell BK214.out 6).trans rfl
           have hcz28_7 : wc.cell? ⟨gb214, 7, none⟩ = some (.int .i64 a1_7) := (blk_cell BK214.out 7).trans rfl
           have hcz28_8 : wc.cell? ⟨gb214, 8, none⟩ = some (.string a1_8) := (blk_cell BK214.out 8).trans rfl
           have hfz28_0 := blk_frozen BK214.out 0
           have hfz28_1 := blk_frozen BK214.out 1
           have hfz28_2 := blk_frozen BK214.out 2
           have hfz28_3 := blk_frozen BK214.out 3
           have hfz28_4 := blk_frozen BK214.out 4
           have hfz28_5 := blk_frozen BK214.out 5
           have hfz28_6 := blk_frozen BK214.out 6
           have hfz28_7 := blk_frozen BK214.out 7
           have hfz28_8 := blk_frozen BK214.out 8
           go_wp2
           repeat (go_quiet (fail); try go_wp2)
           go_ret
           exact ⟨by first | rfl | (simp [errW_none, errW_some] <;> rfl) | (simp only [← hji15]; first | rfl | (simp [errW_none, errW_some] <;> rfl)) | (simp [*, errW_none, errW_some] <;> rfl), by repeat (first | (with_reducible first | exact HB.out | apply a1_ | apply a2_ | apply a3_ | refine below_set ?_ GE214.out) | exact HB.out)⟩
     ·rw [if_neg c17] at H
      exact absurd H (by simp)
    ·rw [if_neg c16] at H
     exact absurd H (by simp)

end Go.Proofs.YtlmhgnkkdjpkcaaDoor.PA
