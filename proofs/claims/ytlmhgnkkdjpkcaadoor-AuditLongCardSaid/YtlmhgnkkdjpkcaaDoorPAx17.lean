-- Written by a program of this session (gprint.py, a turned print with given contracts).
import Derived.Test.YtlmhgnkkdjpkcaaDoorWm
import Derived.Test.YtlmhgnkkdjpkcaaDoorPAx0m
import Derived.Test.YtlmhgnkkdjpkcaaDoorPAx16
import Derived.Test.YtlmhgnkkdjpkcaaDoorRs
namespace Go.Proofs.YtlmhgnkkdjpkcaaDoor.PA
open Go.RowKit Go.Proofs.YtlmhgnkkdjpkcaaDoorW.PrintWords Go.Proofs.YtlmhgnkkdjpkcaaDoorW.PrintLast Go.Proofs.YtlmhgnkkdjpkcaaDoorW.PrintMore Go.Proofs.YtlmhgnkkdjpkcaaDoorG
attribute [local go_sem] max2_int min2_int max_two min_two max_three min_three max_four min_four   -- for this text's walks alone
set_option linter.unusedVariables false
set_option linter.unusedSimpArgs false

/-! ### outlawref23_Owned: function 21 -/
def outlawref23_Owned.l0 : Nat → List (S30) → ByteArray → List ByteArray → Int → Option (List ByteArray)
 | 0, _, _, _, _ => none
 | k + 1, x0, x1, x5, x6 => if x6 < (x0.length : Int) then (if 0 ≤ x6 then (if ((rd_T30 x0 x6).f0) = 5 then (if ((rd_T30 x0 x6).f2.f1).toList = x1.toList then ((outlawref23_Own.f k x0 x1 ((rd_T30 x0 x6).f2.f2)).bind fun t242 => (if t242 = true then (if x5.length < 8796093022208 then (outlawref23_Owned.l0 k x0 x1 (x5 ++ [(rd_T30 x0 x6).f2.f2]) (wrap64 (x6 + 1))) else (none)) else (outlawref23_Owned.l0 k x0 x1 x5 (wrap64 (x6 + 1))))) else (outlawref23_Owned.l0 k x0 x1 x5 (wrap64 (x6 + 1)))) else (outlawref23_Owned.l0 k x0 x1 x5 (wrap64 (x6 + 1)))) else (none)) else ((outlawref18_Rising.f x5).bind fun t247 => (some t247))
def outlawref23_Owned.f (k : Nat) (l0 : List (S30)) (a1 : ByteArray) : Option (List ByteArray) := outlawref23_Owned.l0 k l0 a1 ([] : List ByteArray) 0
theorem outlawref23_Owned.mono_l : ∀ k, (∀ y0 y1 y2 y3, LeO (outlawref23_Owned.l0 k y0 y1 y2 y3) (outlawref23_Owned.l0 (k + 1) y0 y1 y2 y3))
 | 0 => fun _ _ _ _ r h => by simp [outlawref23_Owned.l0] at h
 | k + 1 => by
  have ih0 := outlawref23_Owned.mono_l k
  ·intro y0 y1 y2 y3
   unfold outlawref23_Owned.l0
   repeat' first
   | (with_reducible exact ih0 _ _ _ _)
   | (with_reducible exact outlawref23_Own.mono _ _ _ _)
   | (with_reducible exact LeO.refl _)
   | (with_reducible exact LeO.none _)
   | (with_reducible refine LeO.ite ?_ ?_)
   | (with_reducible refine LeO.bind ?_ (fun _ => ?_))
   | refine LeO.ite ?_ ?_
   | refine LeO.bind ?_ (fun _ => ?_)
theorem outlawref23_Owned.mono : ∀ a0 a1 k, LeO (outlawref23_Owned.f k a0 a1) (outlawref23_Owned.f (k + 1) a0 a1) := by
 intro a0 a1 k
 have ih0 := outlawref23_Owned.mono_l k
 unfold outlawref23_Owned.f
 repeat' first
   | (with_reducible exact ih0 _ _ _ _)
   | (with_reducible exact outlawref23_Own.mono _ _ _ _)
   | (with_reducible exact LeO.refl _)
   | (with_reducible exact LeO.none _)
   | (with_reducible refine LeO.ite ?_ ?_)
   | (with_reducible refine LeO.bind ?_ (fun _ => ?_))
   | refine LeO.ite ?_ ?_
   | refine LeO.bind ?_ (fun _ => ?_)
set_option maxHeartbeats 8000000 in
set_option maxRecDepth 100000 in
theorem outlawref23_Owned.calls (k : Nat) (A0 : Option Addr) (c0 : Nat) (l0 : List (S30)) (a1 : ByteArray) (r : List ByteArray) (w : World) (hr0 : Kd.C k30 w A0 l0.length l0) (hc0 : l0.length ≤ c0) (h : outlawref23_Owned.f k l0 a1 = some r) :
  Calls Tryd.prog 21 #[.slice A0 l0.length c0, .string a1] w fun e w' => ∃ v0_ : Value, e = .returned (v0_) ∧ Kd.R Kd.string 9 w' w.heap.size (fun _ => True) v0_ r ∧ Below w.heap.size w w' := by
 have HR0 := Aside0.mk hr0
 have HC0 := Aside0.mk hc0
 clear hr0 hc0
 have HB := Aside0.mk (Below.refl w.heap.size w)
 have H : (outlawref23_Owned.l0 k l0 a1 ([] : List ByteArray) 0) = some r := h
 clear h
 have H' := Aside0.mk H
 clear H
 go_enter Tryd.func21, Tryd.ntmps21
 go_wp2
 go_loopg [5, 6] k (fun kq v5 v6 w' => ∃ (x5_1 : List ByteArray) (x6_1 : Int), v6 = .int .i64 x6_1 ∧ Aside0 (outlawref23_Owned.l0 kq l0 a1 x5_1 x6_1 = some r) ∧ Aside0 (kq ≤ k) ∧ Aside0 (Kd.R Kd.string 9 w' w.heap.size (fun _ => True) v5 x5_1) ∧ Aside0 (Below w.heap.size w w'))
 case atStart => exact ⟨(([] : List ByteArray)), (0), (by first | rfl | (simp; done) | (simp [*]; done) | (simp [bneNil_, beqNil_]; done) | (simp [bneNil_, beqNil_, *]; done) | (simp_all; done)), H', ⟨Nat.le_refl _⟩, ⟨by first | exact Kd.R_nil _ _ _ _ _ | exact Kd.N_nil _ _ _ _ _ | exact Kd.V_nil _ _ _ _ _ | exact Kd.Q_nil _ _ _ _ _ | exact Kd.S_nil _ _ _ _ _⟩, ⟨by repeat (first | (with_reducible first | exact HB.out | apply a1_ | apply a2_ | apply a3_) | exact HB.out)⟩⟩
 case round =>
  clear H'
  try clear c2
  try clear p2
  obtain ⟨x5_1, x6_1, rfl, HA, HK1, HO_5, HB⟩ := hrel
  cases gk with
  | zero => exact absurd HA.out (by simp [outlawref23_Owned.l0])
  | succ k1 =>
   have H := HA.out
   clear HA
   simp only [outlawref23_Owned.l0] at H
   by_cases c3 : x6_1 < (l0.length : Int)
   ·rw [if_pos c3] at H
    have c3b0 : decide (x6_1 < (l0.length : Int)) = true := decide_eq_true c3
    clear c3
    by_cases c4 : 0 ≤ x6_1
    ·rw [if_pos c4] at H
     have c4b0 : decide (0 ≤ x6_1) = true := decide_eq_true c4
     clear c4
     by_cases c5 : ((rd_T30 l0 x6_1).f0) = 5
     ·rw [if_pos c5] at H
      have c5b0 : (((rd_T30 l0 x6_1).f0) == 5) = true := beq_iff_eq.mpr c5
      have c5b1 : (((rd_T30 l0 x6_1).f0) != 5) = false := bne_eq_false_iff_eq.mpr c5
      clear c5
      by_cases c6 : ((rd_T30 l0 x6_1).f2.f1).toList = a1.toList
      ·rw [if_pos c6] at H
       have c6b0 : (((rd_T30 l0 x6_1).f2.f1).toList == a1.toList) = true := beq_iff_eq.mpr c6
       have c6b1 : (((rd_T30 l0 x6_1).f2.f1).toList != a1.toList) = false := bne_eq_false_iff_eq.mpr c6
       clear c6
       replace H := Option.bind_eq_some_iff.mp H
       obtain ⟨t242, A70, H⟩ := H
       have A7 := Aside0.mk A70
       clear A70
       by_cases c8 : t242 = true
       ·subst c8
        rw [if_pos rfl] at H
        by_cases c9 : x5_1.length < 8796093022208
        ·rw [if_pos c9] at H
         have LMc9 := Aside0.mk c9
         clear c9
         obtain ⟨y244, hy244⟩ : ∃ y_ : List ByteArray, y_ = (x5_1 ++ [(rd_T30 l0 x6_1).f2.f2]) := ⟨_, rfl⟩
         first | rw [← hy244, Option.bind_some] at H | rw [← hy244] at H
         have Ny244 := Aside0.mk hy244
         clear hy244
         have H' := Aside0.mk H
         clear H
         have p239 : 0 ≤ (x6_1 : Int) := of_decide_eq_true (by first | (with_reducible assumption) | assumption)
         have q239 : x6_1 < (l0.length : Int) := of_decide_eq_true (by first | (with_reducible assumption) | assumption)
         obtain ⟨ad239, e239, hx239_0, hx239_1, hx239_2, hx239_3, hx239_4, hx239_5, hx239_6, hx239_7, hx239_8⟩ := at_T30 HR0.out x6_1 p239 q239
         cases e239
         replace hx239_0 := up_ HB.out hx239_0
         replace hx239_1 := up_ HB.out hx239_1
         replace hx239_2 := up_ HB.out hx239_2
         replace hx239_3 := up_ HB.out hx239_3
         replace hx239_4 := up_ HB.out hx239_4
         replace hx239_5 := up_ HB.out hx239_5
         replace hx239_6 := up_ HB.out hx239_6
         replace hx239_7 := up_ HB.out hx239_7
         replace hx239_8 := up_ HB.out hx239_8
         replace p239 := eq_true p239
         replace q239 := eq_true q239
         have p240 : 0 ≤ (x6_1 : Int) := of_decide_eq_true (by first | (with_reducible assumption) | assumption)
         have q240 : x6_1 < (l0.length : Int) := of_decide_eq_true (by first | (with_reducible assumption) | assumption)
         obtain ⟨ad240, e240, hx240_0, hx240_1, hx240_2, hx240_3, hx240_4, hx240_5, hx240_6, hx240_7, hx240_8⟩ := at_T30 HR0.out x6_1 p240 q240
         obtain rfl : ad239 = ad240 := (by injection e240)
         replace hx240_0 := up_ HB.out hx240_0
         replace hx240_1 := up_ HB.out hx240_1
         replace hx240_2 := up_ HB.out hx240_2
         replace hx240_3 := up_ HB.out hx240_3
         replace hx240_4 := up_ HB.out hx240_4
         replace hx240_5 := up_ HB.out hx240_5
         replace hx240_6 := up_ HB.out hx240_6
         replace hx240_7 := up_ HB.out hx240_7
         replace hx240_8 := up_ HB.out hx240_8
         replace p240 := eq_true p240
         replace q240 := eq_true q240
         have p241 : 0 ≤ (x6_1 : Int) := of_decide_eq_true (by first | (with_reducible assumption) | assumption)
         have q241 : x6_1 < (l0.length : Int) := of_decide_eq_true (by first | (with_reducible assumption) | assumption)
         obtain ⟨ad241, e241, hx241_0, hx241_1, hx241_2, hx241_3, hx241_4, hx241_5, hx241_6, hx241_7, hx241_8⟩ := at_T30 HR0.out x6_1 p241 q241
         obtain rfl : ad239 = ad241 := (by injection e241)
         replace hx241_0 := up_ HB.out hx241_0
         replace hx241_1 := up_ HB.out hx241_1
         replace hx241_2 := up_ HB.out hx241_2
         replace hx241_3 := up_ HB.out hx241_3
         replace hx241_4 := up_ HB.out hx241_4
         replace hx241_5 := up_ HB.out hx241_5
         replace hx241_6 := up_ HB.out hx241_6
         replace hx241_7 := up_ HB.out hx241_7
         replace hx241_8 := up_ HB.out hx241_8
         replace p241 := eq_true p241
         replace q241 := eq_true q241
         go_wp2_with (first | (go_at_call 20; (with_reducible refine (outlawref23_Own.calls k1 _ _ l0 a1 ((rd_T30 l0 x6_1).f2.f2) true _ ?side1 ?side2 A7.out).mono ?_); (case side1 => repeat (first | exact (Kd.C_below HR0.out HB.out) | (with_reducible refine Kd.C_alloc ?_ _) | (with_reducible refine Kd.C_drewN ?_ _) | (with_reducible refine Kd.C_drew ?_))); (case side2 => exact HC0.out); rintro e w10 ⟨rfl, hb⟩; have n0_ := Aside0.mk (Kd.R_below (by (with_reducible repeat (first | apply Kd.R_alloc | apply Kd.R_drewN | apply Kd.R_drew)); exact HO_5.out) hb); have n1_ := Aside0.mk (below_step (by repeat (first | (with_reducible first | exact HB.out | apply a1_ | apply a2_ | apply a3_) | exact HB.out)) hb); clear HO_5; clear HB; have HO_5 := n0_; have HB := n1_; clear n0_ n1_; (try clear hb); (try clear hk); have p243 : 0 ≤ (x6_1 : Int) := of_decide_eq_true (by first | (with_reducible assumption) | assumption); have q243 : x6_1 < (l0.length : Int) := of_decide_eq_true (by first | (with_reducible assumption) | assumption); obtain ⟨ad243, e243, hx243_0, hx243_1, hx243_2, hx243_3, hx243_4, hx243_5, hx243_6, hx243_7, hx243_8⟩ := at_T30 HR0.out x6_1 p243 q243; obtain rfl : ad239 = ad243 := (by injection e243); replace hx243_0 := up_ HB.out hx243_0; replace hx243_1 := up_ HB.out hx243_1; replace hx243_2 := up_ HB.out hx243_2; replace hx243_3 := up_ HB.out hx243_3; replace hx243_4 := up_ HB.out hx243_4; replace hx243_5 := up_ HB.out hx243_5; replace hx243_6 := up_ HB.out hx243_6; replace hx243_7 := up_ HB.out hx243_7; replace hx243_8 := up_ HB.out hx243_8; replace p243 := eq_true p243; replace q243 := eq_true q243) | ((with_reducible refine gate_builtin (b := .append) (xs := #[.tmp 40, .tmp 47]) rfl ?_); at_builtin; refine Kd.R_append Kd.string (w0 := w) w.heap.size rfl (.tmp 40) (.tmp 47) 35 9 (.string ⟨#[]⟩) 16 rfl Tryd.underlying35 info9 rfl (by decide) (by omega) u5 x5_1 ((rd_T30 l0 x6_1).f2.f2) [.string ((rd_T30 l0 x6_1).f2.f2)] (fun _ => True) (fun _ => False) rfl rfl ?aP (fun _ hk => hk.elim) ?aF ?aO ?aB ?aS ?aL ?_; (case aP => exact rfl); (case aB => exact (by repeat (first | (with_reducible first | exact HB.out | apply a1_ | apply a2_ | apply a3_) | exact HB.out))); (case aF => exact (fun _ _ => trivial)); (case aO => exact (by (with_reducible repeat (first | apply Kd.R_alloc | apply Kd.R_drewN | apply Kd.R_drew)); exact HO_5.out)); (case aS => exact (below_size (by repeat (first | (with_reducible first | exact HB.out | apply a1_ | apply a2_ | apply a3_) | exact HB.out)))); (case aL => have := LMc9.out; omega); intro v245 w11 ho hb hg hat; rw [← Ny244.out] at ho; have n0_ := Aside0.mk (hb); have n1_ := Aside0.mk (ho); clear HB; clear HO_5; have HB := n0_; have HO246 := n1_; clear n0_ n1_; clear ho hb hg hat))
         go_roundg k1
         case measure => have := HK1.out; omega
         case rel => exact ⟨(y244), (wrap64 (x6_1 + 1)), (by first | rfl | (simp; done) | (simp [*]; done) | (simp [bneNil_, beqNil_]; done) | (simp [bneNil_, beqNil_, *]; done) | (simp_all; done)), H', ⟨by have := HK1.out; omega⟩, ⟨by (with_reducible repeat (first | apply Kd.R_alloc | apply Kd.R_drewN | apply Kd.R_drew)); exact HO246.out⟩, ⟨by repeat (first | (with_reducible first | exact HB.out | apply a1_ | apply a2_ | apply a3_) | exact HB.out)⟩⟩
        ·rw [if_neg c9] at H
         exact absurd H (by simp)
       ·replace c8 := Bool.eq_false_iff.mpr c8
        subst c8
        rw [if_neg (show ¬ (false = true) by decide)] at H
        have H' := Aside0.mk H
        clear H
        have p239 : 0 ≤ (x6_1 : Int) := of_decide_eq_true (by first | (with_reducible assumption) | assumption)
        have q239 : x6_1 < (l0.length : Int) := of_decide_eq_true (by first | (with_reducible assumption) | assumption)
        obtain ⟨ad239, e239, hx239_0, hx239_1, hx239_2, hx239_3, hx239_4, hx239_5, hx239_6, hx239_7, hx239_8⟩ := at_T30 HR0.out x6_1 p239 q239
        cases e239
        replace hx239_0 := up_ HB.out hx239_0
        replace hx239_1 := up_ HB.out hx239_1
        replace hx239_2 := up_ HB.out hx239_2
        replace hx239_3 := up_ HB.out hx239_3
        replace hx239_4 := up_ HB.out hx239_4
        replace hx239_5 := up_ HB.out hx239_5
        replace hx239_6 := up_ HB.out hx239_6
        replace hx239_7 := up_ HB.out hx239_7
        replace hx239_8 := up_ HB.out hx239_8
        replace p239 := eq_true p239
        replace q239 := eq_true q239
        have p240 : 0 ≤ (x6_1 : Int) := of_decide_eq_true (by first | (with_reducible assumption) | assumption)
        have q240 : x6_1 < (l0.length : Int) := of_decide_eq_true (by first | (with_reducible assumption) | assumption)
        obtain ⟨ad240, e240, hx240_0, hx240_1, hx240_2, hx240_3, hx240_4, hx240_5, hx240_6, hx240_7, hx240_8⟩ := at_T30 HR0.out x6_1 p240 q240
        obtain rfl : ad239 = ad240 := (by injection e240)
        replace hx240_0 := up_ HB.out hx240_0
        replace hx240_1 := up_ HB.out hx240_1
        replace hx240_2 := up_ HB.out hx240_2
        replace hx240_3 := up_ HB.out hx240_3
        replace hx240_4 := up_ HB.out hx240_4
        replace hx240_5 := up_ HB.out hx240_5
        replace hx240_6 := up_ HB.out hx240_6
        replace hx240_7 := up_ HB.out hx240_7
        replace hx240_8 := up_ HB.out hx240_8
        replace p240 := eq_true p240
        replace q240 := eq_true q240
        have p241 : 0 ≤ (x6_1 : Int) := of_decide_eq_true (by first | (with_reducible assumption) | assumption)
        have q241 : x6_1 < (l0.length : Int) := of_decide_eq_true (by first | (with_reducible assumption) | assumption)
        obtain ⟨ad241, e241, hx241_0, hx241_1, hx241_2, hx241_3, hx241_4, hx241_5, hx241_6, hx241_7, hx241_8⟩ := at_T30 HR0.out x6_1 p241 q241
        obtain rfl : ad239 = ad241 := (by injection e241)
        replace hx241_0 := up_ HB.out hx241_0
        replace hx241_1 := up_ HB.out hx241_1
        replace hx241_2 := up_ HB.out hx241_2
        replace hx241_3 := up_ HB.out hx241_3
        replace hx241_4 := up_ HB.out hx241_4
        replace hx241_5 := up_ HB.out hx241_5
        replace hx241_6 := up_ HB.out hx241_6
        replace hx241_7 := up_ HB.out hx241_7
        replace hx241_8 := up_ HB.out hx241_8
        replace p241 := eq_true p241
        replace q241 := eq_true q241
        go_wp2_with (first | (go_at_call 20; (with_reducible refine (outlawref23_Own.calls k1 _ _ l0 a1 ((rd_T30 l0 x6_1).f2.f2) false _ ?side1 ?side2 A7.out).mono ?_); (case side1 => repeat (first | exact (Kd.C_below HR0.out HB.out) | (with_reducible refine Kd.C_alloc ?_ _) | (with_reducible refine Kd.C_drewN ?_ _) | (with_reducible refine Kd.C_drew ?_))); (case side2 => exact HC0.out); rintro e w12 ⟨rfl, hb⟩; have n0_ := Aside0.mk (Kd.R_below (by (with_reducible repeat (first | apply Kd.R_alloc | apply Kd.R_drewN | apply Kd.R_drew)); exact HO_5.out) hb); have n1_ := Aside0.mk (below_step (by repeat (first | (with_reducible first | exact HB.out | apply a1_ | apply a2_ | apply a3_) | exact HB.out)) hb); clear HO_5; clear HB; have HO_5 := n0_; have HB := n1_; clear n0_ n1_; (try clear hb); (try clear hk)))
        go_roundg k1
        case measure => have := HK1.out; omega
        case rel => exact ⟨(x5_1), (wrap64 (x6_1 + 1)), (by first | rfl | (simp; done) | (simp [*]; done) | (simp [bneNil_, beqNil_]; done) | (simp [bneNil_, beqNil_, *]; done) | (simp_all; done)), H', ⟨by have := HK1.out; omega⟩, ⟨by (with_reducible repeat (first | apply Kd.R_alloc | apply Kd.R_drewN | apply Kd.R_drew)); exact HO_5.out⟩, ⟨by repeat (first | (with_reducible first | exact HB.out | apply a1_ | apply a2_ | apply a3_) | exact HB.out)⟩⟩
      ·rw [if_neg c6] at H
       have c6b0 : (((rd_T30 l0 x6_1).f2.f1).toList == a1.toList) = false := beq_eq_false_iff_ne.mpr c6
       have c6b1 : (((rd_T30 l0 x6_1).f2.f1).toList != a1.toList) = true := bne_iff_ne.mpr c6
       have H' := Aside0.mk H
       clear H
       have p239 : 0 ≤ (x6_1 : Int) := of_decide_eq_true (by first | (with_reducible assumption) | assumption)
       have q239 : x6_1 < (l0.length : Int) := of_decide_eq_true (by first | (with_reducible assumption) | assumption)
       obtain ⟨ad239, e239, hx239_0, hx239_1, hx239_2, hx239_3, hx239_4, hx239_5, hx239_6, hx239_7, hx239_8⟩ := at_T30 HR0.out x6_1 p239 q239
       cases e239
       replace hx239_0 := up_ HB.out hx239_0
       replace hx239_1 := up_ HB.out hx239_1
       replace hx239_2 := up_ HB.out hx239_2
       replace hx239_3 := up_ HB.out hx239_3
       replace hx239_4 := up_ HB.out hx239_4
       replace hx239_5 := up_ HB.out hx239_5
       replace hx239_6 := up_ HB.out hx239_6
       replace hx239_7 := up_ HB.out hx239_7
       replace hx239_8 := up_ HB.out hx239_8
       replace p239 := eq_true p239
       replace q239 := eq_true q239
       have p240 : 0 ≤ (x6_1 : Int) := of_decide_eq_true (by first | (with_reducible assumption) | assumption)
       have q240 : x6_1 < (l0.length : Int) := of_decide_eq_true (by first | (with_reducible assumption) | assumption)
       obtain ⟨ad240, e240, hx240_0, hx240_1, hx240_2, hx240_3, hx240_4, hx240_5, hx240_6, hx240_7, hx240_8⟩ := at_T30 HR0.out x6_1 p240 q240
       obtain rfl : ad239 = ad240 := (by injection e240)
       replace hx240_0 := up_ HB.out hx240_0
       replace hx240_1 := up_ HB.out hx240_1
       replace hx240_2 := up_ HB.out hx240_2
       replace hx240_3 := up_ HB.out hx240_3
       replace hx240_4 := up_ HB.out hx240_4
       replace hx240_5 := up_ HB.out hx240_5
       replace hx240_6 := up_ HB.out hx240_6
       replace hx240_7 := up_ HB.out hx240_7
       replace hx240_8 := up_ HB.out hx240_8
       replace p240 := eq_true p240
       replace q240 := eq_true q240
       go_wp2
       go_roundg k1
       case measure => have := HK1.out; omega
       case rel => exact ⟨(x5_1), (wrap64 (x6_1 + 1)), (by first | rfl | (simp; done) | (simp [*]; done) | (simp [bneNil_, beqNil_]; done) | (simp [bneNil_, beqNil_, *]; done) | (simp_all; done)), H', ⟨by have := HK1.out; omega⟩, ⟨by (with_reducible repeat (first | apply Kd.R_alloc | apply Kd.R_drewN | apply Kd.R_drew)); exact HO_5.out⟩, ⟨by repeat (first | (with_reducible first | exact HB.out | apply a1_ | apply a2_ | apply a3_) | exact HB.out)⟩⟩
     ·rw [if_neg c5] at H
      have c5b0 : (((rd_T30 l0 x6_1).f0) == 5) = false := beq_eq_false_iff_ne.mpr c5
      have c5b1 : (((rd_T30 l0 x6_1).f0) != 5) = true := bne_iff_ne.mpr c5
      have H' := Aside0.mk H
      clear H
      have p239 : 0 ≤ (x6_1 : Int) := of_decide_eq_true (by first | (with_reducible assumption) | assumption)
      have q239 : x6_1 < (l0.length : Int) := of_decide_eq_true (by first | (with_reducible assumption) | assumption)
      obtain ⟨ad239, e239, hx239_0, hx239_1, hx239_2, hx239_3, hx239_4, hx239_5, hx239_6, hx239_7, hx239_8⟩ := at_T30 HR0.out x6_1 p239 q239
      cases e239
      replace hx239_0 := up_ HB.out hx239_0
      replace hx239_1 := up_ HB.out hx239_1
      replace hx239_2 := up_ HB.out hx239_2
      replace hx239_3 := up_ HB.out hx239_3
      replace hx239_4 := up_ HB.out hx239_4
      replace hx239_5 := up_ HB.out hx239_5
      replace hx239_6 := up_ HB.out hx239_6
      replace hx239_7 := up_ HB.out hx239_7
      replace hx239_8 := up_ HB.out hx239_8
      replace p239 := eq_true p239
      replace q239 := eq_true q239
      go_wp2
      go_roundg k1
      case measure => have := HK1.out; omega
      case rel => exact ⟨(x5_1), (wrap64 (x6_1 + 1)), (by first | rfl | (simp; done) | (simp [*]; done) | (simp [bneNil_, beqNil_]; done) | (simp [bneNil_, beqNil_, *]; done) | (simp_all; done)), H', ⟨by have := HK1.out; omega⟩, ⟨by (with_reducible repeat (first | apply Kd.R_alloc | apply Kd.R_drewN | apply Kd.R_drew)); exact HO_5.out⟩, ⟨by repeat (first | (with_reducible first | exact HB.out | apply a1_ | apply a2_ | apply a3_) | exact HB.out)⟩⟩
    ·rw [if_neg c4] at H
     exact absurd H (by simp)
   ·rw [if_neg c3] at H
    have c3b0 : decide (x6_1 < (l0.length : Int)) = false := decide_eq_false c3
    clear c3
    replace H := Option.bind_eq_some_iff.mp H
    obtain ⟨t247, A130, H⟩ := H
    have A13 := Aside0.mk A130
    clear A130
    obtain rfl := Option.some.inj H
    obtain ⟨Ao14, co14, eo14⟩ := Kd.R_slice HO_5.out
    subst eo14
    go_wp2_with (first | ((with_reducible refine gate_callee (f := 43) rfl ?_); refine goesL_ (some 50) rfl rfl Tryd.func43 (by kernel_rfl) rfl #[.slice Ao14 x5_1.length co14] rfl (by (try simp only [List.map_toArray, List.map_cons, List.map_nil]); first | done | rfl | (simp only [List.length_drop, List.length_take]; rfl)) ?_; (with_reducible refine (outlawref18_Rising.calls _ _ x5_1 t247 _ ?side1 ?side2 A13.out).mono ?_); (case side1 => repeat (first | exact (Kd.R_reads' HO_5.out).2.2 | (with_reducible refine Kd.C_alloc ?_ _) | (with_reducible refine Kd.C_drewN ?_ _) | (with_reducible refine Kd.C_drew ?_))); (case side2 => exact (Kd.R_reads' HO_5.out).2.1); rintro e w15 ⟨v248, rfl, ho0, hb⟩; refine ⟨_, rfl, ?_⟩; have n0_ := Aside0.mk (Kd.R_elder' (by (with_reducible repeat (first | apply Kd.R_alloc | apply Kd.R_drewN | apply Kd.R_drew)); exact HO_5.out) (Kd.R_base ho0) hb); have n1_ := Aside0.mk (Kd.R_lower (Kd.R_new' ho0 (Kd.R_lt (by (with_reducible repeat (first | apply Kd.R_alloc | apply Kd.R_drewN | apply Kd.R_drew)); exact HO_5.out))) (below_size (by repeat (first | (with_reducible first | exact HB.out | apply a1_ | apply a2_ | apply a3_) | exact HB.out)))); have n2_ := Aside0.mk (below_step (by repeat (first | (with_reducible first | exact HB.out | apply a1_ | apply a2_ | apply a3_) | exact HB.out)) hb); clear HO_5; clear HB; have HO_5 := n0_; have HO249 := n1_; have HB := n2_; clear n0_ n1_ n2_; (try clear hb); (try clear hk); (try clear ho0)))
    go_ret
    exact ⟨_, by first | rfl | (simp [errW_none, errW_some] <;> rfl) | (simp [*, errW_none, errW_some] <;> rfl), by (with_reducible repeat (first | apply Kd.R_alloc | apply Kd.R_drewN | apply Kd.R_drew)); exact Kd.R_mono HO249.out (fun _ hk => trivial), by repeat (first | (with_reducible first | exact HB.out | apply a1_ | apply a2_ | apply a3_) | exact HB.out)⟩

end Go.Proofs.YtlmhgnkkdjpkcaaDoor.PA
