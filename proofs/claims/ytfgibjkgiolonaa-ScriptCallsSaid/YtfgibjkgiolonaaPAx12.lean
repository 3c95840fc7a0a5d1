import Derived.Test.YtfgibjkgiolonaaWm
import Derived.Test.YtfgibjkgiolonaaPAx0
import Derived.Test.YtfgibjkgiolonaaPAx11
namespace Go.Proofs.Ytfgibjkgiolonaa.PA
open Go.RowKit Go.Proofs.YtfgibjkgiolonaaW.PrintWords Go.Proofs.YtfgibjkgiolonaaW.PrintLast Go.Proofs.YtfgibjkgiolonaaW.PrintMore Go.Proofs.YtfgibjkgiolonaaG Go.Proofs.YtfgibjkgiolonaaX Go.Proofs.YtfgibjkgiolonaaI Go.Proofs.Ytfgibjkgiolonaa.PR
attribute [local go_sem] max2_int min2_int max_two min_two max_three min_three max_four min_four
set_option linter.unusedVariables false
set_option linter.unusedSimpArgs false
mutual
def outlawref25_step.j0 : Nat → Bool → Bool → Int → Int → Int → Bool → ByteArray → List Int → Option (Int)
 | 0, _, _, _, _, _, _, _, _ => none
 | k + 1, x12, x437000, x437001, x437002, x437003, x437004, x437005, x437006 => if x12 = true then (some 2) else (if (x437006.length : Int) > 16 then (some 4) else (outlawref25_step.l0 k 0 x437000 x437001 x437002 x437003 x437004 x437005 x437006))
def outlawref25_step.l0 : Nat → Int → Bool → Int → Int → Int → Bool → ByteArray → List Int → Option (Int)
 | 0, _, _, _, _, _, _, _, _ => none
 | k + 1, x4, x437000, x437001, x437002, x437003, x437004, x437005, x437006 => if x4 < (x437006.length : Int) then (if 0 ≤ x4 then (if (rd x437006 x4) < 0 then (some 2) else (if (rd x437006 x4) > 600 then (some 2) else (outlawref25_step.l0 k (wrap64 (x4 + 1)) x437000 x437001 x437002 x437003 x437004 x437005 x437006))) else (none)) else (some 0)
end
def outlawref25_step.f (k : Nat) (a0_0 : Bool) (a0_1 : Int) (a0_2 : Int) (a0_3 : Int) (a0_4 : Bool) (a0_5 : ByteArray) (l0_6 : List Int) : Option (Int) := (outlawref21_Check.f k a0_1 a0_2 a0_3 a0_4 a0_5).bind fun t437 => (if t437 = 0 then (if a0_0 = true then (outlawref25_step.j0 k false a0_0 a0_1 a0_2 a0_3 a0_4 a0_5 l0_6) else (outlawref25_step.j0 k (decide ((l0_6.length : Int) > 0)) a0_0 a0_1 a0_2 a0_3 a0_4 a0_5 l0_6)) else (some t437))
theorem outlawref25_step.mono_l : ∀ k, (∀ y0 y1 y2 y3 y4 y5 y6 y7, LeO (outlawref25_step.j0 k y0 y1 y2 y3 y4 y5 y6 y7) (outlawref25_step.j0 (k + 1) y0 y1 y2 y3 y4 y5 y6 y7)) ∧ (∀ y0 y1 y2 y3 y4 y5 y6 y7, LeO (outlawref25_step.l0 k y0 y1 y2 y3 y4 y5 y6 y7) (outlawref25_step.l0 (k + 1) y0 y1 y2 y3 y4 y5 y6 y7))
 | 0 => ⟨fun _ _ _ _ _ _ _ _ r h => by simp [outlawref25_step.j0] at h, fun _ _ _ _ _ _ _ _ r h => by simp [outlawref25_step.l0] at h⟩
 | k + 1 => by
  obtain ⟨ih0, ih1⟩ := outlawref25_step.mono_l k
  refine ⟨?_, ?_⟩
  ·intro y0 y1 y2 y3 y4 y5 y6 y7
   unfold outlawref25_step.j0
   repeat' first
   | (with_reducible exact ih0 _ _ _ _ _ _ _ _)
   | (with_reducible exact ih1 _ _ _ _ _ _ _ _)
   | (with_reducible exact outlawref21_Check.mono _ _ _ _ _ _)
   | (with_reducible exact LeO.refl _)
   | (with_reducible exact LeO.none _)
   | (with_reducible refine LeO.ite ?_ ?_)
   | (with_reducible refine LeO.bind ?_ (fun _ => ?_))
   | refine LeO.ite ?_ ?_
   | refine LeO.bind ?_ (fun _ => ?_)
  ·intro y0 y1 y2 y3 y4 y5 y6 y7
   unfold outlawref25_step.l0
   repeat' first
   | (with_reducible exact ih0 _ _ _ _ _ _ _ _)
   | (with_reducible exact ih1 _ _ _ _ _ _ _ _)
   | (with_reducible exact outlawref21_Check.mono _ _ _ _ _ _)
   | (with_reducible exact LeO.refl _)
   | (with_reducible exact LeO.none _)
   | (with_reducible refine LeO.ite ?_ ?_)
   | (with_reducible refine LeO.bind ?_ (fun _ => ?_))
   | refine LeO.ite ?_ ?_
   | refine LeO.bind ?_ (fun _ => ?_)
theorem outlawref25_step.mono : ∀ a0 a1 a2 a3 a4 a5 a6 k, LeO (outlawref25_step.f k a0 a1 a2 a3 a4 a5 a6) (outlawref25_step.f (k + 1) a0 a1 a2 a3 a4 a5 a6) := by
 intro a0 a1 a2 a3 a4 a5 a6 k
 obtain ⟨ih0, ih1⟩ := outlawref25_step.mono_l k
 unfold outlawref25_step.f
 repeat' first
   | (with_reducible exact ih0 _ _ _ _ _ _ _ _)
   | (with_reducible exact ih1 _ _ _ _ _ _ _ _)
   | (with_reducible exact outlawref21_Check.mono _ _ _ _ _ _)
   | (with_reducible exact LeO.refl _)
   | (with_reducible exact LeO.none _)
   | (with_reducible refine LeO.ite ?_ ?_)
   | (with_reducible refine LeO.bind ?_ (fun _ => ?_))
   | refine LeO.ite ?_ ?_
   | refine LeO.bind ?_ (fun _ => ?_)
set_option maxHeartbeats 8000000 in
set_option maxRecDepth 100000 in
theorem outlawref25_step.calls (k : Nat) (a0_0 : Bool) (a0_1 : Int) (a0_2 : Int) (a0_3 : Int) (a0_4 : Bool) (a0_5 : ByteArray) (A0_6 : Option Addr) (c0_6 : Nat) (l0_6 : List Int) (r : Int) (w : World) (hr0_6 : Kd.C (Kd.int .i64) w A0_6 l0_6.length l0_6) (hc0_6 : l0_6.length ≤ c0_6) (h : outlawref25_step.f k a0_0 a0_1 a0_2 a0_3 a0_4 a0_5 l0_6 = some r) :
  Calls Try.prog 37 #[.agg #[.bool a0_0, .int .i64 a0_1, .int .i64 a0_2, .int .i64 a0_3, .bool a0_4, .string a0_5, .slice A0_6 l0_6.length c0_6]] w fun e w' => e = .returned (.int .i64 r) ∧ Below w.heap.size w w' := by
 have hu45 := Try.underlying45
 have hu42 := Try.underlying42
 have HR0_6 := Aside0.mk hr0_6
 have HC0_6 := Aside0.mk hc0_6
 clear hr0_6 hc0_6
 have HB := Aside0.mk (Below.refl w.heap.size w)
 have H : ((outlawref21_Check.f k a0_1 a0_2 a0_3 a0_4 a0_5).bind fun t437 => (if t437 = 0 then (if a0_0 = true then (outlawref25_step.j0 k false a0_0 a0_1 a0_2 a0_3 a0_4 a0_5 l0_6) else (outlawref25_step.j0 k (decide ((l0_6.length : Int) > 0)) a0_0 a0_1 a0_2 a0_3 a0_4 a0_5 l0_6)) else (some t437))) = some r := h
 clear h
 replace H := Option.bind_eq_some_iff.mp H
 obtain ⟨t437, A20, H⟩ := H
 have A2 := Aside0.mk A20
 clear A20
 by_cases c3 : t437 = 0
 ·rw [if_pos c3] at H
  have c3b0 : (t437 == 0) = true := beq_iff_eq.mpr c3
  have c3b1 : (t437 != 0) = false := bne_eq_false_iff_eq.mpr c3
  clear c3
  have HC4 := Aside0.mk H
  clear H
  go_enter Try.func37, Try.ntmps37
  go_upto_region 4 with (first | ((with_reducible refine gate_dst (N := 1) rfl ?_); (try (refine gate_guard (by rfl) ?_; dsimp only)); refine be_ 1 #[.bool a0_0, .int .i64 a0_1, .int .i64 a0_2, .int .i64 a0_3, .bool a0_4, .string a0_5, .slice A0_6 l0_6.length c0_6] 45 ?_; intro gb436 hg w5 hbox hb; have n0_ := Aside0.mk (below_step (bl_ HB) hb); have n1_ := Aside0.mk (hbox); have n2_ := Aside0.mk ((by rw [hg]; exact (below_size (bl_ HB)) : w.heap.size ≤ gb436)); have n3_ := Aside0.mk ((by rw [hg]; exact (below_size (bl_ HB)) : w.heap.size ≤ gb436)); clear HB; have HB := n0_; have BK436 := n1_; have GW436 := n2_; have GE436 := n3_; clear n0_ n1_ n2_ n3_; clear hb hbox hg; obtain ⟨hcz6_0, hcz6_1, hcz6_2, hcz6_3, hcz6_4, hcz6_5, hcz6_6, hfz6_0, hfz6_1, hfz6_2, hfz6_3, hfz6_4, hfz6_5, hfz6_6⟩ := bb7_ BK436.out) | ((with_reducible refine gate_callee (f := 55) rfl ?_); refine gl_ (some 7) Try.func55 #[.agg #[.int .i64 a0_1, .int .i64 a0_2, .int .i64 a0_3, .bool a0_4, .string a0_5]] ?_; (with_reducible refine (outlawref21_Check.calls k a0_1 a0_2 a0_3 a0_4 a0_5 t437 _ A2.out).mono ?_); rintro e w7 ⟨rfl, hb⟩; refine ⟨_, rfl, ?_⟩; have n0_ := Aside0.mk (blk_below (kb_ BK436) hb); have n1_ := Aside0.mk (below_step (bl_ HB) hb); clear BK436; clear HB; have BK436 := n0_; have HB := n1_; clear n0_ n1_; (try clear hb); (try clear hk)))
  (try simp only [Act.put, List.setIfInBounds_toArray, List.set_cons_zero, List.set_cons_succ])
  go_cut [12] (fun v12 wc => ∃ (kq : Nat) (x12_3 : Bool), v12 = .bool x12_3 ∧ Aside0 (outlawref25_step.j0 kq x12_3 a0_0 a0_1 a0_2 a0_3 a0_4 a0_5 l0_6 = some r) ∧ Aside0 (kq ≤ k) ∧ Aside0 (wc.heap[gb436]? = some (.cells #[.bool a0_0, .int .i64 a0_1, .int .i64 a0_2, .int .i64 a0_3, .bool a0_4, .string a0_5, (.slice A0_6 l0_6.length c0_6)] 45 (0, 0))) ∧ Aside0 (Below w.heap.size w wc))
  case first =>
   have H := HC4.out
   clear HC4
   by_cases c8 : a0_0 = true
   ·subst c8
    rw [if_pos rfl] at H
    have H' := Aside0.mk H
    clear H
    obtain ⟨hcz9_0, hcz9_1, hcz9_2, hcz9_3, hcz9_4, hcz9_5, hcz9_6, hfz9_0, hfz9_1, hfz9_2, hfz9_3, hfz9_4, hfz9_5, hfz9_6⟩ := bb7_ BK436.out
    go_wp2
    all_goals
     go_meet
     case rel => exact ⟨_, (false), r_, H', ⟨by first | omega | exact Nat.le_refl _⟩, ⟨kb_ BK436⟩, ⟨bl_ HB⟩⟩
   ·replace c8 := Bool.eq_false_iff.mpr c8
    subst c8
    rw [if_neg (show ¬ (false = true) by decide)] at H
    have H' := Aside0.mk H
    clear H
    obtain ⟨hcz10_0, hcz10_1, hcz10_2, hcz10_3, hcz10_4, hcz10_5, hcz10_6, hfz10_0, hfz10_1, hfz10_2, hfz10_3, hfz10_4, hfz10_5, hfz10_6⟩ := bb7_ BK436.out
    go_wp2
    all_goals
     go_meet
     case rel => exact ⟨_, (decide ((l0_6.length : Int) > 0)), r_, H', ⟨by first | omega | exact Nat.le_refl _⟩, ⟨kb_ BK436⟩, ⟨bl_ HB⟩⟩
  case rest =>
   clear HC4
   try clear p2
   try clear c3
   try clear c3b0
   try clear c3b1
   try clear c5
   try clear c8
   try clear hcz10_0 hcz10_1 hcz10_2 hcz10_3 hcz10_4 hcz10_5 hcz10_6
   try clear hcz6_0 hcz6_1 hcz6_2 hcz6_3 hcz6_4 hcz6_5 hcz6_6
   try clear hcz9_0 hcz9_1 hcz9_2 hcz9_3 hcz9_4 hcz9_5 hcz9_6
   try clear hfz10_0 hfz10_1 hfz10_2 hfz10_3 hfz10_4 hfz10_5 hfz10_6
   try clear hfz6_0 hfz6_1 hfz6_2 hfz6_3 hfz6_4 hfz6_5 hfz6_6
   try clear hfz9_0 hfz9_1 hfz9_2 hfz9_3 hfz9_4 hfz9_5 hfz9_6
   obtain ⟨kq, x12_3, rfl, HA, HJ3, BK436, HB⟩ := hcut
   cases kq with
   | zero => exact absurd HA.out (by simp [outlawref25_step.j0])
   | succ kj3 =>
    have H := HA.out
    clear HA
    simp only [outlawref25_step.j0] at H
    by_cases c11 : x12_3 = true
    ·subst c11
     rw [if_pos rfl] at H
     obtain rfl := Option.some.inj H
     go_wp2
     go_ret
     exact ⟨rfl, bl_ HB⟩
    ·replace c11 := Bool.eq_false_iff.mpr c11
     subst c11
     rw [if_neg (show ¬ (false = true) by decide)] at H
     by_cases c12 : (l0_6.length : Int) > 16
     ·rw [if_pos c12] at H
      have c12b0 : decide (16 < (l0_6.length : Int)) = true := decide_eq_true c12
      have c12b1 : decide (16 < l0_6.length) = true := decide_eq_true (by omega)
      clear c12
      obtain rfl := Option.some.inj H
      obtain ⟨hcz13_0, hcz13_1, hcz13_2, hcz13_3, hcz13_4, hcz13_5, hcz13_6, hfz13_0, hfz13_1, hfz13_2, hfz13_3, hfz13_4, hfz13_5, hfz13_6⟩ := bb7_ BK436.out
      go_wp2
      go_ret
      exact ⟨rfl, bl_ HB⟩
     ·rw [if_neg c12] at H
      have c12b0 : decide (16 < (l0_6.length : Int)) = false := decide_eq_false c12
      have c12b1 : decide (16 < l0_6.length) = false := decide_eq_false (by omega)
      clear c12
      have H' := Aside0.mk H
      clear H
      obtain ⟨hcz14_0, hcz14_1, hcz14_2, hcz14_3, hcz14_4, hcz14_5, hcz14_6, hfz14_0, hfz14_1, hfz14_2, hfz14_3, hfz14_4, hfz14_5, hfz14_6⟩ := bb7_ BK436.out
      go_wp2
      go_loopg [4] kj3 (fun kq v4 w' => ∃ (x4_2 : Int), v4 = .int .i64 x4_2 ∧ Aside0 (outlawref25_step.l0 kq x4_2 a0_0 a0_1 a0_2 a0_3 a0_4 a0_5 l0_6 = some r) ∧ Aside0 (kq ≤ kj3) ∧ Aside0 (w'.heap[gb436]? = some (.cells #[.bool a0_0, .int .i64 a0_1, .int .i64 a0_2, .int .i64 a0_3, .bool a0_4, .string a0_5, (.slice A0_6 l0_6.length c0_6)] 45 (0, 0))) ∧ Aside0 (Below w.heap.size w w'))
      case atStart => exact ⟨(0), r_, H', ⟨Nat.le_refl _⟩, ⟨kb_ BK436⟩, ⟨bl_ HB⟩⟩
      case round =>
       clear H'
       try clear c1
       try clear p2
       try clear c3
       try clear c3b0
       try clear c3b1
       try clear c5
       try clear c8
       try clear c11
       try clear c12
       try clear c12b0
       try clear c12b1
       try clear hcz10_0 hcz10_1 hcz10_2 hcz10_3 hcz10_4 hcz10_5 hcz10_6
       try clear hcz13_0 hcz13_1 hcz13_2 hcz13_3 hcz13_4 hcz13_5 hcz13_6
       try clear hcz14_0 hcz14_1 hcz14_2 hcz14_3 hcz14_4 hcz14_5 hcz14_6
       try clear hcz6_0 hcz6_1 hcz6_2 hcz6_3 hcz6_4 hcz6_5 hcz6_6
       try clear hcz9_0 hcz9_1 hcz9_2 hcz9_3 hcz9_4 hcz9_5 hcz9_6
       try clear hfz10_0 hfz10_1 hfz10_2 hfz10_3 hfz10_4 hfz10_5 hfz10_6
       try clear hfz13_0 hfz13_1 hfz13_2 hfz13_3 hfz13_4 hfz13_5 hfz13_6
       try clear hfz14_0 hfz14_1 hfz14_2 hfz14_3 hfz14_4 hfz14_5 hfz14_6
       try clear hfz6_0 hfz6_1 hfz6_2 hfz6_3 hfz6_4 hfz6_5 hfz6_6
       try clear hfz9_0 hfz9_1 hfz9_2 hfz9_3 hfz9_4 hfz9_5 hfz9_6
       try clear p2
       obtain ⟨x4_2, rfl, HA, HK2, BK436, HB⟩ := hrel
       cases gk with
       | zero => exact absurd HA.out (by simp [outlawref25_step.l0])
       | succ k2 =>
        have H := HA.out
        clear HA
        simp only [outlawref25_step.l0] at H
        by_cases c15 : x4_2 < (l0_6.length : Int)
        ·rw [if_pos c15] at H
         have c15b0 : decide (x4_2 < (l0_6.length : Int)) = true := decide_eq_true c15
         clear c15
         by_cases c16 : 0 ≤ x4_2
         ·rw [if_pos c16] at H
          have c16b0 : decide (0 ≤ x4_2) = true := decide_eq_true c16
          clear c16
          by_cases c17 : (rd l0_6 x4_2) < 0
          ·rw [if_pos c17] at H
           have c17b0 : decide ((rd l0_6 x4_2) < 0) = true := decide_eq_true c17
           clear c17
           obtain rfl := Option.some.inj H
           obtain ⟨hcz18_0, hcz18_1, hcz18_2, hcz18_3, hcz18_4, hcz18_5, hcz18_6, hfz18_0, hfz18_1, hfz18_2, hfz18_3, hfz18_4, hfz18_5, hfz18_6⟩ := bb7_ BK436.out
           have p438 : 0 ≤ (x4_2 : Int) := of_decide_eq_true (by first | (with_reducible assumption) | assumption)
           have q438 : x4_2 < (l0_6.length : Int) := of_decide_eq_true (by first | (with_reducible assumption) | assumption)
           obtain ⟨ad438, e438, hx438_0⟩ := Kd.at_int HR0_6.out x4_2 p438 q438
           cases e438
           replace hx438_0 := up_ HB.out hx438_0
           replace p438 := eq_true p438
           replace q438 := eq_true q438
           go_wp2
           go_ret
           exact ⟨rfl, bl_ HB⟩
          ·rw [if_neg c17] at H
           have c17b0 : decide ((rd l0_6 x4_2) < 0) = false := decide_eq_false c17
           clear c17
           by_cases c19 : (rd l0_6 x4_2) > 600
           ·rw [if_pos c19] at H
            have c19b0 : decide (600 < (rd l0_6 x4_2)) = true := decide_eq_true c19
            clear c19
            obtain rfl := Option.some.inj H
            obtain ⟨hcz20_0, hcz20_1, hcz20_2, hcz20_3, hcz20_4, hcz20_5, hcz20_6, hfz20_0, hfz20_1, hfz20_2, hfz20_3, hfz20_4, hfz20_5, hfz20_6⟩ := bb7_ BK436.out
            have p438 : 0 ≤ (x4_2 : Int) := of_decide_eq_true (by first | (with_reducible assumption) | assumption)
            have q438 : x4_2 < (l0_6.length : Int) := of_decide_eq_true (by first | (with_reducible assumption) | assumption)
            obtain ⟨ad438, e438, hx438_0⟩ := Kd.at_int HR0_6.out x4_2 p438 q438
            cases e438
            replace hx438_0 := up_ HB.out hx438_0
            replace p438 := eq_true p438
            replace q438 := eq_true q438
            have p439 : 0 ≤ (x4_2 : Int) := of_decide_eq_true (by first | (with_reducible assumption) | assumption)
            have q439 : x4_2 < (l0_6.length : Int) := of_decide_eq_true (by first | (with_reducible assumption) | assumption)
            obtain ⟨ad439, e439, hx439_0⟩ := Kd.at_int HR0_6.out x4_2 p439 q439
            obtain rfl : ad438 = ad439 := (by injection e439)
            replace hx439_0 := up_ HB.out hx439_0
            replace p439 := eq_true p439
            replace q439 := eq_true q439
            go_wp2
            go_ret
            exact ⟨rfl, bl_ HB⟩
           ·rw [if_neg c19] at H
            have c19b0 : decide (600 < (rd l0_6 x4_2)) = false := decide_eq_false c19
            clear c19
            have H' := Aside0.mk H
            clear H
            obtain ⟨hcz21_0, hcz21_1, hcz21_2, hcz21_3, hcz21_4, hcz21_5, hcz21_6, hfz21_0, hfz21_1, hfz21_2, hfz21_3, hfz21_4, hfz21_5, hfz21_6⟩ := bb7_ BK436.out
            have p438 : 0 ≤ (x4_2 : Int) := of_decide_eq_true (by first | (with_reducible assumption) | assumption)
            have q438 : x4_2 < (l0_6.length : Int) := of_decide_eq_true (by first | (with_reducible assumption) | assumption)
            obtain ⟨ad438, e438, hx438_0⟩ := Kd.at_int HR0_6.out x4_2 p438 q438
            cases e438
            replace hx438_0 := up_ HB.out hx438_0
            replace p438 := eq_true p438
            replace q438 := eq_true q438
            have p439 : 0 ≤ (x4_2 : Int) := of_decide_eq_true (by first | (with_reducible assumption) | assumption)
            have q439 : x4_2 < (l0_6.length : Int) := of_decide_eq_true (by first | (with_reducible assumption) | assumption)
            obtain ⟨ad439, e439, hx439_0⟩ := Kd.at_int HR0_6.out x4_2 p439 q439
            obtain rfl : ad438 = ad439 := (by injection e439)
            replace hx439_0 := up_ HB.out hx439_0
            replace p439 := eq_true p439
            replace q439 := eq_true q439
            go_wp2
            go_roundg k2
            case measure => have := HJ3.out; have := HK2.out; omega
            case rel => exact ⟨(wrap64 (x4_2 + 1)), r_, H', ⟨by have := HJ3.out; have := HK2.out; omega⟩, ⟨kb_ BK436⟩, ⟨bl_ HB⟩⟩
         ·rw [if_neg c16] at H
          exact absurd H (by simp)
        ·rw [if_neg c15] at H
         have c15b0 : decide (x4_2 < (l0_6.length : Int)) = false := decide_eq_false c15
         clear c15
         obtain rfl := Option.some.inj H
         obtain ⟨hcz22_0, hcz22_1, hcz22_2, hcz22_3, hcz22_4, hcz22_5, hcz22_6, hfz22_0, hfz22_1, hfz22_2, hfz22_3, hfz22_4, hfz22_5, hfz22_6⟩ := bb7_ BK436.out
         go_wp2
         go_ret
         exact ⟨rfl, bl_ HB⟩
 ·rw [if_neg c3] at H
  have c3b0 : (t437 == 0) = false := beq_eq_false_iff_ne.mpr c3
  have c3b1 : (t437 != 0) = true := bne_iff_ne.mpr c3
  obtain rfl := Option.some.inj H
  go_enter Try.func37, Try.ntmps37
  go_wp2_with (first | ((with_reducible refine gate_dst (N := 1) rfl ?_); (try (refine gate_guard (by rfl) ?_; dsimp only)); refine be_ 1 #[.bool a0_0, .int .i64 a0_1, .int .i64 a0_2, .int .i64 a0_3, .bool a0_4, .string a0_5, .slice A0_6 l0_6.length c0_6] 45 ?_; intro gb436 hg w23 hbox hb; have n0_ := Aside0.mk (below_step (bl_ HB) hb); have n1_ := Aside0.mk (hbox); have n2_ := Aside0.mk ((by rw [hg]; exact (below_size (bl_ HB)) : w.heap.size ≤ gb436)); have n3_ := Aside0.mk ((by rw [hg]; exact (below_size (bl_ HB)) : w.heap.size ≤ gb436)); clear HB; have HB := n0_; have BK436 := n1_; have GW436 := n2_; have GE436 := n3_; clear n0_ n1_ n2_ n3_; clear hb hbox hg; obtain ⟨hcz24_0, hcz24_1, hcz24_2, hcz24_3, hcz24_4, hcz24_5, hcz24_6, hfz24_0, hfz24_1, hfz24_2, hfz24_3, hfz24_4, hfz24_5, hfz24_6⟩ := bb7_ BK436.out) | ((with_reducible refine gate_callee (f := 55) rfl ?_); refine gl_ (some 7) Try.func55 #[.agg #[.int .i64 a0_1, .int .i64 a0_2, .int .i64 a0_3, .bool a0_4, .string a0_5]] ?_; (with_reducible refine (outlawref21_Check.calls k a0_1 a0_2 a0_3 a0_4 a0_5 t437 _ A2.out).mono ?_); rintro e w25 ⟨rfl, hb⟩; refine ⟨_, rfl, ?_⟩; have n0_ := Aside0.mk (blk_below (kb_ BK436) hb); have n1_ := Aside0.mk (below_step (bl_ HB) hb); clear BK436; clear HB; have BK436 := n0_; have HB := n1_; clear n0_ n1_; (try clear hb); (try clear hk)))
  go_ret
  exact ⟨rfl, bl_ HB⟩
mutual
def outlawref25_Check.j0 : Nat → Bool → ByteArray → Int → List (S45) → Option (Int × Int)
 | 0, _, _, _, _ => none
 | k + 1, x17, x441000, x441001, x441002 => if x17 = true then (some (0, 2)) else (if (x441002.length : Int) > 300 then (some (0, 4)) else (outlawref25_Check.l0 k 0 x441000 x441001 x441002))
def outlawref25_Check.l0 : Nat → Int → ByteArray → Int → List (S45) → Option (Int × Int)
 | 0, _, _, _, _ => none
 | k + 1, x4, x441000, x441001, x441002 => if x4 < (x441002.length : Int) then (if 0 ≤ x4 then ((outlawref25_step.f k ((rd_T45 x441002 x4).f0) ((rd_T45 x441002 x4).f1.f0) ((rd_T45 x441002 x4).f1.f1) ((rd_T45 x441002 x4).f1.f2) ((rd_T45 x441002 x4).f1.f3) ((rd_T45 x441002 x4).f1.f4) ((rd_T45 x441002 x4).f2)).bind fun t443 => (if t443 = 0 then (outlawref25_Check.l0 k (wrap64 (x4 + 1)) x441000 x441001 x441002) else (some (x4, t443)))) else (none)) else (some (0, 0))
end
def outlawref25_Check.f (k : Nat) (a0_0 : ByteArray) (a0_1 : Int) (l0_2 : List (S45)) : Option (Int × Int) := (outlawref04_User.f k a0_0).bind fun t441 => (if t441 = true then (if a0_1 < 1 then (outlawref25_Check.j0 k true a0_0 a0_1 l0_2) else (outlawref25_Check.j0 k (decide (a0_1 > 1024)) a0_0 a0_1 l0_2)) else (some (0, 11)))
theorem outlawref25_Check.mono_l : ∀ k, (∀ y0 y1 y2 y3, LeO (outlawref25_Check.j0 k y0 y1 y2 y3) (outlawref25_Check.j0 (k + 1) y0 y1 y2 y3)) ∧ (∀ y0 y1 y2 y3, LeO (outlawref25_Check.l0 k y0 y1 y2 y3) (outlawref25_Check.l0 (k + 1) y0 y1 y2 y3))
 | 0 => ⟨fun _ _ _ _ r h => by simp [outlawref25_Check.j0] at h, fun _ _ _ _ r h => by simp [outlawref25_Check.l0] at h⟩
 | k + 1 => by
  obtain ⟨ih0, ih1⟩ := outlawref25_Check.mono_l k
  refine ⟨?_, ?_⟩
  ·intro y0 y1 y2 y3
   unfold outlawref25_Check.j0
   repeat' first
   | (with_reducible exact ih0 _ _ _ _)
   | (with_reducible exact ih1 _ _ _ _)
   | (with_reducible exact outlawref04_User.mono _ _)
   | (with_reducible exact outlawref25_step.mono _ _ _ _ _ _ _ _)
   | (with_reducible exact LeO.refl _)
   | (with_reducible exact LeO.none _)
   | (with_reducible refine LeO.ite ?_ ?_)
   | (with_reducible refine LeO.bind ?_ (fun _ => ?_))
   | refine LeO.ite ?_ ?_
   | refine LeO.bind ?_ (fun _ => ?_)
  ·intro y0 y1 y2 y3
   unfold outlawref25_Check.l0
   repeat' first
   | (with_reducible exact ih0 _ _ _ _)
   | (with_reducible exact ih1 _ _ _ _)
   | (with_reducible exact outlawref04_User.mono _ _)
   | (with_reducible exact outlawref25_step.mono _ _ _ _ _ _ _ _)
   | (with_reducible exact LeO.refl _)
   | (with_reducible exact LeO.none _)
   | (with_reducible refine LeO.ite ?_ ?_)
   | (with_reducible refine LeO.bind ?_ (fun _ => ?_))
   | refine LeO.ite ?_ ?_
   | refine LeO.bind ?_ (fun _ => ?_)
theorem outlawref25_Check.mono : ∀ a0 a1 a2 k, LeO (outlawref25_Check.f k a0 a1 a2) (outlawref25_Check.f (k + 1) a0 a1 a2) := by
 intro a0 a1 a2 k
 obtain ⟨ih0, ih1⟩ := outlawref25_Check.mono_l k
 unfold outlawref25_Check.f
 repeat' first
   | (with_reducible exact ih0 _ _ _ _)
   | (with_reducible exact ih1 _ _ _ _)
   | (with_reducible exact outlawref04_User.mono _ _)
   | (with_reducible exact outlawref25_step.mono _ _ _ _ _ _ _ _)
   | (with_reducible exact LeO.refl _)
   | (with_reducible exact LeO.none _)
   | (with_reducible refine LeO.ite ?_ ?_)
   | (with_reducible refine LeO.bind ?_ (fun _ => ?_))
   | refine LeO.ite ?_ ?_
   | refine LeO.bind ?_ (fun _ => ?_)
set_option maxHeartbeats 8000000 in
set_option maxRecDepth 100000 in
theorem outlawref25_Check.calls (k : Nat) (a0_0 : ByteArray) (a0_1 : Int) (A0_2 : Option Addr) (c0_2 : Nat) (l0_2 : List (S45)) (r1 : Int) (r2 : Int) (w : World) (hr0_2 : Kd.C k45 w A0_2 l0_2.length l0_2) (hc0_2 : l0_2.length ≤ c0_2) (h : outlawref25_Check.f k a0_0 a0_1 l0_2 = some (r1, r2)) :
  Calls Try.prog 18 #[.agg #[.string a0_0, .int .i64 a0_1, .slice A0_2 l0_2.length c0_2]] w fun e w' => e = .returned (.tuple #[.int .i64 r1, .int .i64 r2]) ∧ Below w.heap.size w w' := by
 have hu24 := Try.underlying24
 have hu45 := Try.underlying45
 have HR0_2 := Aside0.mk hr0_2
 have HC0_2 := Aside0.mk hc0_2
 clear hr0_2 hc0_2
 have HB := Aside0.mk (Below.refl w.heap.size w)
 have H : ((outlawref04_User.f k a0_0).bind fun t441 => (if t441 = true then (if a0_1 < 1 then (outlawref25_Check.j0 k true a0_0 a0_1 l0_2) else (outlawref25_Check.j0 k (decide (a0_1 > 1024)) a0_0 a0_1 l0_2)) else (some (0, 11)))) = some (r1, r2) := h
 clear h
 replace H := Option.bind_eq_some_iff.mp H
 obtain ⟨t441, A20, H⟩ := H
 have A2 := Aside0.mk A20
 clear A20
 by_cases c3 : t441 = true
 ·subst c3
  rw [if_pos rfl] at H
  have HC4 := Aside0.mk H
  clear H
  go_enter Try.func18, Try.ntmps18
  go_upto_region 3 with (first | ((with_reducible refine gate_dst (N := 1) rfl ?_); refine be_ 1 #[.string a0_0, .int .i64 a0_1, .slice A0_2 l0_2.length c0_2] 24 ?_; intro gb440 hg w5 hbox hb; have n0_ := Aside0.mk (below_step (bl_ HB) hb); have n1_ := Aside0.mk (hbox); have n2_ := Aside0.mk ((by rw [hg]; exact (below_size (bl_ HB)) : w.heap.size ≤ gb440)); have n3_ := Aside0.mk ((by rw [hg]; exact (below_size (bl_ HB)) : w.heap.size ≤ gb440)); clear HB; have HB := n0_; have BK440 := n1_; have GW440 := n2_; have GE440 := n3_; clear n0_ n1_ n2_ n3_; clear hb hbox hg; obtain ⟨hcz6_0, hcz6_1, hcz6_2, hfz6_0, hfz6_1, hfz6_2⟩ := bb3_ BK440.out) | ((with_reducible refine gate_callee (f := 36) rfl ?_); refine gl_ (some 8) Try.func36 #[.string a0_0] ?_; (with_reducible refine (outlawref04_User.calls k a0_0 true _ A2.out).mono ?_); rintro e w' ⟨rfl, ⟨nd, rfl⟩⟩; refine ⟨_, rfl, ?_⟩))
  (try simp only [Act.put, List.setIfInBounds_toArray, List.set_cons_zero, List.set_cons_succ])
  go_cut [17] (fun v17 wc => ∃ (kq : Nat) (x17_3 : Bool), v17 = .bool x17_3 ∧ Aside0 (outlawref25_Check.j0 kq x17_3 a0_0 a0_1 l0_2 = some (r1, r2)) ∧ Aside0 (kq ≤ k) ∧ Aside0 (wc.heap[gb440]? = some (.cells #[.string a0_0, .int .i64 a0_1, (.slice A0_2 l0_2.length c0_2)] 24 (0, 0))) ∧ Aside0 (Below w.heap.size w wc))
  case first =>
   have H := HC4.out
   clear HC4
   by_cases c7 : a0_1 < 1
   ·rw [if_pos c7] at H
    have c7b0 : decide (a0_1 < 1) = true := decide_eq_true c7
    clear c7
    (first | rw [c7b0] | (simp only [i64_w, i32_w]; rw [c7b0]) | skip)
    have H' := Aside0.mk H
    clear H
    obtain ⟨hcz8_0, hcz8_1, hcz8_2, hfz8_0, hfz8_1, hfz8_2⟩ := bb3_ BK440.out
    go_wp2
    all_goals
     go_meet
     case rel => exact ⟨_, (true), r_, H', ⟨by first | omega | exact Nat.le_refl _⟩, ⟨kb_ BK440⟩, ⟨bl_ HB⟩⟩
   ·rw [if_neg c7] at H
    have c7b0 : decide (a0_1 < 1) = false := decide_eq_false c7
    clear c7
    (first | rw [c7b0] | (simp only [i64_w, i32_w]; rw [c7b0]) | skip)
    have H' := Aside0.mk H
    clear H
    obtain ⟨hcz9_0, hcz9_1, hcz9_2, hfz9_0, hfz9_1, hfz9_2⟩ := bb3_ BK440.out
    go_wp2
    all_goals
     go_meet
     case rel => exact ⟨_, (decide (a0_1 > 1024)), r_, H', ⟨by first | omega | exact Nat.le_refl _⟩, ⟨kb_ BK440⟩, ⟨bl_ HB⟩⟩
  case rest =>
   clear HC4
   try clear c1
   try clear p2
   try clear c3
   try clear c7
   try clear c7b0
   try clear hcz6_0 hcz6_1 hcz6_2
   try clear hcz8_0 hcz8_1 hcz8_2
   try clear hcz9_0 hcz9_1 hcz9_2
   try clear hfz6_0 hfz6_1 hfz6_2
   try clear hfz8_0 hfz8_1 hfz8_2
   try clear hfz9_0 hfz9_1 hfz9_2
   obtain ⟨kq, x17_3, rfl, HA, HJ3, BK440, HB⟩ := hcut
   cases kq with
   | zero => exact absurd HA.out (by simp [outlawref25_Check.j0])
   | succ kj3 =>
    have H := HA.out
    clear HA
    simp only [outlawref25_Check.j0] at H
    by_cases c10 : x17_3 = true
    ·subst c10
     rw [if_pos rfl] at H
     simp only [Option.some.injEq, Prod.mk.injEq] at H
     obtain ⟨rfl, rfl⟩ := H
     go_wp2
     go_ret2
     exact ⟨rfl, bl_ HB⟩
    ·replace c10 := Bool.eq_false_iff.mpr c10
     subst c10
     rw [if_neg (show ¬ (false = true) by decide)] at H
     by_cases c11 : (l0_2.length : Int) > 300
     ·rw [if_pos c11] at H
      have c11b0 : decide (300 < (l0_2.length : Int)) = true := decide_eq_true c11
      have c11b1 : decide (300 < l0_2.length) = true := decide_eq_true (by omega)
      clear c11
      simp only [Option.some.injEq, Prod.mk.injEq] at H
      obtain ⟨rfl, rfl⟩ := H
      obtain ⟨hcz12_0, hcz12_1, hcz12_2, hfz12_0, hfz12_1, hfz12_2⟩ := bb3_ BK440.out
      go_wp2
      go_ret2
      exact ⟨rfl, bl_ HB⟩
     ·rw [if_neg c11] at H
      have c11b0 : decide (300 < (l0_2.length : Int)) = false := decide_eq_false c11
      have c11b1 : decide (300 < l0_2.length) = false := decide_eq_false (by omega)
      clear c11
      have H' := Aside0.mk H
      clear H
      obtain ⟨hcz13_0, hcz13_1, hcz13_2, hfz13_0, hfz13_1, hfz13_2⟩ := bb3_ BK440.out
      go_wp2
      go_loopg [4] kj3 (fun kq v4 w' => ∃ (x4_2 : Int), v4 = .int .i64 x4_2 ∧ Aside0 (outlawref25_Check.l0 kq x4_2 a0_0 a0_1 l0_2 = some (r1, r2)) ∧ Aside0 (kq ≤ kj3) ∧ Aside0 (w'.heap[gb440]? = some (.cells #[.string a0_0, .int .i64 a0_1, (.slice A0_2 l0_2.length c0_2)] 24 (0, 0))) ∧ Aside0 (Below w.heap.size w w'))
      case atStart => exact ⟨(0), r_, H', ⟨Nat.le_refl _⟩, ⟨kb_ BK440⟩, ⟨bl_ HB⟩⟩
      case round =>
       clear H'
       try clear c1
       try clear p2
       try clear c3
       try clear c7
       try clear c7b0
       try clear c10
       try clear c11
       try clear c11b0
       try clear c11b1
       try clear hcz12_0 hcz12_1 hcz12_2
       try clear hcz13_0 hcz13_1 hcz13_2
       try clear hcz6_0 hcz6_1 hcz6_2
       try clear hcz8_0 hcz8_1 hcz8_2
       try clear hcz9_0 hcz9_1 hcz9_2
       try clear hfz12_0 hfz12_1 hfz12_2
       try clear hfz13_0 hfz13_1 hfz13_2
       try clear hfz6_0 hfz6_1 hfz6_2
       try clear hfz8_0 hfz8_1 hfz8_2
       try clear hfz9_0 hfz9_1 hfz9_2
       try clear p2
       obtain ⟨x4_2, rfl, HA, HK2, BK440, HB⟩ := hrel
       cases gk with
       | zero => exact absurd HA.out (by simp [outlawref25_Check.l0])
       | succ k2 =>
        have H := HA.out
        clear HA
        simp only [outlawref25_Check.l0] at H
        by_cases c14 : x4_2 < (l0_2.length : Int)
        ·rw [if_pos c14] at H
         have c14b0 : decide (x4_2 < (l0_2.length : Int)) = true := decide_eq_true c14
         clear c14
         by_cases c15 : 0 ≤ x4_2
         ·rw [if_pos c15] at H
          have c15b0 : decide (0 ≤ x4_2) = true := decide_eq_true c15
          clear c15
          replace H := Option.bind_eq_some_iff.mp H
          obtain ⟨t443, A160, H⟩ := H
          have A16 := Aside0.mk A160
          clear A160
          by_cases c17 : t443 = 0
          ·rw [if_pos c17] at H
           have c17b0 : (t443 == 0) = true := beq_iff_eq.mpr c17
           have c17b1 : (t443 != 0) = false := bne_eq_false_iff_eq.mpr c17
           clear c17
           have H' := Aside0.mk H
           clear H
           obtain ⟨hcz18_0, hcz18_1, hcz18_2, hfz18_0, hfz18_1, hfz18_2⟩ := bb3_ BK440.out
           have p442 : 0 ≤ (x4_2 : Int) := of_decide_eq_true (by first | (with_reducible assumption) | assumption)
           have q442 : x4_2 < (l0_2.length : Int) := of_decide_eq_true (by first | (with_reducible assumption) | assumption)
           obtain ⟨ad442, A442_6, c442_6, e442, hx442_0, hx442_1, hx442_2, hx442_3, hx442_4, hx442_5, hx442_6, hl442_6, hi442_6⟩ := at_T45 HR0_2.out x4_2 p442 q442
           cases e442
           replace hx442_0 := up_ HB.out hx442_0
           replace hx442_1 := up_ HB.out hx442_1
           replace hx442_2 := up_ HB.out hx442_2
           replace hx442_3 := up_ HB.out hx442_3
           replace hx442_4 := up_ HB.out hx442_4
           replace hx442_5 := up_ HB.out hx442_5
           replace hx442_6 := up_ HB.out hx442_6
           have HR442_6 := Aside0.mk hi442_6
           have HC442_6 := Aside0.mk hl442_6
           clear hi442_6 hl442_6
           replace p442 := eq_true p442
           replace q442 := eq_true q442
           go_wp2_with (first | ((with_reducible refine gate_callee (f := 37) rfl ?_); refine gl_ (some 34) Try.func37 #[.agg #[.bool ((rd_T45 l0_2 x4_2).f0), .int .i64 ((rd_T45 l0_2 x4_2).f1.f0), .int .i64 ((rd_T45 l0_2 x4_2).f1.f1), .int .i64 ((rd_T45 l0_2 x4_2).f1.f2), .bool ((rd_T45 l0_2 x4_2).f1.f3), .string ((rd_T45 l0_2 x4_2).f1.f4), .slice A442_6 ((rd_T45 l0_2 x4_2).f2).length c442_6]] ?_; (with_reducible refine (outlawref25_step.calls k2 ((rd_T45 l0_2 x4_2).f0) ((rd_T45 l0_2 x4_2).f1.f0) ((rd_T45 l0_2 x4_2).f1.f1) ((rd_T45 l0_2 x4_2).f1.f2) ((rd_T45 l0_2 x4_2).f1.f3) ((rd_T45 l0_2 x4_2).f1.f4) _ _ ((rd_T45 l0_2 x4_2).f2) t443 _ ?side1 ?side2 A16.out).mono ?_); (case side1 => repeat (first | exact (Kd.C_below HR442_6.out HB.out) | (with_reducible refine Kd.C_alloc ?_ _) | (with_reducible refine Kd.C_drewN ?_ _) | (with_reducible refine Kd.C_drew ?_))); (case side2 => exact HC442_6.out); rintro e w19 ⟨rfl, hb⟩; refine ⟨_, rfl, ?_⟩; have n0_ := Aside0.mk (blk_below (kb_ BK440) hb); have n1_ := Aside0.mk (below_step (bl_ HB) hb); clear BK440; clear HB; have BK440 := n0_; have HB := n1_; clear n0_ n1_; (try clear hb); (try clear hk)))
           go_roundg k2
           case measure => have := HJ3.out; have := HK2.out; omega
           case rel => exact ⟨(wrap64 (x4_2 + 1)), r_, H', ⟨by have := HJ3.out; have := HK2.out; omega⟩, ⟨kb_ BK440⟩, ⟨bl_ HB⟩⟩
          ·rw [if_neg c17] at H
           have c17b0 : (t443 == 0) = false := beq_eq_false_iff_ne.mpr c17
           have c17b1 : (t443 != 0) = true := bne_iff_ne.mpr c17
           simp only [Option.some.injEq, Prod.mk.injEq] at H
           obtain ⟨rfl, rfl⟩ := H
           obtain ⟨hcz20_0, hcz20_1, hcz20_2, hfz20_0, hfz20_1, hfz20_2⟩ := bb3_ BK440.out
           have p442 : 0 ≤ (x4_2 : Int) := of_decide_eq_true (by first | (with_reducible assumption) | assumption)
           have q442 : x4_2 < (l0_2.length : Int) := of_decide_eq_true (by first | (with_reducible assumption) | assumption)
           obtain ⟨ad442, A442_6, c442_6, e442, hx442_0, hx442_1, hx442_2, hx442_3, hx442_4, hx442_5, hx442_6, hl442_6, hi442_6⟩ := at_T45 HR0_2.out x4_2 p442 q442
           cases e442
           replace hx442_0 := up_ HB.out hx442_0
           replace hx442_1 := up_ HB.out hx442_1
           replace hx442_2 := up_ HB.out hx442_2
           replace hx442_3 := up_ HB.out hx442_3
           replace hx442_4 := up_ HB.out hx442_4
           replace hx442_5 := up_ HB.out hx442_5
           replace hx442_6 := up_ HB.out hx442_6
           have HR442_6 := Aside0.mk hi442_6
           have HC442_6 := Aside0.mk hl442_6
           clear hi442_6 hl442_6
           replace p442 := eq_true p442
           replace q442 := eq_true q442
           go_wp2_with (first | ((with_reducible refine gate_callee (f := 37) rfl ?_); refine gl_ (some 34) Try.func37 #[.agg #[.bool ((rd_T45 l0_2 x4_2).f0), .int .i64 ((rd_T45 l0_2 x4_2).f1.f0), .int .i64 ((rd_T45 l0_2 x4_2).f1.f1), .int .i64 ((rd_T45 l0_2 x4_2).f1.f2), .bool ((rd_T45 l0_2 x4_2).f1.f3), .string ((rd_T45 l0_2 x4_2).f1.f4), .slice A442_6 ((rd_T45 l0_2 x4_2).f2).length c442_6]] ?_; (with_reducible refine (outlawref25_step.calls k2 ((rd_T45 l0_2 x4_2).f0) ((rd_T45 l0_2 x4_2).f1.f0) ((rd_T45 l0_2 x4_2).f1.f1) ((rd_T45 l0_2 x4_2).f1.f2) ((rd_T45 l0_2 x4_2).f1.f3) ((rd_T45 l0_2 x4_2).f1.f4) _ _ ((rd_T45 l0_2 x4_2).f2) t443 _ ?side1 ?side2 A16.out).mono ?_); (case side1 => repeat (first | exact (Kd.C_below HR442_6.out HB.out) | (with_reducible refine Kd.C_alloc ?_ _) | (with_reducible refine Kd.C_drewN ?_ _) | (with_reducible refine Kd.C_drew ?_))); (case side2 => exact HC442_6.out); rintro e w21 ⟨rfl, hb⟩; refine ⟨_, rfl, ?_⟩; have n0_ := Aside0.mk (blk_below (kb_ BK440) hb); have n1_ := Aside0.mk (below_step (bl_ HB) hb); clear BK440; clear HB; have BK440 := n0_; have HB := n1_; clear n0_ n1_; (try clear hb); (try clear hk)))
           go_ret2
           exact ⟨rfl, bl_ HB⟩
         ·rw [if_neg c15] at H
          exact absurd H (by simp)
        ·rw [if_neg c14] at H
         have c14b0 : decide (x4_2 < (l0_2.length : Int)) = false := decide_eq_false c14
         clear c14
         simp only [Option.some.injEq, Prod.mk.injEq] at H
         obtain ⟨rfl, rfl⟩ := H
         obtain ⟨hcz22_0, hcz22_1, hcz22_2, hfz22_0, hfz22_1, hfz22_2⟩ := bb3_ BK440.out
         go_wp2
         go_ret2
         exact ⟨rfl, bl_ HB⟩
 ·replace c3 := Bool.eq_false_iff.mpr c3
  subst c3
  rw [if_neg (show ¬ (false = true) by decide)] at H
  simp only [Option.some.injEq, Prod.mk.injEq] at H
  obtain ⟨rfl, rfl⟩ := H
  go_enter Try.func18, Try.ntmps18
  go_wp2_with (first | ((with_reducible refine gate_dst (N := 1) rfl ?_); refine be_ 1 #[.string a0_0, .int .i64 a0_1, .slice A0_2 l0_2.length c0_2] 24 ?_; intro gb440 hg w23 hbox hb; have n0_ := Aside0.mk (below_step (bl_ HB) hb); have n1_ := Aside0.mk (hbox); have n2_ := Aside0.mk ((by rw [hg]; exact (below_size (bl_ HB)) : w.heap.size ≤ gb440)); have n3_ := Aside0.mk ((by rw [hg]; exact (below_size (bl_ HB)) : w.heap.size ≤ gb440)); clear HB; have HB := n0_; have BK440 := n1_; have GW440 := n2_; have GE440 := n3_; clear n0_ n1_ n2_ n3_; clear hb hbox hg; obtain ⟨hcz24_0, hcz24_1, hcz24_2, hfz24_0, hfz24_1, hfz24_2⟩ := bb3_ BK440.out) | ((with_reducible refine gate_callee (f := 36) rfl ?_); refine gl_ (some 8) Try.func36 #[.string a0_0] ?_; (with_reducible refine (outlawref04_User.calls k a0_0 false _ A2.out).mono ?_); rintro e w' ⟨rfl, ⟨nd, rfl⟩⟩; refine ⟨_, rfl, ?_⟩))
  go_ret2
  exact ⟨rfl, bl_ HB⟩
end Go.Proofs.Ytfgibjkgiolonaa.PA
