import Derived.Test.YtfgibjkgiolonaaWm
import Derived.Test.YtfgibjkgiolonaaPAx0
import Derived.Test.YtfgibjkgiolonaaPAx4
namespace Go.Proofs.Ytfgibjkgiolonaa.PA
open Go.RowKit Go.Proofs.YtfgibjkgiolonaaW.PrintWords Go.Proofs.YtfgibjkgiolonaaW.PrintLast Go.Proofs.YtfgibjkgiolonaaW.PrintMore Go.Proofs.YtfgibjkgiolonaaG Go.Proofs.YtfgibjkgiolonaaX Go.Proofs.YtfgibjkgiolonaaI Go.Proofs.Ytfgibjkgiolonaa.PR
attribute [local go_sem] max2_int min2_int max_two min_two max_three min_three max_four min_four
set_option linter.unusedVariables false
set_option linter.unusedSimpArgs false
def outlawkit_LightInputs.l0 : Nat → List (S42) → Int → Int → Int → Option (Bool)
 | 0, _, _, _, _ => none
 | k + 1, x0, x1, x5, x6 => if x6 < (x0.length : Int) then (if 0 ≤ x6 then (if (wrap64 (x5 + (mn (((rd_T42 x0 x6).f4).size : Int) 30001))) > 30000 then (some false) else (outlawkit_LightInputs.l0 k x0 x1 (wrap64 (x5 + (mn (((rd_T42 x0 x6).f4).size : Int) 30001))) (wrap64 (x6 + 1)))) else (none)) else (some (decide ((x0.length : Int) ≤ x1)))
def outlawkit_LightInputs.f (k : Nat) (l0 : List (S42)) (a1 : Int) : Option (Bool) := outlawkit_LightInputs.l0 k l0 a1 0 0
theorem outlawkit_LightInputs.mono_l : ∀ k, (∀ y0 y1 y2 y3, LeO (outlawkit_LightInputs.l0 k y0 y1 y2 y3) (outlawkit_LightInputs.l0 (k + 1) y0 y1 y2 y3))
 | 0 => fun _ _ _ _ r h => by simp [outlawkit_LightInputs.l0] at h
 | k + 1 => by
  have ih0 := outlawkit_LightInputs.mono_l k
  ·intro y0 y1 y2 y3
   unfold outlawkit_LightInputs.l0
   repeat' first
   | (with_reducible exact ih0 _ _ _ _)
   | (with_reducible exact LeO.refl _)
   | (with_reducible exact LeO.none _)
   | (with_reducible refine LeO.ite ?_ ?_)
   | (with_reducible refine LeO.bind ?_ (fun _ => ?_))
   | refine LeO.ite ?_ ?_
   | refine LeO.bind ?_ (fun _ => ?_)
theorem outlawkit_LightInputs.mono : ∀ a0 a1 k, LeO (outlawkit_LightInputs.f k a0 a1) (outlawkit_LightInputs.f (k + 1) a0 a1) := by
 intro a0 a1 k
 have ih0 := outlawkit_LightInputs.mono_l k
 unfold outlawkit_LightInputs.f
 repeat' first
   | (with_reducible exact ih0 _ _ _ _)
   | (with_reducible exact LeO.refl _)
   | (with_reducible exact LeO.none _)
   | (with_reducible refine LeO.ite ?_ ?_)
   | (with_reducible refine LeO.bind ?_ (fun _ => ?_))
   | refine LeO.ite ?_ ?_
   | refine LeO.bind ?_ (fun _ => ?_)
set_option maxHeartbeats 8000000 in
set_option maxRecDepth 100000 in
theorem outlawkit_LightInputs.calls (k : Nat) (A0 : Option Addr) (c0 : Nat) (l0 : List (S42)) (a1 : Int) (r : Bool) (w : World) (hr0 : Kd.C k42 w A0 l0.length l0) (hc0 : l0.length ≤ c0) (h : outlawkit_LightInputs.f k l0 a1 = some r) :
  Calls Try.prog 24 #[.slice A0 l0.length c0, .int .i64 a1] w fun e w' => e = .returned (.bool r) ∧ Below w.heap.size w w' := by
 have HR0 := Aside0.mk hr0
 have HC0 := Aside0.mk hc0
 clear hr0 hc0
 have HB := Aside0.mk (Below.refl w.heap.size w)
 have H : (outlawkit_LightInputs.l0 k l0 a1 0 0) = some r := h
 clear h
 have H' := Aside0.mk H
 clear H
 go_enter Try.func24, Try.ntmps24
 go_wp2
 go_loopg [5, 6] k (fun kq v5 v6 w' => ∃ (x5_1 : Int) (x6_1 : Int), v5 = .int .i64 x5_1 ∧ v6 = .int .i64 x6_1 ∧ Aside0 (outlawkit_LightInputs.l0 kq l0 a1 x5_1 x6_1 = some r) ∧ Aside0 (kq ≤ k) ∧ Aside0 (Below w.heap.size w w'))
 case atStart => exact ⟨(0), (0), r_, r_, H', ⟨Nat.le_refl _⟩, ⟨bl_ HB⟩⟩
 case round =>
  clear H'
  try clear c2
  try clear p2
  obtain ⟨x5_1, x6_1, rfl, rfl, HA, HK1, HB⟩ := hrel
  cases gk with
  | zero => exact absurd HA.out (by simp [outlawkit_LightInputs.l0])
  | succ k1 =>
   have H := HA.out
   clear HA
   simp only [outlawkit_LightInputs.l0] at H
   by_cases c3 : x6_1 < (l0.length : Int)
   ·rw [if_pos c3] at H
    have c3b0 : decide (x6_1 < (l0.length : Int)) = true := decide_eq_true c3
    clear c3
    by_cases c4 : 0 ≤ x6_1
    ·rw [if_pos c4] at H
     have c4b0 : decide (0 ≤ x6_1) = true := decide_eq_true c4
     clear c4
     obtain ⟨ji5, hji5⟩ : ∃ j_ : Int, (mn (((rd_T42 l0 x6_1).f4).size : Int) 30001) = j_ := ⟨_, rfl⟩
     first | rw [hji5] at H | simp only [hji5] at H
     have hji5_ : (if 30001 < (((rd_T42 l0 x6_1).f4).size : Int) then 30001 else (((rd_T42 l0 x6_1).f4).size : Int)) = ji5 := hji5
     by_cases c6 : (wrap64 (x5_1 + (ji5))) > 30000
     ·rw [if_pos c6] at H
      have c6b0 : decide (30000 < (wrap64 (x5_1 + (ji5)))) = true := decide_eq_true c6
      clear c6
      obtain rfl := Option.some.inj H
      have p200 : 0 ≤ (x6_1 : Int) := of_decide_eq_true (by first | (with_reducible assumption) | assumption)
      have q200 : x6_1 < (l0.length : Int) := of_decide_eq_true (by first | (with_reducible assumption) | assumption)
      obtain ⟨ad200, e200, hx200_0, hx200_1, hx200_2, hx200_3, hx200_4⟩ := at_T42 HR0.out x6_1 p200 q200
      cases e200
      replace hx200_0 := up_ HB.out hx200_0
      replace hx200_1 := up_ HB.out hx200_1
      replace hx200_2 := up_ HB.out hx200_2
      replace hx200_3 := up_ HB.out hx200_3
      replace hx200_4 := up_ HB.out hx200_4
      replace p200 := eq_true p200
      replace q200 := eq_true q200
      go_wp2
      go_ret
      exact ⟨by first | rfl | (simp [errW_none, errW_some] <;> rfl) | (simp only [← hji5]; first | rfl | (simp [errW_none, errW_some] <;> rfl)) | (simp [*, errW_none, errW_some] <;> rfl), bl_ HB⟩
     ·rw [if_neg c6] at H
      have c6b0 : decide (30000 < (wrap64 (x5_1 + (ji5)))) = false := decide_eq_false c6
      clear c6
      have H' := Aside0.mk H
      clear H
      have p200 : 0 ≤ (x6_1 : Int) := of_decide_eq_true (by first | (with_reducible assumption) | assumption)
      have q200 : x6_1 < (l0.length : Int) := of_decide_eq_true (by first | (with_reducible assumption) | assumption)
      obtain ⟨ad200, e200, hx200_0, hx200_1, hx200_2, hx200_3, hx200_4⟩ := at_T42 HR0.out x6_1 p200 q200
      cases e200
      replace hx200_0 := up_ HB.out hx200_0
      replace hx200_1 := up_ HB.out hx200_1
      replace hx200_2 := up_ HB.out hx200_2
      replace hx200_3 := up_ HB.out hx200_3
      replace hx200_4 := up_ HB.out hx200_4
      replace p200 := eq_true p200
      replace q200 := eq_true q200
      go_wp2
      go_roundg k1
      case measure => have := HK1.out; omega
      case rel => exact ⟨(wrap64 (x5_1 + (ji5))), (wrap64 (x6_1 + 1)), (by first | rfl | (simp; done) | (simp only [← hji5] <;> (first | rfl | simp)) | (simp [*]; done)), r_, H', ⟨by have := HK1.out; omega⟩, ⟨bl_ HB⟩⟩
    ·rw [if_neg c4] at H
     exact absurd H (by simp)
   ·rw [if_neg c3] at H
    have c3b0 : decide (x6_1 < (l0.length : Int)) = false := decide_eq_false c3
    clear c3
    obtain rfl := Option.some.inj H
    go_wp2
    go_ret
    exact ⟨rfl, bl_ HB⟩
mutual
def outlawlaw25_light.j0 : Nat → Bool → ByteArray → Int → List (S45) → Option (Bool)
 | 0, _, _, _, _ => none
 | k + 1, x19, x202000, x202001, x202002 => if x19 = true then (some false) else (outlawlaw25_light.l0 k 0 x202000 x202001 x202002)
def outlawlaw25_light.l0 : Nat → Int → ByteArray → Int → List (S45) → Option (Bool)
 | 0, _, _, _, _ => none
 | k + 1, x3, x202000, x202001, x202002 => if x3 < (x202002.length : Int) then (if 0 ≤ x3 then (if (((rd_T45 x202002 x3).f2).length : Int) > 40 then (some false) else (outlawlaw25_light.l0 k (wrap64 (x3 + 1)) x202000 x202001 x202002)) else (none)) else (some true)
end
def outlawlaw25_light.f (k : Nat) (a0_0 : ByteArray) (a0_1 : Int) (l0_2 : List (S45)) : Option (Bool) := if (l0_2.length : Int) > 310 then (outlawlaw25_light.j0 k true a0_0 a0_1 l0_2) else (if (a0_0.size : Int) > 400 then (outlawlaw25_light.j0 k true a0_0 a0_1 l0_2) else ((outlawlaw25_inputs.f k a0_0 a0_1 l0_2).bind fun t202 => ((outlawkit_LightInputs.f k t202 310).bind fun t205 => (outlawlaw25_light.j0 k (!t205) a0_0 a0_1 l0_2))))
theorem outlawlaw25_light.mono_l : ∀ k, (∀ y0 y1 y2 y3, LeO (outlawlaw25_light.j0 k y0 y1 y2 y3) (outlawlaw25_light.j0 (k + 1) y0 y1 y2 y3)) ∧ (∀ y0 y1 y2 y3, LeO (outlawlaw25_light.l0 k y0 y1 y2 y3) (outlawlaw25_light.l0 (k + 1) y0 y1 y2 y3))
 | 0 => ⟨fun _ _ _ _ r h => by simp [outlawlaw25_light.j0] at h, fun _ _ _ _ r h => by simp [outlawlaw25_light.l0] at h⟩
 | k + 1 => by
  obtain ⟨ih0, ih1⟩ := outlawlaw25_light.mono_l k
  refine ⟨?_, ?_⟩
  ·intro y0 y1 y2 y3
   unfold outlawlaw25_light.j0
   repeat' first
   | (with_reducible exact ih0 _ _ _ _)
   | (with_reducible exact ih1 _ _ _ _)
   | (with_reducible exact outlawkit_LightInputs.mono _ _ _)
   | (with_reducible exact outlawlaw25_inputs.mono _ _ _ _)
   | (with_reducible exact LeO.refl _)
   | (with_reducible exact LeO.none _)
   | (with_reducible refine LeO.ite ?_ ?_)
   | (with_reducible refine LeO.bind ?_ (fun _ => ?_))
   | refine LeO.ite ?_ ?_
   | refine LeO.bind ?_ (fun _ => ?_)
  ·intro y0 y1 y2 y3
   unfold outlawlaw25_light.l0
   repeat' first
   | (with_reducible exact ih0 _ _ _ _)
   | (with_reducible exact ih1 _ _ _ _)
   | (with_reducible exact outlawkit_LightInputs.mono _ _ _)
   | (with_reducible exact outlawlaw25_inputs.mono _ _ _ _)
   | (with_reducible exact LeO.refl _)
   | (with_reducible exact LeO.none _)
   | (with_reducible refine LeO.ite ?_ ?_)
   | (with_reducible refine LeO.bind ?_ (fun _ => ?_))
   | refine LeO.ite ?_ ?_
   | refine LeO.bind ?_ (fun _ => ?_)
theorem outlawlaw25_light.mono : ∀ a0 a1 a2 k, LeO (outlawlaw25_light.f k a0 a1 a2) (outlawlaw25_light.f (k + 1) a0 a1 a2) := by
 intro a0 a1 a2 k
 obtain ⟨ih0, ih1⟩ := outlawlaw25_light.mono_l k
 unfold outlawlaw25_light.f
 repeat' first
   | (with_reducible exact ih0 _ _ _ _)
   | (with_reducible exact ih1 _ _ _ _)
   | (with_reducible exact outlawkit_LightInputs.mono _ _ _)
   | (with_reducible exact outlawlaw25_inputs.mono _ _ _ _)
   | (with_reducible exact LeO.refl _)
   | (with_reducible exact LeO.none _)
   | (with_reducible refine LeO.ite ?_ ?_)
   | (with_reducible refine LeO.bind ?_ (fun _ => ?_))
   | refine LeO.ite ?_ ?_
   | refine LeO.bind ?_ (fun _ => ?_)
set_option maxHeartbeats 8000000 in
set_option maxRecDepth 100000 in
theorem outlawlaw25_light.calls (k : Nat) (a0_0 : ByteArray) (a0_1 : Int) (A0_2 : Option Addr) (c0_2 : Nat) (l0_2 : List (S45)) (r : Bool) (w : World) (hr0_2 : Kd.C k45 w A0_2 l0_2.length l0_2) (hc0_2 : l0_2.length ≤ c0_2) (h : outlawlaw25_light.f k a0_0 a0_1 l0_2 = some r) :
  Calls Try.prog 9 #[.agg #[.string a0_0, .int .i64 a0_1, .slice A0_2 l0_2.length c0_2]] w fun e w' => e = .returned (.bool r) ∧ Below w.heap.size w w' := by
 have hu24 := Try.underlying24
 have HR0_2 := Aside0.mk hr0_2
 have HC0_2 := Aside0.mk hc0_2
 clear hr0_2 hc0_2
 have HB := Aside0.mk (Below.refl w.heap.size w)
 have H : (if (l0_2.length : Int) > 310 then (outlawlaw25_light.j0 k true a0_0 a0_1 l0_2) else (if (a0_0.size : Int) > 400 then (outlawlaw25_light.j0 k true a0_0 a0_1 l0_2) else ((outlawlaw25_inputs.f k a0_0 a0_1 l0_2).bind fun t202 => ((outlawkit_LightInputs.f k t202 310).bind fun t205 => (outlawlaw25_light.j0 k (!t205) a0_0 a0_1 l0_2))))) = some r := h
 clear h
 have HC2 := Aside0.mk H
 clear H
 go_enter Try.func9, Try.ntmps9
 go_upto_region 1 with (first | ((with_reducible refine gate_dst (N := 1) rfl ?_); (try (refine gate_guard (by rfl) ?_; dsimp only)); refine be_ 1 #[.string a0_0, .int .i64 a0_1, .slice A0_2 l0_2.length c0_2] 24 ?_; intro gb201 hg w3 hbox hb; have n0_ := Aside0.mk (below_step (bl_ HB) hb); have n1_ := Aside0.mk (hbox); have n2_ := Aside0.mk ((by rw [hg]; exact (below_size (bl_ HB)) : w.heap.size ≤ gb201)); have n3_ := Aside0.mk ((by rw [hg]; exact (below_size (bl_ HB)) : w.heap.size ≤ gb201)); clear HB; have HB := n0_; have BK201 := n1_; have GW201 := n2_; have GE201 := n3_; clear n0_ n1_ n2_ n3_; clear hb hbox hg))
 (try simp only [Act.put, List.setIfInBounds_toArray, List.set_cons_zero, List.set_cons_succ])
 go_cut [19] (fun v19 wc => ∃ (kq : Nat) (x19_1 : Bool), v19 = .bool x19_1 ∧ Aside0 (outlawlaw25_light.j0 kq x19_1 a0_0 a0_1 l0_2 = some r) ∧ Aside0 (kq ≤ k) ∧ Aside0 (wc.heap[gb201]? = some (.cells #[.string a0_0, .int .i64 a0_1, (.slice A0_2 l0_2.length c0_2)] 24 (0, 0))) ∧ Aside0 (Below w.heap.size w wc))
 case first =>
  have H := HC2.out
  clear HC2
  by_cases c4 : (l0_2.length : Int) > 310
  ·rw [if_pos c4] at H
   have c4b0 : decide (310 < (l0_2.length : Int)) = true := decide_eq_true c4
   have c4b1 : decide (310 < l0_2.length) = true := decide_eq_true (by omega)
   clear c4
   (first | rw [c4b0] | (simp only [i64_w, i32_w]; rw [c4b0]) | skip)
   have H' := Aside0.mk H
   clear H
   obtain ⟨hcz5_0, hcz5_1, hcz5_2, hfz5_0, hfz5_1, hfz5_2⟩ := bb3_ BK201.out
   go_wp2
   all_goals
    go_meet
    case rel => exact ⟨_, (true), r_, H', ⟨by first | omega | exact Nat.le_refl _⟩, ⟨kb_ BK201⟩, ⟨bl_ HB⟩⟩
  ·rw [if_neg c4] at H
   have c4b0 : decide (310 < (l0_2.length : Int)) = false := decide_eq_false c4
   have c4b1 : decide (310 < l0_2.length) = false := decide_eq_false (by omega)
   clear c4
   (first | rw [c4b0] | (simp only [i64_w, i32_w]; rw [c4b0]) | skip)
   by_cases c6 : (a0_0.size : Int) > 400
   ·rw [if_pos c6] at H
    have c6b0 : decide (400 < (a0_0.size : Int)) = true := decide_eq_true c6
    have c6b1 : decide (400 < a0_0.size) = true := decide_eq_true (by omega)
    clear c6
    have H' := Aside0.mk H
    clear H
    obtain ⟨hcz7_0, hcz7_1, hcz7_2, hfz7_0, hfz7_1, hfz7_2⟩ := bb3_ BK201.out
    go_wp2
    all_goals
     go_meet
     case rel => exact ⟨_, (true), r_, H', ⟨by first | omega | exact Nat.le_refl _⟩, ⟨kb_ BK201⟩, ⟨bl_ HB⟩⟩
   ·rw [if_neg c6] at H
    have c6b0 : decide (400 < (a0_0.size : Int)) = false := decide_eq_false c6
    have c6b1 : decide (400 < a0_0.size) = false := decide_eq_false (by omega)
    clear c6
    replace H := Option.bind_eq_some_iff.mp H
    obtain ⟨t202, A80, H⟩ := H
    have A8 := Aside0.mk A80
    clear A80
    replace H := Option.bind_eq_some_iff.mp H
    obtain ⟨t205, A90, H⟩ := H
    have A9 := Aside0.mk A90
    clear A90
    have H' := Aside0.mk H
    clear H
    obtain ⟨hcz10_0, hcz10_1, hcz10_2, hfz10_0, hfz10_1, hfz10_2⟩ := bb3_ BK201.out
    go_wp2_with (first | (go_at_call 23; (with_reducible refine (outlawlaw25_inputs.calls k a0_0 a0_1 _ _ l0_2 t202 _ ?side1 ?side2 A8.out).mono ?_); (case side1 => repeat (first | exact (Kd.C_below HR0_2.out HB.out) | (with_reducible refine Kd.C_alloc ?_ _) | (with_reducible refine Kd.C_drewN ?_ _) | (with_reducible refine Kd.C_drew ?_))); (case side2 => exact HC0_2.out); rintro e w11 ⟨v203, rfl, ho0, hb⟩; have n0_ := Aside0.mk (Kd.R_lower ho0 (below_size (bl_ HB))); have n1_ := Aside0.mk (blk_below (kb_ BK201) hb); have n2_ := Aside0.mk (below_step (bl_ HB) hb); clear BK201; clear HB; have HO204 := n0_; have BK201 := n1_; have HB := n2_; clear n0_ n1_ n2_; (try clear hb); (try clear hk); (try clear ho0); obtain ⟨Ao12, co12, eo12⟩ := Kd.R_slice HO204.out; subst eo12) | (go_at_call 24; (with_reducible refine (outlawkit_LightInputs.calls k _ _ t202 310 t205 _ ?side1 ?side2 A9.out).mono ?_); (case side1 => repeat (first | exact (Kd.R_reads' HO204.out).2.2 | (with_reducible refine Kd.C_alloc ?_ _) | (with_reducible refine Kd.C_drewN ?_ _) | (with_reducible refine Kd.C_drew ?_))); (case side2 => exact (Kd.R_reads' HO204.out).2.1); rintro e w13 ⟨rfl, hb⟩; have n0_ := Aside0.mk (Kd.R_below (by (with_reducible repeat (first | apply Kd.R_alloc | apply Kd.R_drewN | apply Kd.R_drew)); exact HO204.out) hb); have n1_ := Aside0.mk (blk_below (kb_ BK201) hb); have n2_ := Aside0.mk (below_step (bl_ HB) hb); clear HO204; clear BK201; clear HB; have HO204 := n0_; have BK201 := n1_; have HB := n2_; clear n0_ n1_ n2_; (try clear hb); (try clear hk)))
    all_goals
     go_meet
     case rel => exact ⟨_, (!t205), r_, H', ⟨by first | omega | exact Nat.le_refl _⟩, ⟨kb_ BK201⟩, ⟨bl_ HB⟩⟩
 case rest =>
  clear HC2
  try clear p2
  try clear c4
  try clear c4b0
  try clear c4b1
  try clear c6
  try clear c6b0
  try clear c6b1
  try clear c9
  try clear hcz10_0 hcz10_1 hcz10_2
  try clear hcz5_0 hcz5_1 hcz5_2
  try clear hcz7_0 hcz7_1 hcz7_2
  try clear hfz10_0 hfz10_1 hfz10_2
  try clear hfz5_0 hfz5_1 hfz5_2
  try clear hfz7_0 hfz7_1 hfz7_2
  obtain ⟨kq, x19_1, rfl, HA, HJ1, BK201, HB⟩ := hcut
  cases kq with
  | zero => exact absurd HA.out (by simp [outlawlaw25_light.j0])
  | succ kj1 =>
   have H := HA.out
   clear HA
   simp only [outlawlaw25_light.j0] at H
   by_cases c14 : x19_1 = true
   ·subst c14
    rw [if_pos rfl] at H
    obtain rfl := Option.some.inj H
    go_wp2
    go_ret
    exact ⟨rfl, bl_ HB⟩
   ·replace c14 := Bool.eq_false_iff.mpr c14
    subst c14
    rw [if_neg (show ¬ (false = true) by decide)] at H
    have H' := Aside0.mk H
    clear H
    go_wp2
    go_loopg [3] kj1 (fun kq v3 w' => ∃ (x3_2 : Int), v3 = .int .i64 x3_2 ∧ Aside0 (outlawlaw25_light.l0 kq x3_2 a0_0 a0_1 l0_2 = some r) ∧ Aside0 (kq ≤ kj1) ∧ Aside0 (w'.heap[gb201]? = some (.cells #[.string a0_0, .int .i64 a0_1, (.slice A0_2 l0_2.length c0_2)] 24 (0, 0))) ∧ Aside0 (Below w.heap.size w w'))
    case atStart => exact ⟨(0), r_, H', ⟨Nat.le_refl _⟩, ⟨kb_ BK201⟩, ⟨bl_ HB⟩⟩
    case round =>
     clear H'
     try clear c1
     try clear p2
     try clear c4
     try clear c4b0
     try clear c4b1
     try clear c6
     try clear c6b0
     try clear c6b1
     try clear c9
     try clear c14
     try clear hcz10_0 hcz10_1 hcz10_2
     try clear hcz5_0 hcz5_1 hcz5_2
     try clear hcz7_0 hcz7_1 hcz7_2
     try clear hfz10_0 hfz10_1 hfz10_2
     try clear hfz5_0 hfz5_1 hfz5_2
     try clear hfz7_0 hfz7_1 hfz7_2
     try clear p2
     obtain ⟨x3_2, rfl, HA, HK2, BK201, HB⟩ := hrel
     cases gk with
     | zero => exact absurd HA.out (by simp [outlawlaw25_light.l0])
     | succ k2 =>
      have H := HA.out
      clear HA
      simp only [outlawlaw25_light.l0] at H
      by_cases c15 : x3_2 < (l0_2.length : Int)
      ·rw [if_pos c15] at H
       have c15b0 : decide (x3_2 < (l0_2.length : Int)) = true := decide_eq_true c15
       clear c15
       by_cases c16 : 0 ≤ x3_2
       ·rw [if_pos c16] at H
        have c16b0 : decide (0 ≤ x3_2) = true := decide_eq_true c16
        clear c16
        by_cases c17 : (((rd_T45 l0_2 x3_2).f2).length : Int) > 40
        ·rw [if_pos c17] at H
         have c17b0 : decide (40 < (((rd_T45 l0_2 x3_2).f2).length : Int)) = true := decide_eq_true c17
         have c17b1 : decide (40 < ((rd_T45 l0_2 x3_2).f2).length) = true := decide_eq_true (by omega)
         clear c17
         obtain rfl := Option.some.inj H
         obtain ⟨hcz18_0, hcz18_1, hcz18_2, hfz18_0, hfz18_1, hfz18_2⟩ := bb3_ BK201.out
         have p206 : 0 ≤ (x3_2 : Int) := of_decide_eq_true (by first | (with_reducible assumption) | assumption)
         have q206 : x3_2 < (l0_2.length : Int) := of_decide_eq_true (by first | (with_reducible assumption) | assumption)
         obtain ⟨ad206, A206_6, c206_6, e206, hx206_0, hx206_1, hx206_2, hx206_3, hx206_4, hx206_5, hx206_6, hl206_6, hi206_6⟩ := at_T45 HR0_2.out x3_2 p206 q206
         cases e206
         replace hx206_0 := up_ HB.out hx206_0
         replace hx206_1 := up_ HB.out hx206_1
         replace hx206_2 := up_ HB.out hx206_2
         replace hx206_3 := up_ HB.out hx206_3
         replace hx206_4 := up_ HB.out hx206_4
         replace hx206_5 := up_ HB.out hx206_5
         replace hx206_6 := up_ HB.out hx206_6
         have HR206_6 := Aside0.mk hi206_6
         have HC206_6 := Aside0.mk hl206_6
         clear hi206_6 hl206_6
         replace p206 := eq_true p206
         replace q206 := eq_true q206
         go_wp2
         go_ret
         exact ⟨rfl, bl_ HB⟩
        ·rw [if_neg c17] at H
         have c17b0 : decide (40 < (((rd_T45 l0_2 x3_2).f2).length : Int)) = false := decide_eq_false c17
         have c17b1 : decide (40 < ((rd_T45 l0_2 x3_2).f2).length) = false := decide_eq_false (by omega)
         clear c17
         have H' := Aside0.mk H
         clear H
         obtain ⟨hcz19_0, hcz19_1, hcz19_2, hfz19_0, hfz19_1, hfz19_2⟩ := bb3_ BK201.out
         have p206 : 0 ≤ (x3_2 : Int) := of_decide_eq_true (by first | (with_reducible assumption) | assumption)
         have q206 : x3_2 < (l0_2.length : Int) := of_decide_eq_true (by first | (with_reducible assumption) | assumption)
         obtain ⟨ad206, A206_6, c206_6, e206, hx206_0, hx206_1, hx206_2, hx206_3, hx206_4, hx206_5, hx206_6, hl206_6, hi206_6⟩ := at_T45 HR0_2.out x3_2 p206 q206
         cases e206
         replace hx206_0 := up_ HB.out hx206_0
         replace hx206_1 := up_ HB.out hx206_1
         replace hx206_2 := up_ HB.out hx206_2
         replace hx206_3 := up_ HB.out hx206_3
         replace hx206_4 := up_ HB.out hx206_4
         replace hx206_5 := up_ HB.out hx206_5
         replace hx206_6 := up_ HB.out hx206_6
         have HR206_6 := Aside0.mk hi206_6
         have HC206_6 := Aside0.mk hl206_6
         clear hi206_6 hl206_6
         replace p206 := eq_true p206
         replace q206 := eq_true q206
         go_wp2
         go_roundg k2
         case measure => have := HJ1.out; have := HK2.out; omega
         case rel => exact ⟨(wrap64 (x3_2 + 1)), r_, H', ⟨by have := HJ1.out; have := HK2.out; omega⟩, ⟨kb_ BK201⟩, ⟨bl_ HB⟩⟩
       ·rw [if_neg c16] at H
        exact absurd H (by simp)
      ·rw [if_neg c15] at H
       have c15b0 : decide (x3_2 < (l0_2.length : Int)) = false := decide_eq_false c15
       clear c15
       obtain rfl := Option.some.inj H
       obtain ⟨hcz20_0, hcz20_1, hcz20_2, hfz20_0, hfz20_1, hfz20_2⟩ := bb3_ BK201.out
       go_wp2
       go_ret
       exact ⟨rfl, bl_ HB⟩
end Go.Proofs.Ytfgibjkgiolonaa.PA
