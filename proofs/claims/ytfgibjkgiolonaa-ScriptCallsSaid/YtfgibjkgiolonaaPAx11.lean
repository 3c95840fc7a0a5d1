import Derived.Test.YtfgibjkgiolonaaWm
import Derived.Test.YtfgibjkgiolonaaPAx0
import Derived.Test.YtfgibjkgiolonaaPAx10
namespace Go.Proofs.Ytfgibjkgiolonaa.PA
open Go.RowKit Go.Proofs.YtfgibjkgiolonaaW.PrintWords Go.Proofs.YtfgibjkgiolonaaW.PrintLast Go.Proofs.YtfgibjkgiolonaaW.PrintMore Go.Proofs.YtfgibjkgiolonaaG Go.Proofs.YtfgibjkgiolonaaX Go.Proofs.YtfgibjkgiolonaaI Go.Proofs.Ytfgibjkgiolonaa.PR
attribute [local go_sem] max2_int min2_int max_two min_two max_three min_three max_four min_four
set_option linter.unusedVariables false
set_option linter.unusedSimpArgs false
mutual
def outlawref04_named.j0 : Nat → ByteArray → Bool → ByteArray → Int → Bool → Option (Bool)
 | 0, _, _, _, _, _ => none
 | k + 1, x0, x2, x3, x9, x34 => if x34 = true then (some false) else (outlawref04_named.l0 k x0 x2 x3 x9 1)
def outlawref04_named.l0 : Nat → ByteArray → Bool → ByteArray → Int → Int → Option (Bool)
 | 0, _, _, _, _, _ => none
 | k + 1, x0, x2, x3, x9, x10 => if x10 < x9 then (if 0 ≤ x10 then (if x10 < (x0.size : Int) then (if (bt x0 x10) ≥ 65 then (outlawref04_named.j2 k x0 x2 x3 x9 x10 (decide ((bt x0 x10) ≤ 90))) else (outlawref04_named.j2 k x0 x2 x3 x9 x10 false)) else (none)) else (none)) else (some true)
def outlawref04_named.j2 : Nat → ByteArray → Bool → ByteArray → Int → Int → Bool → Option (Bool)
 | 0, _, _, _, _, _, _ => none
 | k + 1, x0, x2, x3, x9, x10, x11 => if 0 ≤ x10 then (if x10 < (x0.size : Int) then ((outlawref04_letter.f (bt x0 x10)).bind fun t432 => (if t432 = true then (if x11 = true then (if x2 = true then (some false) else (outlawref04_named.l0 k x0 x2 x3 x9 (wrap64 (x10 + 1)))) else (outlawref04_named.l0 k x0 x2 x3 x9 (wrap64 (x10 + 1)))) else ((outlawref04_digit.f (bt x0 x10)).bind fun t433 => (if t433 = true then (if x11 = true then (if x2 = true then (some false) else (outlawref04_named.l0 k x0 x2 x3 x9 (wrap64 (x10 + 1)))) else (outlawref04_named.l0 k x0 x2 x3 x9 (wrap64 (x10 + 1)))) else ((outlawref04_among.f k (bt x0 x10) x3).bind fun t434 => (if t434 = true then (if x11 = true then (if x2 = true then (some false) else (outlawref04_named.l0 k x0 x2 x3 x9 (wrap64 (x10 + 1)))) else (outlawref04_named.l0 k x0 x2 x3 x9 (wrap64 (x10 + 1)))) else (some false))))))) else (none)) else (none)
end
def outlawref04_named.f (k : Nat) (a0 : ByteArray) (a1 : Int) (a2 : Bool) (a3 : ByteArray) : Option (Bool) := (outlawref04_colon.f k a0).bind fun t430 => (if (a0.size : Int) > 255 then (outlawref04_named.j0 k a0 a2 a3 t430 true) else (if t430 < 2 then (outlawref04_named.j0 k a0 a2 a3 t430 true) else (if 0 < (a0.size : Int) then (if (bt a0 0) = a1 then (if 0 ≤ (wrap64 (t430 + 1)) then (if (wrap64 (t430 + 1)) ≤ (a0.size : Int) then ((outlawref04_Server.f k (a0.extract ((wrap64 (t430 + 1)) : Int).toNat a0.size)).bind fun t431 => (outlawref04_named.j0 k a0 a2 a3 t430 (!t431))) else (none)) else (none)) else (outlawref04_named.j0 k a0 a2 a3 t430 true)) else (none))))
theorem outlawref04_named.mono_l : ∀ k, (∀ y0 y1 y2 y3 y4, LeO (outlawref04_named.j0 k y0 y1 y2 y3 y4) (outlawref04_named.j0 (k + 1) y0 y1 y2 y3 y4)) ∧ (∀ y0 y1 y2 y3 y4, LeO (outlawref04_named.l0 k y0 y1 y2 y3 y4) (outlawref04_named.l0 (k + 1) y0 y1 y2 y3 y4)) ∧ (∀ y0 y1 y2 y3 y4 y5, LeO (outlawref04_named.j2 k y0 y1 y2 y3 y4 y5) (outlawref04_named.j2 (k + 1) y0 y1 y2 y3 y4 y5))
 | 0 => ⟨fun _ _ _ _ _ r h => by simp [outlawref04_named.j0] at h, fun _ _ _ _ _ r h => by simp [outlawref04_named.l0] at h, fun _ _ _ _ _ _ r h => by simp [outlawref04_named.j2] at h⟩
 | k + 1 => by
  obtain ⟨ih0, ih1, ih2⟩ := outlawref04_named.mono_l k
  refine ⟨?_, ?_, ?_⟩
  ·intro y0 y1 y2 y3 y4
   unfold outlawref04_named.j0
   repeat' first
   | (with_reducible exact ih0 _ _ _ _ _)
   | (with_reducible exact ih1 _ _ _ _ _)
   | (with_reducible exact ih2 _ _ _ _ _ _)
   | (with_reducible exact outlawref04_Server.mono _ _)
   | (with_reducible exact outlawref04_among.mono _ _ _)
   | (with_reducible exact outlawref04_colon.mono _ _)
   | (with_reducible exact LeO.refl _)
   | (with_reducible exact LeO.none _)
   | (with_reducible refine LeO.ite ?_ ?_)
   | (with_reducible refine LeO.bind ?_ (fun _ => ?_))
   | refine LeO.ite ?_ ?_
   | refine LeO.bind ?_ (fun _ => ?_)
  ·intro y0 y1 y2 y3 y4
   unfold outlawref04_named.l0
   repeat' first
   | (with_reducible exact ih0 _ _ _ _ _)
   | (with_reducible exact ih1 _ _ _ _ _)
   | (with_reducible exact ih2 _ _ _ _ _ _)
   | (with_reducible exact outlawref04_Server.mono _ _)
   | (with_reducible exact outlawref04_among.mono _ _ _)
   | (with_reducible exact outlawref04_colon.mono _ _)
   | (with_reducible exact LeO.refl _)
   | (with_reducible exact LeO.none _)
   | (with_reducible refine LeO.ite ?_ ?_)
   | (with_reducible refine LeO.bind ?_ (fun _ => ?_))
   | refine LeO.ite ?_ ?_
   | refine LeO.bind ?_ (fun _ => ?_)
  ·intro y0 y1 y2 y3 y4 y5
   unfold outlawref04_named.j2
   repeat' first
   | (with_reducible exact ih0 _ _ _ _ _)
   | (with_reducible exact ih1 _ _ _ _ _)
   | (with_reducible exact ih2 _ _ _ _ _ _)
   | (with_reducible exact outlawref04_Server.mono _ _)
   | (with_reducible exact outlawref04_among.mono _ _ _)
   | (with_reducible exact outlawref04_colon.mono _ _)
   | (with_reducible exact LeO.refl _)
   | (with_reducible exact LeO.none _)
   | (with_reducible refine LeO.ite ?_ ?_)
   | (with_reducible refine LeO.bind ?_ (fun _ => ?_))
   | refine LeO.ite ?_ ?_
   | refine LeO.bind ?_ (fun _ => ?_)
theorem outlawref04_named.mono : ∀ a0 a1 a2 a3 k, LeO (outlawref04_named.f k a0 a1 a2 a3) (outlawref04_named.f (k + 1) a0 a1 a2 a3) := by
 intro a0 a1 a2 a3 k
 obtain ⟨ih0, ih1, ih2⟩ := outlawref04_named.mono_l k
 unfold outlawref04_named.f
 repeat' first
   | (with_reducible exact ih0 _ _ _ _ _)
   | (with_reducible exact ih1 _ _ _ _ _)
   | (with_reducible exact ih2 _ _ _ _ _ _)
   | (with_reducible exact outlawref04_Server.mono _ _)
   | (with_reducible exact outlawref04_among.mono _ _ _)
   | (with_reducible exact outlawref04_colon.mono _ _)
   | (with_reducible exact LeO.refl _)
   | (with_reducible exact LeO.none _)
   | (with_reducible refine LeO.ite ?_ ?_)
   | (with_reducible refine LeO.bind ?_ (fun _ => ?_))
   | refine LeO.ite ?_ ?_
   | refine LeO.bind ?_ (fun _ => ?_)
set_option maxHeartbeats 8000000 in
set_option maxRecDepth 100000 in
theorem outlawref04_named.calls (k : Nat) (a0 : ByteArray) (a1 : Int) (a2 : Bool) (a3 : ByteArray) (r : Bool) (w : World) (h : outlawref04_named.f k a0 a1 a2 a3 = some r) :
  Calls Try.prog 54 #[.string a0, .int .u8 a1, .bool a2, .string a3] w fun e w' => e = .returned (.bool r) ∧ Drawn0 w w' := by
 have H : ((outlawref04_colon.f k a0).bind fun t430 => (if (a0.size : Int) > 255 then (outlawref04_named.j0 k a0 a2 a3 t430 true) else (if t430 < 2 then (outlawref04_named.j0 k a0 a2 a3 t430 true) else (if 0 < (a0.size : Int) then (if (bt a0 0) = a1 then (if 0 ≤ (wrap64 (t430 + 1)) then (if (wrap64 (t430 + 1)) ≤ (a0.size : Int) then ((outlawref04_Server.f k (a0.extract ((wrap64 (t430 + 1)) : Int).toNat a0.size)).bind fun t431 => (outlawref04_named.j0 k a0 a2 a3 t430 (!t431))) else (none)) else (none)) else (outlawref04_named.j0 k a0 a2 a3 t430 true)) else (none))))) = some r := h
 clear h
 replace H := Option.bind_eq_some_iff.mp H
 obtain ⟨t430, A50, H⟩ := H
 have A5 := Aside0.mk A50
 clear A50
 have HC6 := Aside0.mk H
 clear H
 go_enter Try.func54, Try.ntmps54
 go_upto_region 2 with (first | ((with_reducible refine gate_callee (f := 71) rfl ?_); refine gl_ (some 13) Try.func71 #[.string a0] ?_; (with_reducible refine (outlawref04_colon.calls k a0 t430 _ A5.out).mono ?_); rintro e w' ⟨rfl, ⟨nd, rfl⟩⟩; refine ⟨_, rfl, ?_⟩))
 (try simp only [Act.put, List.setIfInBounds_toArray, List.set_cons_zero, List.set_cons_succ])
 go_cut [34] (fun v34 wc => ∃ (kq : Nat) (x34_5 : Bool), v34 = .bool x34_5 ∧ Aside0 (outlawref04_named.j0 kq a0 a2 a3 t430 x34_5 = some r) ∧ Aside0 (kq ≤ k) ∧ Drawn0 w wc)
 case first =>
  have H := HC6.out
  clear HC6
  by_cases c7 : (a0.size : Int) > 255
  ·rw [if_pos c7] at H
   have c7b0 : decide (255 < (a0.size : Int)) = true := decide_eq_true c7
   have c7b1 : decide (255 < a0.size) = true := decide_eq_true (by omega)
   clear c7
   (first | rw [c7b0] | (simp only [i64_w, i32_w]; rw [c7b0]) | skip)
   have H' := Aside0.mk H
   clear H
   go_wp2
   all_goals
    go_meet
    case rel => exact ⟨_, (true), r_, H', ⟨by first | omega | exact Nat.le_refl _⟩, by repeat (first | exact Drawn0.refl _ | apply Drawn0.step)⟩
  ·rw [if_neg c7] at H
   have c7b0 : decide (255 < (a0.size : Int)) = false := decide_eq_false c7
   have c7b1 : decide (255 < a0.size) = false := decide_eq_false (by omega)
   clear c7
   (first | rw [c7b0] | (simp only [i64_w, i32_w]; rw [c7b0]) | skip)
   by_cases c8 : t430 < 2
   ·rw [if_pos c8] at H
    have c8b0 : decide (t430 < 2) = true := decide_eq_true c8
    clear c8
    have H' := Aside0.mk H
    clear H
    go_wp2
    all_goals
     go_meet
     case rel => exact ⟨_, (true), r_, H', ⟨by first | omega | exact Nat.le_refl _⟩, by repeat (first | exact Drawn0.refl _ | apply Drawn0.step)⟩
   ·rw [if_neg c8] at H
    have c8b0 : decide (t430 < 2) = false := decide_eq_false c8
    clear c8
    by_cases c9 : 0 < (a0.size : Int)
    ·rw [if_pos c9] at H
     have c9b0 : decide (0 < (a0.size : Int)) = true := decide_eq_true c9
     have c9b1 : decide (0 < a0.size) = true := decide_eq_true (by omega)
     clear c9
     by_cases c11 : (bt a0 0) = a1
     ·rw [if_pos c11] at H
      have c11b0 : ((bt a0 0) == a1) = true := beq_iff_eq.mpr c11
      have c11b1 : ((bt a0 0) != a1) = false := bne_eq_false_iff_eq.mpr c11
      clear c11
      obtain ⟨ji12, hji12⟩ : ∃ j_ : Int, (wrap64 (t430 + 1)) = j_ := ⟨_, rfl⟩
      first | rw [hji12] at H | simp only [hji12] at H
      have hji12w : (IntKind.i64.wrap (t430 + 1)) = ji12 := (i64_w _).trans hji12
      by_cases c13 : 0 ≤ (ji12)
      ·rw [if_pos c13] at H
       have c13b0 := eq_true c13
       have c13b1 : decide (0 ≤ (ji12)) = true := decide_eq_true c13
       clear c13
       by_cases c14 : (ji12) ≤ (a0.size : Int)
       ·rw [if_pos c14] at H
        have c14b0 := eq_true c14
        have c14b1 : decide ((ji12) ≤ (a0.size : Int)) = true := decide_eq_true c14
        clear c14
        replace H := Option.bind_eq_some_iff.mp H
        obtain ⟨t431, A150, H⟩ := H
        have A15 := Aside0.mk A150
        clear A150
        have H' := Aside0.mk H
        clear H
        have p10 : 0 ≤ (0 : Int) := (by omega)
        have q10 : 0 < a0.size := (by have : (0 : Int) < (a0.size : Int) := of_decide_eq_true (by first | (with_reducible assumption) | assumption); omega)
        have hx10 : ∀ h : 0 < a0.size, ((a0[0]'h).toNat : Int) = bt a0 0 := bt_at a0 0
        clear p10
        have qi10 : (0 < (a0.size : Int)) = True := eq_true (of_decide_eq_true (by first | (with_reducible assumption) | assumption))
        replace q10 := eq_true q10
        go_wp2_with (first | (go_at_call 72; (with_reducible refine (outlawref04_Server.calls k (a0.extract ((ji12) : Int).toNat a0.size) t431 _ A15.out).mono ?_); rintro e w' ⟨rfl, ⟨nd, rfl⟩⟩))
        all_goals
         go_meet
         case rel => exact ⟨_, (!t431), r_, H', ⟨by first | omega | exact Nat.le_refl _⟩, by repeat (first | exact Drawn0.refl _ | apply Drawn0.step)⟩
       ·rw [if_neg c14] at H
        exact absurd H (by simp)
      ·rw [if_neg c13] at H
       exact absurd H (by simp)
     ·rw [if_neg c11] at H
      have c11b0 : ((bt a0 0) == a1) = false := beq_eq_false_iff_ne.mpr c11
      have c11b1 : ((bt a0 0) != a1) = true := bne_iff_ne.mpr c11
      have H' := Aside0.mk H
      clear H
      have p10 : 0 ≤ (0 : Int) := (by omega)
      have q10 : 0 < a0.size := (by have : (0 : Int) < (a0.size : Int) := of_decide_eq_true (by first | (with_reducible assumption) | assumption); omega)
      have hx10 : ∀ h : 0 < a0.size, ((a0[0]'h).toNat : Int) = bt a0 0 := bt_at a0 0
      clear p10
      have qi10 : (0 < (a0.size : Int)) = True := eq_true (of_decide_eq_true (by first | (with_reducible assumption) | assumption))
      replace q10 := eq_true q10
      go_wp2
      all_goals
       go_meet
       case rel => exact ⟨_, (true), r_, H', ⟨by first | omega | exact Nat.le_refl _⟩, by repeat (first | exact Drawn0.refl _ | apply Drawn0.step)⟩
    ·rw [if_neg c9] at H
     exact absurd H (by simp)
 case rest =>
  clear HC6
  try clear c1
  try clear p1
  try clear q1
  try clear hx1
  try clear qi1
  try clear p2
  try clear c5
  try clear p6
  try clear c7
  try clear c7b0
  try clear c7b1
  try clear c8
  try clear c8b0
  try clear c9
  try clear c9b0
  try clear c9b1
  try clear p10
  try clear q10
  try clear hx10
  try clear qi10
  try clear c11
  try clear c11b0
  try clear c11b1
  try clear c13
  try clear c13b0
  try clear c13b1
  try clear c14
  try clear c14b0
  try clear c14b1
  try clear p10
  try clear q10
  obtain ⟨kq, x34_5, rfl, HA, HJ5, ⟨mc5, rfl⟩⟩ := hcut
  cases kq with
  | zero => exact absurd HA.out (by simp [outlawref04_named.j0])
  | succ kj5 =>
   have H := HA.out
   clear HA
   simp only [outlawref04_named.j0] at H
   by_cases c16 : x34_5 = true
   ·subst c16
    rw [if_pos rfl] at H
    obtain rfl := Option.some.inj H
    go_wp2
    go_ret
    exact ⟨r_, by repeat (first | exact Drawn0.refl _ | apply Drawn0.step)⟩
   ·replace c16 := Bool.eq_false_iff.mpr c16
    subst c16
    rw [if_neg (show ¬ (false = true) by decide)] at H
    have H' := Aside0.mk H
    clear H
    go_wp2
    go_loopg [10] kj5 (fun kq v10 w' => ∃ (x10_2 : Int), v10 = .int .i64 x10_2 ∧ Aside0 (outlawref04_named.l0 kq a0 a2 a3 t430 x10_2 = some r) ∧ Aside0 (kq ≤ kj5) ∧ Drawn0 w w')
    case atStart => exact ⟨(1), r_, H', ⟨Nat.le_refl _⟩, by repeat (first | exact Drawn0.refl _ | apply Drawn0.step)⟩
    case round =>
     clear H'
     try clear c1
     try clear p1
     try clear q1
     try clear hx1
     try clear qi1
     try clear p2
     try clear c5
     try clear p6
     try clear c7
     try clear c7b0
     try clear c7b1
     try clear c8
     try clear c8b0
     try clear c9
     try clear c9b0
     try clear c9b1
     try clear p10
     try clear q10
     try clear hx10
     try clear qi10
     try clear c11
     try clear c11b0
     try clear c11b1
     try clear c13
     try clear c13b0
     try clear c13b1
     try clear c14
     try clear c14b0
     try clear c14b1
     try clear c16
     try clear p1
     try clear p10
     try clear p2
     try clear p6
     try clear q1
     try clear q10
     obtain ⟨x10_2, rfl, HA, HK2, ⟨m2, rfl⟩⟩ := hrel
     cases gk with
     | zero => exact absurd HA.out (by simp [outlawref04_named.l0])
     | succ k2 =>
      have H := HA.out
      clear HA
      simp only [outlawref04_named.l0] at H
      by_cases c17 : x10_2 < t430
      ·rw [if_pos c17] at H
       have c17b0 : decide (x10_2 < t430) = true := decide_eq_true c17
       clear c17
       have HC18 := Aside0.mk H
       clear H
       go_upto_region 7 with (fail)
       go_cut [11] (fun v11 wc => ∃ (kq : Nat) (x11_17 : Bool), v11 = .bool x11_17 ∧ Aside0 (outlawref04_named.j2 kq a0 a2 a3 t430 x10_2 x11_17 = some r) ∧ Aside0 (kq ≤ k2) ∧ Drawn0 w wc)
       case first =>
        have H := HC18.out
        clear HC18
        by_cases c19 : 0 ≤ x10_2
        ·rw [if_pos c19] at H
         have c19b0 : decide (0 ≤ x10_2) = true := decide_eq_true c19
         clear c19
         (first | rw [c19b0] | (simp only [i64_w, i32_w]; rw [c19b0]) | skip)
         by_cases c20 : x10_2 < (a0.size : Int)
         ·rw [if_pos c20] at H
          have c20b0 : decide (x10_2 < (a0.size : Int)) = true := decide_eq_true c20
          clear c20
          by_cases c22 : (bt a0 x10_2) ≥ 65
          ·rw [if_pos c22] at H
           have c22b0 : decide (65 ≤ (bt a0 x10_2)) = true := decide_eq_true c22
           clear c22
           have H' := Aside0.mk H
           clear H
           have p21 : 0 ≤ (x10_2 : Int) := of_decide_eq_true (by first | (with_reducible assumption) | assumption)
           have q21 : x10_2 < (a0.size : Int) := of_decide_eq_true (by first | (with_reducible assumption) | assumption)
           have hx21 := bt_at a0 x10_2
           replace p21 := eq_true p21
           replace q21 := eq_true q21
           have p23 : 0 ≤ (x10_2 : Int) := of_decide_eq_true (by first | (with_reducible assumption) | assumption)
           have q23 : x10_2 < (a0.size : Int) := of_decide_eq_true (by first | (with_reducible assumption) | assumption)
           have hx23 := bt_at a0 x10_2
           replace p23 := eq_true p23
           replace q23 := eq_true q23
           go_wp2
           all_goals
            go_meet
            case rel => exact ⟨_, (decide ((bt a0 x10_2) ≤ 90)), r_, H', ⟨by have := HJ5.out; have := HK2.out; first | omega | exact Nat.le_refl _⟩, by repeat (first | exact Drawn0.refl _ | apply Drawn0.step)⟩
          ·rw [if_neg c22] at H
           have c22b0 : decide (65 ≤ (bt a0 x10_2)) = false := decide_eq_false c22
           clear c22
           have H' := Aside0.mk H
           clear H
           have p21 : 0 ≤ (x10_2 : Int) := of_decide_eq_true (by first | (with_reducible assumption) | assumption)
           have q21 : x10_2 < (a0.size : Int) := of_decide_eq_true (by first | (with_reducible assumption) | assumption)
           have hx21 := bt_at a0 x10_2
           replace p21 := eq_true p21
           replace q21 := eq_true q21
           go_wp2
           all_goals
            go_meet
            case rel => exact ⟨_, (false), r_, H', ⟨by have := HJ5.out; have := HK2.out; first | omega | exact Nat.le_refl _⟩, by repeat (first | exact Drawn0.refl _ | apply Drawn0.step)⟩
         ·rw [if_neg c20] at H
          exact absurd H (by simp)
        ·rw [if_neg c19] at H
         exact absurd H (by simp)
       case rest =>
        clear HC18
        try clear c1
        try clear p1
        try clear q1
        try clear hx1
        try clear qi1
        try clear c2
        try clear p2
        try clear q2
        try clear hx2
        try clear c5
        try clear p6
        try clear c7
        try clear c7b0
        try clear c7b1
        try clear c8
        try clear c8b0
        try clear c9
        try clear c9b0
        try clear c9b1
        try clear p10
        try clear q10
        try clear hx10
        try clear qi10
        try clear c11
        try clear c11b0
        try clear c11b1
        try clear c13
        try clear c13b0
        try clear c13b1
        try clear c14
        try clear c14b0
        try clear c14b1
        try clear c16
        try clear c17
        try clear c17b0
        try clear c19
        try clear c19b0
        try clear c20
        try clear c20b0
        try clear p21
        try clear q21
        try clear hx21
        try clear c22
        try clear c22b0
        try clear p23
        try clear q23
        try clear hx23
        try clear p1
        try clear p10
        try clear p2
        try clear p21
        try clear p23
        try clear p6
        try clear q1
        try clear q10
        try clear q21
        try clear q23
        obtain ⟨kq, x11_17, rfl, HA, HJ17, ⟨mc17, rfl⟩⟩ := hcut
        cases kq with
        | zero => exact absurd HA.out (by simp [outlawref04_named.j2])
        | succ kj17 =>
         have H := HA.out
         clear HA
         simp only [outlawref04_named.j2] at H
         by_cases c24 : 0 ≤ x10_2
         ·rw [if_pos c24] at H
          have c24b0 : decide (0 ≤ x10_2) = true := decide_eq_true c24
          clear c24
          by_cases c25 : x10_2 < (a0.size : Int)
          ·rw [if_pos c25] at H
           have c25b0 : decide (x10_2 < (a0.size : Int)) = true := decide_eq_true c25
           clear c25
           replace H := Option.bind_eq_some_iff.mp H
           obtain ⟨t432, A270, H⟩ := H
           have A27 := Aside0.mk A270
           clear A270
           by_cases c28 : t432 = true
           ·subst c28
            rw [if_pos rfl] at H
            by_cases c29 : x11_17 = true
            ·subst c29
             rw [if_pos rfl] at H
             by_cases c30 : a2 = true
             ·subst c30
              rw [if_pos rfl] at H
              obtain rfl := Option.some.inj H
              have p26 : 0 ≤ (x10_2 : Int) := of_decide_eq_true (by first | (with_reducible assumption) | assumption)
              have q26 : x10_2 < (a0.size : Int) := of_decide_eq_true (by first | (with_reducible assumption) | assumption)
              have hx26 := bt_at a0 x10_2
              replace p26 := eq_true p26
              replace q26 := eq_true q26
              go_wp2_with (first | ((with_reducible refine gate_callee (f := 73) rfl ?_); refine gl_ (some 53) Try.func73 #[.int .u8 (bt a0 x10_2)] ?_; (with_reducible refine (outlawref04_letter.calls (bt a0 x10_2) true _ A27.out).mono ?_); rintro e w' ⟨rfl, ⟨nd, rfl⟩⟩; refine ⟨_, rfl, ?_⟩))
              go_ret
              exact ⟨r_, by repeat (first | exact Drawn0.refl _ | apply Drawn0.step)⟩
             ·replace c30 := Bool.eq_false_iff.mpr c30
              subst c30
              rw [if_neg (show ¬ (false = true) by decide)] at H
              have H' := Aside0.mk H
              clear H
              have p26 : 0 ≤ (x10_2 : Int) := of_decide_eq_true (by first | (with_reducible assumption) | assumption)
              have q26 : x10_2 < (a0.size : Int) := of_decide_eq_true (by first | (with_reducible assumption) | assumption)
              have hx26 := bt_at a0 x10_2
              replace p26 := eq_true p26
              replace q26 := eq_true q26
              go_wp2_with (first | ((with_reducible refine gate_callee (f := 73) rfl ?_); refine gl_ (some 53) Try.func73 #[.int .u8 (bt a0 x10_2)] ?_; (with_reducible refine (outlawref04_letter.calls (bt a0 x10_2) true _ A27.out).mono ?_); rintro e w' ⟨rfl, ⟨nd, rfl⟩⟩; refine ⟨_, rfl, ?_⟩))
              go_roundg kj17
              case measure => have := HJ5.out; have := HK2.out; have := HJ17.out; omega
              case rel => exact ⟨(wrap64 (x10_2 + 1)), r_, H', ⟨by have := HJ5.out; have := HK2.out; have := HJ17.out; omega⟩, by repeat (first | exact Drawn0.refl _ | apply Drawn0.step)⟩
            ·replace c29 := Bool.eq_false_iff.mpr c29
             subst c29
             rw [if_neg (show ¬ (false = true) by decide)] at H
             have H' := Aside0.mk H
             clear H
             have p26 : 0 ≤ (x10_2 : Int) := of_decide_eq_true (by first | (with_reducible assumption) | assumption)
             have q26 : x10_2 < (a0.size : Int) := of_decide_eq_true (by first | (with_reducible assumption) | assumption)
             have hx26 := bt_at a0 x10_2
             replace p26 := eq_true p26
             replace q26 := eq_true q26
             go_wp2_with (first | ((with_reducible refine gate_callee (f := 73) rfl ?_); refine gl_ (some 53) Try.func73 #[.int .u8 (bt a0 x10_2)] ?_; (with_reducible refine (outlawref04_letter.calls (bt a0 x10_2) true _ A27.out).mono ?_); rintro e w' ⟨rfl, ⟨nd, rfl⟩⟩; refine ⟨_, rfl, ?_⟩))
             go_roundg kj17
             case measure => have := HJ5.out; have := HK2.out; have := HJ17.out; omega
             case rel => exact ⟨(wrap64 (x10_2 + 1)), r_, H', ⟨by have := HJ5.out; have := HK2.out; have := HJ17.out; omega⟩, by repeat (first | exact Drawn0.refl _ | apply Drawn0.step)⟩
           ·replace c28 := Bool.eq_false_iff.mpr c28
            subst c28
            rw [if_neg (show ¬ (false = true) by decide)] at H
            replace H := Option.bind_eq_some_iff.mp H
            obtain ⟨t433, A320, H⟩ := H
            have A32 := Aside0.mk A320
            clear A320
            by_cases c33 : t433 = true
            ·subst c33
             rw [if_pos rfl] at H
             by_cases c34 : x11_17 = true
             ·subst c34
              rw [if_pos rfl] at H
              by_cases c35 : a2 = true
              ·subst c35
               rw [if_pos rfl] at H
               obtain rfl := Option.some.inj H
               have p26 : 0 ≤ (x10_2 : Int) := of_decide_eq_true (by first | (with_reducible assumption) | assumption)
               have q26 : x10_2 < (a0.size : Int) := of_decide_eq_true (by first | (with_reducible assumption) | assumption)
               have hx26 := bt_at a0 x10_2
               replace p26 := eq_true p26
               replace q26 := eq_true q26
               go_wp2_with (first | ((with_reducible refine gate_callee (f := 73) rfl ?_); refine gl_ (some 53) Try.func73 #[.int .u8 (bt a0 x10_2)] ?_; (with_reducible refine (outlawref04_letter.calls (bt a0 x10_2) false _ A27.out).mono ?_); rintro e w' ⟨rfl, ⟨nd, rfl⟩⟩; refine ⟨_, rfl, ?_⟩; have p31 : 0 ≤ (x10_2 : Int) := of_decide_eq_true (by first | (with_reducible assumption) | assumption); have q31 : x10_2 < (a0.size : Int) := of_decide_eq_true (by first | (with_reducible assumption) | assumption); have hx31 := bt_at a0 x10_2; replace p31 := eq_true p31; replace q31 := eq_true q31) | (go_at_call 74; (with_reducible refine (outlawref04_digit.calls (bt a0 x10_2) true _ A32.out).mono ?_); rintro e w' ⟨rfl, ⟨nd, rfl⟩⟩))
               go_ret
               exact ⟨r_, by repeat (first | exact Drawn0.refl _ | apply Drawn0.step)⟩
              ·replace c35 := Bool.eq_false_iff.mpr c35
               subst c35
               rw [if_neg (show ¬ (false = true) by decide)] at H
               have H' := Aside0.mk H
               clear H
               have p26 : 0 ≤ (x10_2 : Int) := of_decide_eq_true (by first | (with_reducible assumption) | assumption)
               have q26 : x10_2 < (a0.size : Int) := of_decide_eq_true (by first | (with_reducible assumption) | assumption)
               have hx26 := bt_at a0 x10_2
               replace p26 := eq_true p26
               replace q26 := eq_true q26
               go_wp2_with (first | ((with_reducible refine gate_callee (f := 73) rfl ?_); refine gl_ (some 53) Try.func73 #[.int .u8 (bt a0 x10_2)] ?_; (with_reducible refine (outlawref04_letter.calls (bt a0 x10_2) false _ A27.out).mono ?_); rintro e w' ⟨rfl, ⟨nd, rfl⟩⟩; refine ⟨_, rfl, ?_⟩; have p31 : 0 ≤ (x10_2 : Int) := of_decide_eq_true (by first | (with_reducible assumption) | assumption); have q31 : x10_2 < (a0.size : Int) := of_decide_eq_true (by first | (with_reducible assumption) | assumption); have hx31 := bt_at a0 x10_2; replace p31 := eq_true p31; replace q31 := eq_true q31) | (go_at_call 74; (with_reducible refine (outlawref04_digit.calls (bt a0 x10_2) true _ A32.out).mono ?_); rintro e w' ⟨rfl, ⟨nd, rfl⟩⟩))
               go_roundg kj17
               case measure => have := HJ5.out; have := HK2.out; have := HJ17.out; omega
               case rel => exact ⟨(wrap64 (x10_2 + 1)), r_, H', ⟨by have := HJ5.out; have := HK2.out; have := HJ17.out; omega⟩, by repeat (first | exact Drawn0.refl _ | apply Drawn0.step)⟩
             ·replace c34 := Bool.eq_false_iff.mpr c34
              subst c34
              rw [if_neg (show ¬ (false = true) by decide)] at H
              have H' := Aside0.mk H
              clear H
              have p26 : 0 ≤ (x10_2 : Int) := of_decide_eq_true (by first | (with_reducible assumption) | assumption)
              have q26 : x10_2 < (a0.size : Int) := of_decide_eq_true (by first | (with_reducible assumption) | assumption)
              have hx26 := bt_at a0 x10_2
              replace p26 := eq_true p26
              replace q26 := eq_true q26
              go_wp2_with (first | ((with_reducible refine gate_callee (f := 73) rfl ?_); refine gl_ (some 53) Try.func73 #[.int .u8 (bt a0 x10_2)] ?_; (with_reducible refine (outlawref04_letter.calls (bt a0 x10_2) false _ A27.out).mono ?_); rintro e w' ⟨rfl, ⟨nd, rfl⟩⟩; refine ⟨_, rfl, ?_⟩; have p31 : 0 ≤ (x10_2 : Int) := of_decide_eq_true (by first | (with_reducible assumption) | assumption); have q31 : x10_2 < (a0.size : Int) := of_decide_eq_true (by first | (with_reducible assumption) | assumption); have hx31 := bt_at a0 x10_2; replace p31 := eq_true p31; replace q31 := eq_true q31) | (go_at_call 74; (with_reducible refine (outlawref04_digit.calls (bt a0 x10_2) true _ A32.out).mono ?_); rintro e w' ⟨rfl, ⟨nd, rfl⟩⟩))
              go_roundg kj17
              case measure => have := HJ5.out; have := HK2.out; have := HJ17.out; omega
              case rel => exact ⟨(wrap64 (x10_2 + 1)), r_, H', ⟨by have := HJ5.out; have := HK2.out; have := HJ17.out; omega⟩, by repeat (first | exact Drawn0.refl _ | apply Drawn0.step)⟩
            ·replace c33 := Bool.eq_false_iff.mpr c33
             subst c33
             rw [if_neg (show ¬ (false = true) by decide)] at H
             replace H := Option.bind_eq_some_iff.mp H
             obtain ⟨t434, A370, H⟩ := H
             have A37 := Aside0.mk A370
             clear A370
             by_cases c38 : t434 = true
             ·subst c38
              rw [if_pos rfl] at H
              by_cases c39 : x11_17 = true
              ·subst c39
               rw [if_pos rfl] at H
               by_cases c40 : a2 = true
               ·subst c40
                rw [if_pos rfl] at H
                obtain rfl := Option.some.inj H
                have p26 : 0 ≤ (x10_2 : Int) := of_decide_eq_true (by first | (with_reducible assumption) | assumption)
                have q26 : x10_2 < (a0.size : Int) := of_decide_eq_true (by first | (with_reducible assumption) | assumption)
                have hx26 := bt_at a0 x10_2
                replace p26 := eq_true p26
                replace q26 := eq_true q26
                go_wp2_with (first | ((with_reducible refine gate_callee (f := 73) rfl ?_); refine gl_ (some 53) Try.func73 #[.int .u8 (bt a0 x10_2)] ?_; (with_reducible refine (outlawref04_letter.calls (bt a0 x10_2) false _ A27.out).mono ?_); rintro e w' ⟨rfl, ⟨nd, rfl⟩⟩; refine ⟨_, rfl, ?_⟩; have p31 : 0 ≤ (x10_2 : Int) := of_decide_eq_true (by first | (with_reducible assumption) | assumption); have q31 : x10_2 < (a0.size : Int) := of_decide_eq_true (by first | (with_reducible assumption) | assumption); have hx31 := bt_at a0 x10_2; replace p31 := eq_true p31; replace q31 := eq_true q31) | (go_at_call 74; (with_reducible refine (outlawref04_digit.calls (bt a0 x10_2) false _ A32.out).mono ?_); rintro e w' ⟨rfl, ⟨nd, rfl⟩⟩; have p36 : 0 ≤ (x10_2 : Int) := of_decide_eq_true (by first | (with_reducible assumption) | assumption); have q36 : x10_2 < (a0.size : Int) := of_decide_eq_true (by first | (with_reducible assumption) | assumption); have hx36 := bt_at a0 x10_2; replace p36 := eq_true p36; replace q36 := eq_true q36) | (go_at_call 75; (with_reducible refine (outlawref04_among.calls kj17 (bt a0 x10_2) a3 true _ A37.out).mono ?_); rintro e w' ⟨rfl, ⟨nd, rfl⟩⟩))
                go_ret
                exact ⟨r_, by repeat (first | exact Drawn0.refl _ | apply Drawn0.step)⟩
               ·replace c40 := Bool.eq_false_iff.mpr c40
                subst c40
                rw [if_neg (show ¬ (false = true) by decide)] at H
                have H' := Aside0.mk H
                clear H
                have p26 : 0 ≤ (x10_2 : Int) := of_decide_eq_true (by first | (with_reducible assumption) | assumption)
                have q26 : x10_2 < (a0.size : Int) := of_decide_eq_true (by first | (with_reducible assumption) | assumption)
                have hx26 := bt_at a0 x10_2
                replace p26 := eq_true p26
                replace q26 := eq_true q26
                go_wp2_with (first | ((with_reducible refine gate_callee (f := 73) rfl ?_); refine gl_ (some 53) Try.func73 #[.int .u8 (bt a0 x10_2)] ?_; (with_reducible refine (outlawref04_letter.calls (bt a0 x10_2) false _ A27.out).mono ?_); rintro e w' ⟨rfl, ⟨nd, rfl⟩⟩; refine ⟨_, rfl, ?_⟩; have p31 : 0 ≤ (x10_2 : Int) := of_decide_eq_true (by first | (with_reducible assumption) | assumption); have q31 : x10_2 < (a0.size : Int) := of_decide_eq_true (by first | (with_reducible assumption) | assumption); have hx31 := bt_at a0 x10_2; replace p31 := eq_true p31; replace q31 := eq_true q31) | (go_at_call 74; (with_reducible refine (outlawref04_digit.calls (bt a0 x10_2) false _ A32.out).mono ?_); rintro e w' ⟨rfl, ⟨nd, rfl⟩⟩; have p36 : 0 ≤ (x10_2 : Int) := of_decide_eq_true (by first | (with_reducible assumption) | assumption); have q36 : x10_2 < (a0.size : Int) := of_decide_eq_true (by first | (with_reducible assumption) | assumption); have hx36 := bt_at a0 x10_2; replace p36 := eq_true p36; replace q36 := eq_true q36) | (go_at_call 75; (with_reducible refine (outlawref04_among.calls kj17 (bt a0 x10_2) a3 true _ A37.out).mono ?_); rintro e w' ⟨rfl, ⟨nd, rfl⟩⟩))
                go_roundg kj17
                case measure => have := HJ5.out; have := HK2.out; have := HJ17.out; omega
                case rel => exact ⟨(wrap64 (x10_2 + 1)), r_, H', ⟨by have := HJ5.out; have := HK2.out; have := HJ17.out; omega⟩, by repeat (first | exact Drawn0.refl _ | apply Drawn0.step)⟩
              ·replace c39 := Bool.eq_false_iff.mpr c39
               subst c39
               rw [if_neg (show ¬ (false = true) by decide)] at H
               have H' := Aside0.mk H
               clear H
               have p26 : 0 ≤ (x10_2 : Int) := of_decide_eq_true (by first | (with_reducible assumption) | assumption)
               have q26 : x10_2 < (a0.size : Int) := of_decide_eq_true (by first | (with_reducible assumption) | assumption)
               have hx26 := bt_at a0 x10_2
               replace p26 := eq_true p26
               replace q26 := eq_true q26
               go_wp2_with (first | ((with_reducible refine gate_callee (f := 73) rfl ?_); refine gl_ (some 53) Try.func73 #[.int .u8 (bt a0 x10_2)] ?_; (with_reducible refine (outlawref04_letter.calls (bt a0 x10_2) false _ A27.out).mono ?_); rintro e w' ⟨rfl, ⟨nd, rfl⟩⟩; refine ⟨_, rfl, ?_⟩; have p31 : 0 ≤ (x10_2 : Int) := of_decide_eq_true (by first | (with_reducible assumption) | assumption); have q31 : x10_2 < (a0.size : Int) := of_decide_eq_true (by first | (with_reducible assumption) | assumption); have hx31 := bt_at a0 x10_2; replace p31 := eq_true p31; replace q31 := eq_true q31) | (go_at_call 74; (with_reducible refine (outlawref04_digit.calls (bt a0 x10_2) false _ A32.out).mono ?_); rintro e w' ⟨rfl, ⟨nd, rfl⟩⟩; have p36 : 0 ≤ (x10_2 : Int) := of_decide_eq_true (by first | (with_reducible assumption) | assumption); have q36 : x10_2 < (a0.size : Int) := of_decide_eq_true (by first | (with_reducible assumption) | assumption); have hx36 := bt_at a0 x10_2; replace p36 := eq_true p36; replace q36 := eq_true q36) | (go_at_call 75; (with_reducible refine (outlawref04_among.calls kj17 (bt a0 x10_2) a3 true _ A37.out).mono ?_); rintro e w' ⟨rfl, ⟨nd, rfl⟩⟩))
               go_roundg kj17
               case measure => have := HJ5.out; have := HK2.out; have := HJ17.out; omega
               case rel => exact ⟨(wrap64 (x10_2 + 1)), r_, H', ⟨by have := HJ5.out; have := HK2.out; have := HJ17.out; omega⟩, by repeat (first | exact Drawn0.refl _ | apply Drawn0.step)⟩
             ·replace c38 := Bool.eq_false_iff.mpr c38
              subst c38
              rw [if_neg (show ¬ (false = true) by decide)] at H
              obtain rfl := Option.some.inj H
              have p26 : 0 ≤ (x10_2 : Int) := of_decide_eq_true (by first | (with_reducible assumption) | assumption)
              have q26 : x10_2 < (a0.size : Int) := of_decide_eq_true (by first | (with_reducible assumption) | assumption)
              have hx26 := bt_at a0 x10_2
              replace p26 := eq_true p26
              replace q26 := eq_true q26
              go_wp2_with (first | ((with_reducible refine gate_callee (f := 73) rfl ?_); refine gl_ (some 53) Try.func73 #[.int .u8 (bt a0 x10_2)] ?_; (with_reducible refine (outlawref04_letter.calls (bt a0 x10_2) false _ A27.out).mono ?_); rintro e w' ⟨rfl, ⟨nd, rfl⟩⟩; refine ⟨_, rfl, ?_⟩; have p31 : 0 ≤ (x10_2 : Int) := of_decide_eq_true (by first | (with_reducible assumption) | assumption); have q31 : x10_2 < (a0.size : Int) := of_decide_eq_true (by first | (with_reducible assumption) | assumption); have hx31 := bt_at a0 x10_2; replace p31 := eq_true p31; replace q31 := eq_true q31) | (go_at_call 74; (with_reducible refine (outlawref04_digit.calls (bt a0 x10_2) false _ A32.out).mono ?_); rintro e w' ⟨rfl, ⟨nd, rfl⟩⟩; have p36 : 0 ≤ (x10_2 : Int) := of_decide_eq_true (by first | (with_reducible assumption) | assumption); have q36 : x10_2 < (a0.size : Int) := of_decide_eq_true (by first | (with_reducible assumption) | assumption); have hx36 := bt_at a0 x10_2; replace p36 := eq_true p36; replace q36 := eq_true q36) | (go_at_call 75; (with_reducible refine (outlawref04_among.calls kj17 (bt a0 x10_2) a3 false _ A37.out).mono ?_); rintro e w' ⟨rfl, ⟨nd, rfl⟩⟩))
              go_ret
              exact ⟨r_, by repeat (first | exact Drawn0.refl _ | apply Drawn0.step)⟩
          ·rw [if_neg c25] at H
           exact absurd H (by simp)
         ·rw [if_neg c24] at H
          exact absurd H (by simp)
      ·rw [if_neg c17] at H
       have c17b0 : decide (x10_2 < t430) = false := decide_eq_false c17
       clear c17
       obtain rfl := Option.some.inj H
       go_wp2
       go_ret
       exact ⟨r_, by repeat (first | exact Drawn0.refl _ | apply Drawn0.step)⟩
def outlawref04_User.f (k : Nat) (a0 : ByteArray) : Option (Bool) := (outlawref04_named.f k a0 64 true (⟨#[46, 95, 61, 45, 47, 43]⟩ : ByteArray)).bind fun t435 => (some t435)
theorem outlawref04_User.mono : ∀ a0 k, LeO (outlawref04_User.f k a0) (outlawref04_User.f (k + 1) a0) := by
 intro a0 k
 unfold outlawref04_User.f
 repeat' first
   | (with_reducible exact outlawref04_named.mono _ _ _ _ _)
   | (with_reducible exact LeO.refl _)
   | (with_reducible exact LeO.none _)
   | (with_reducible refine LeO.ite ?_ ?_)
   | (with_reducible refine LeO.bind ?_ (fun _ => ?_))
   | refine LeO.ite ?_ ?_
   | refine LeO.bind ?_ (fun _ => ?_)
set_option maxHeartbeats 8000000 in
set_option maxRecDepth 100000 in
theorem outlawref04_User.calls (k : Nat) (a0 : ByteArray) (r : Bool) (w : World) (h : outlawref04_User.f k a0 = some r) :
  Calls Try.prog 36 #[.string a0] w fun e w' => e = .returned (.bool r) ∧ Drawn0 w w' := by
 have H : ((outlawref04_named.f k a0 64 true (⟨#[46, 95, 61, 45, 47, 43]⟩ : ByteArray)).bind fun t435 => (some t435)) = some r := h
 clear h
 replace H := Option.bind_eq_some_iff.mp H
 obtain ⟨t435, A20, H⟩ := H
 have A2 := Aside0.mk A20
 clear A20
 obtain rfl := Option.some.inj H
 go_enter Try.func36, Try.ntmps36
 go_wp2_with (first | ((with_reducible refine gate_callee (f := 54) rfl ?_); refine gl_ (some 4) Try.func54 #[.string a0, .int .u8 64, .bool true, .string (⟨#[46, 95, 61, 45, 47, 43]⟩ : ByteArray)] ?_; (with_reducible refine (outlawref04_named.calls k a0 64 true (⟨#[46, 95, 61, 45, 47, 43]⟩ : ByteArray) t435 _ A2.out).mono ?_); rintro e w' ⟨rfl, ⟨nd, rfl⟩⟩; refine ⟨_, rfl, ?_⟩))
 go_ret
 exact ⟨r_, by repeat (first | exact Drawn0.refl _ | apply Drawn0.step)⟩
end Go.Proofs.Ytfgibjkgiolonaa.PA
