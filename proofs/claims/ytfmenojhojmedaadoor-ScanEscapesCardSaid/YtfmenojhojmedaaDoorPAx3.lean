-- Written by a program of this session (gprint.py, a turned print with given contracts).
import Derived.Test.YtfmenojhojmedaaDoorPAx0
import Derived.Test.YtfmenojhojmedaaDoorPAx1
namespace Go.Proofs.YtfmenojhojmedaaDoor.PA
open Go.RowKit Go.Proofs.YtfmenojhojmedaaDoorW.PrintWords Go.Proofs.YtfmenojhojmedaaDoorW.PrintLast Go.Proofs.YtfmenojhojmedaaDoorW.PrintMore Go.Proofs.YtfmenojhojmedaaDoorG Go.Proofs.YtfmenojhojmedaaDoorX
attribute [local go_sem] max2_int min2_int max_two min_two max_three min_three max_four min_four   -- for this text's walks alone
set_option linter.unusedVariables false
set_option linter.unusedSimpArgs false

/-! ### outlawkit_Pick: function 13 -/
def outlawkit_Pick.f (a0 : Int) (a1 : Int) : Option (Int) := if a1 < 1 then (some 0) else (if a1 = 0 then (none) else (if (Int.tmod a0 a1) < 0 then (some (wrap64 ((Int.tmod a0 a1) + a1))) else (some (Int.tmod a0 a1))))
set_option maxHeartbeats 8000000 in
set_option maxRecDepth 100000 in
theorem outlawkit_Pick.calls (a0 : Int) (a1 : Int) (r : Int) (w : World) (h : outlawkit_Pick.f a0 a1 = some r) :
    Calls Tryd.prog 13 #[.int .i64 a0, .int .i64 a1] w fun e w' => e = .returned (.int .i64 r) ∧ Drawn0 w w' := by
  have H : (if a1 < 1 then (some 0) else (if a1 = 0 then (none) else (if (Int.tmod a0 a1) < 0 then (some (wrap64 ((Int.tmod a0 a1) + a1))) else (some (Int.tmod a0 a1))))) = some r := h
  clear h
  by_cases c3 : a1 < 1
  · rw [if_pos c3] at H
    have c3b0 : decide (a1 < 1) = true := decide_eq_true c3
    clear c3
    obtain rfl := Option.some.inj H
    go_enter Tryd.func13, Tryd.ntmps13
    go_wp2
    go_ret
    exact ⟨by first | rfl | (simp; done) | (simp [*]; done) | (simp [bneNil_, beqNil_]; done) | (simp [bneNil_, beqNil_, *]; done) | (simp_all; done), by repeat (first | exact Drawn0.refl _ | apply Drawn0.step)⟩
  · rw [if_neg c3] at H
    have c3b0 : decide (a1 < 1) = false := decide_eq_false c3
    clear c3
    by_cases c4 : a1 = 0
    · rw [if_pos c4] at H
      exact absurd H (by simp)
    · rw [if_neg c4] at H
      have c4b0 : (a1 == 0) = false := beq_eq_false_iff_ne.mpr c4
      have c4b1 : (a1 != 0) = true := bne_iff_ne.mpr c4
      by_cases c5 : (Int.tmod a0 a1) < 0
      · rw [if_pos c5] at H
        have c5b0 : decide ((Int.tmod a0 a1) < 0) = true := decide_eq_true c5
        clear c5
        obtain rfl := Option.some.inj H
        go_enter Tryd.func13, Tryd.ntmps13
        go_wp2
        go_ret
        exact ⟨by first | rfl | (simp; done) | (simp [*]; done) | (simp [bneNil_, beqNil_]; done) | (simp [bneNil_, beqNil_, *]; done) | (simp_all; done), by repeat (first | exact Drawn0.refl _ | apply Drawn0.step)⟩
      · rw [if_neg c5] at H
        have c5b0 : decide ((Int.tmod a0 a1) < 0) = false := decide_eq_false c5
        clear c5
        obtain rfl := Option.some.inj H
        go_enter Tryd.func13, Tryd.ntmps13
        go_wp2
        go_ret
        exact ⟨by first | rfl | (simp; done) | (simp [*]; done) | (simp [bneNil_, beqNil_]; done) | (simp [bneNil_, beqNil_, *]; done) | (simp_all; done), by repeat (first | exact Drawn0.refl _ | apply Drawn0.step)⟩

/-! ### outlawlaw01_ScanFronts: function 4 -/
mutual
def outlawlaw01_ScanFronts.j0 : Nat → ByteArray → ByteArray → Int → Bool → Option (Bool)
  | 0, _, _, _, _ => none
  | k + 1, x0, x1, x2, x25 => if x25 = true then (some true) else ((scan_Unquote.f k x0).bind fun bt120 => (if bt120.2.2 = 0 then (if bt120.2.1 < 2 then (outlawlaw01_ScanFronts.j1 k x0 x1 x2 bt120.1 bt120.2.1 true) else (outlawlaw01_ScanFronts.j1 k x0 x1 x2 bt120.1 bt120.2.1 (decide (bt120.2.1 > (x0.size : Int))))) else (some true)))
def outlawlaw01_ScanFronts.j1 : Nat → ByteArray → ByteArray → Int → ByteArray → Int → Bool → Option (Bool)
  | 0, _, _, _, _, _, _ => none
  | k + 1, x0, x1, x2, x7, x8, x41 => if x41 = true then (some false) else (if 0 ≤ x8 then (if x8 ≤ (x0.size : Int) then (if (x0.extract 0 (x8 : Int).toNat).size + x1.size ≤ 9223372036854775807 then ((scan_Unquote.f k ((x0.extract 0 (x8 : Int).toNat) ++ x1)).bind fun bt123 => ((outlawkit_Pick.f x2 x8).bind fun t126 => (if 0 ≤ t126 then (if t126 ≤ (x0.size : Int) then ((scan_Unquote.f k (x0.extract 0 (t126 : Int).toNat)).bind fun bt127 => (if bt123.2.2 = 0 then (if x7.toList = bt123.1.toList then (if bt123.2.1 = x8 then (if bt127.2.2 = 3 then (some true) else (some (bt127.2.2 == 6))) else (some false)) else (some false)) else (some false))) else (none)) else (none)))) else (none)) else (none)) else (none))
end
def outlawlaw01_ScanFronts.f (k : Nat) (a0 : ByteArray) (a1 : ByteArray) (a2 : Int) : Option (Bool) := (outlawlaw01_lives.f).bind fun t119 => (if t119 = true then (if (a0.size : Int) > 2000 then (outlawlaw01_ScanFronts.j0 k a0 a1 a2 true) else (outlawlaw01_ScanFronts.j0 k a0 a1 a2 (decide ((a1.size : Int) > 2000)))) else (some false))
theorem outlawlaw01_ScanFronts.mono_l : ∀ k, (∀ y0 y1 y2 y3, LeO (outlawlaw01_ScanFronts.j0 k y0 y1 y2 y3) (outlawlaw01_ScanFronts.j0 (k + 1) y0 y1 y2 y3)) ∧ (∀ y0 y1 y2 y3 y4 y5, LeO (outlawlaw01_ScanFronts.j1 k y0 y1 y2 y3 y4 y5) (outlawlaw01_ScanFronts.j1 (k + 1) y0 y1 y2 y3 y4 y5))
  | 0 => ⟨fun _ _ _ _ r h => by simp [outlawlaw01_ScanFronts.j0] at h, fun _ _ _ _ _ _ r h => by simp [outlawlaw01_ScanFronts.j1] at h⟩
  | k + 1 => by
    obtain ⟨ih0, ih1⟩ := outlawlaw01_ScanFronts.mono_l k
    refine ⟨?_, ?_⟩
    · intro y0 y1 y2 y3
      unfold outlawlaw01_ScanFronts.j0
      repeat' first
      | (with_reducible exact ih0 _ _ _ _)
      | (with_reducible exact ih1 _ _ _ _ _ _)
      | (with_reducible exact scan_Unquote.mono _ _)
      | (with_reducible exact LeO.refl _)
      | (with_reducible exact LeO.none _)
      | (with_reducible refine LeO.ite ?_ ?_)
      | (with_reducible refine LeO.bind ?_ (fun _ => ?_))
      | exact ih0 _ _ _ _
      | exact ih1 _ _ _ _ _ _
      | exact scan_Unquote.mono _ _
      | exact LeO.none _
      | refine LeO.ite ?_ ?_
      | refine LeO.bind ?_ (fun _ => ?_)
    · intro y0 y1 y2 y3 y4 y5
      unfold outlawlaw01_ScanFronts.j1
      repeat' first
      | (with_reducible exact ih0 _ _ _ _)
      | (with_reducible exact ih1 _ _ _ _ _ _)
      | (with_reducible exact scan_Unquote.mono _ _)
      | (with_reducible exact LeO.refl _)
      | (with_reducible exact LeO.none _)
      | (with_reducible refine LeO.ite ?_ ?_)
      | (with_reducible refine LeO.bind ?_ (fun _ => ?_))
      | exact ih0 _ _ _ _
      | exact ih1 _ _ _ _ _ _
      | exact scan_Unquote.mono _ _
      | exact LeO.none _
      | refine LeO.ite ?_ ?_
      | refine LeO.bind ?_ (fun _ => ?_)
theorem outlawlaw01_ScanFronts.mono : ∀ a0 a1 a2 k, LeO (outlawlaw01_ScanFronts.f k a0 a1 a2) (outlawlaw01_ScanFronts.f (k + 1) a0 a1 a2) := by
  intro a0 a1 a2 k
  obtain ⟨ih0, ih1⟩ := outlawlaw01_ScanFronts.mono_l k
  unfold outlawlaw01_ScanFronts.f
  repeat' first
      | (with_reducible exact ih0 _ _ _ _)
      | (with_reducible exact ih1 _ _ _ _ _ _)
      | (with_reducible exact scan_Unquote.mono _ _)
      | (with_reducible exact LeO.refl _)
      | (with_reducible exact LeO.none _)
      | (with_reducible refine LeO.ite ?_ ?_)
      | (with_reducible refine LeO.bind ?_ (fun _ => ?_))
      | exact ih0 _ _ _ _
      | exact ih1 _ _ _ _ _ _
      | exact scan_Unquote.mono _ _
      | exact LeO.none _
      | refine LeO.ite ?_ ?_
      | refine LeO.bind ?_ (fun _ => ?_)
set_option maxHeartbeats 8000000 in
set_option maxRecDepth 100000 in
theorem outlawlaw01_ScanFronts.calls (k : Nat) (a0 : ByteArray) (a1 : ByteArray) (a2 : Int) (r : Bool) (w : World) (hr_ : Aside0 (r = true)) (htTabU_ : TabU w) (h : outlawlaw01_ScanFronts.f k a0 a1 a2 = some r) :
    Calls Tryd.prog 4 #[.string a0, .string a1, .int .i64 a2] w fun e w' => e = .returned (.bool r) ∧ Below w.heap.size w w' := by
  have HTTabU_ := Aside0.mk htTabU_
  clear htTabU_
  have HB := Aside0.mk (Below.refl w.heap.size w)
  have H : ((outlawlaw01_lives.f).bind fun t119 => (if t119 = true then (if (a0.size : Int) > 2000 then (outlawlaw01_ScanFronts.j0 k a0 a1 a2 true) else (outlawlaw01_ScanFronts.j0 k a0 a1 a2 (decide ((a1.size : Int) > 2000)))) else (some false))) = some r := h
  clear h
  replace H := Option.bind_eq_some_iff.mp H
  obtain ⟨t119, A40, H⟩ := H
  replace H : (if t119 = true then (if (a0.size : Int) > 2000 then (outlawlaw01_ScanFronts.j0 k a0 a1 a2 true) else (outlawlaw01_ScanFronts.j0 k a0 a1 a2 (decide ((a1.size : Int) > 2000)))) else (some false)) = some r := H
  have A4 := Aside0.mk A40
  clear A40
  by_cases c5 : t119 = true
  · subst c5
    have H1 : (if (a0.size : Int) > 2000 then (outlawlaw01_ScanFronts.j0 k a0 a1 a2 true) else (outlawlaw01_ScanFronts.j0 k a0 a1 a2 (decide ((a1.size : Int) > 2000)))) = some r := by rw [if_pos rfl] at H; exact H
    clear H
    have H := H1
    clear H1
    have HC6 := Aside0.mk H
    clear H
    go_enter Tryd.func4, Tryd.ntmps4
    go_upto_region 3 with (first | ((with_reducible refine gate_callee (f := 9) rfl ?_); refine goesL_ (some 16) rfl rfl Tryd.func9 (by kernel_rfl) rfl #[] rfl (by (try simp only [List.map_toArray, List.map_cons, List.map_nil]); first | done | rfl | (simp only [List.length_drop, List.length_take]; rfl)) ?_; (with_reducible refine (outlawlaw01_lives.calls  true _ ?side1 A4.out).mono ?_); (case side1 => exact TabU.at HTTabU_.out (by repeat (first | (with_reducible first | exact HB.out | apply below_alloc | apply pw_below_drewN | apply below_drew1) | exact HB.out))); rintro e w7 ⟨rfl, hb⟩; refine ⟨_, rfl, ?_⟩; have n0_ := Aside0.mk (below_step (by repeat (first | (with_reducible first | exact HB.out | apply below_alloc | apply pw_below_drewN | apply below_drew1) | exact HB.out)) hb); clear HB; have HB := n0_; clear n0_; (try clear hb); (try clear hb2); (try clear hk); (try clear hi)))
    (try simp only [Act.put, List.setIfInBounds_toArray, List.set_cons_zero, List.set_cons_succ])
    go_cut [25] (fun v25 wc => ∃ (kq : Nat) (x25_5 : Bool), v25 = .bool x25_5 ∧ Aside0 (outlawlaw01_ScanFronts.j0 kq a0 a1 a2 x25_5 = some r) ∧ Aside0 (kq ≤ k) ∧ Aside0 (Below w.heap.size w wc))
    case first =>
      have H := HC6.out
      clear HC6
      by_cases c8 : (a0.size : Int) > 2000
      · rw [if_pos c8] at H
        have c8b0 : decide (2000 < (a0.size : Int)) = true := decide_eq_true c8
        have c8b1 : decide (2000 < a0.size) = true := decide_eq_true (by omega)
        clear c8
        (first | rw [c8b0] | (simp only [i64_w, i32_w]; rw [c8b0]) | skip)
        have H' := Aside0.mk H
        clear H
        go_wp2
        all_goals
          go_meet
          case rel => exact ⟨_, (true), (by first | rfl | (simp; done) | (simp [*]; done) | (simp [bneNil_, beqNil_]; done) | (simp [bneNil_, beqNil_, *]; done) | (simp_all; done)), H', ⟨by first | omega | exact Nat.le_refl _⟩, ⟨by repeat (first | (with_reducible first | exact HB.out | apply below_alloc | apply pw_below_drewN | apply below_drew1) | exact HB.out)⟩⟩
      · rw [if_neg c8] at H
        have c8b0 : decide (2000 < (a0.size : Int)) = false := decide_eq_false c8
        have c8b1 : decide (2000 < a0.size) = false := decide_eq_false (by omega)
        clear c8
        (first | rw [c8b0] | (simp only [i64_w, i32_w]; rw [c8b0]) | skip)
        have H' := Aside0.mk H
        clear H
        go_wp2
        all_goals
          go_meet
          case rel => exact ⟨_, (decide ((a1.size : Int) > 2000)), (by first | rfl | (simp; done) | (simp [*]; done) | (simp [bneNil_, beqNil_]; done) | (simp [bneNil_, beqNil_, *]; done) | (simp_all; done)), H', ⟨by first | omega | exact Nat.le_refl _⟩, ⟨by repeat (first | (with_reducible first | exact HB.out | apply below_alloc | apply pw_below_drewN | apply below_drew1) | exact HB.out)⟩⟩
    case rest =>
      clear HC6
      try clear p2
      try clear c4
      try clear c5
      try clear c8
      try clear c8b0
      try clear c8b1
      obtain ⟨kq, x25_5, rfl, HA, HJ5, HB⟩ := hcut
      cases kq with
      | zero => exact absurd HA.out (by simp [outlawlaw01_ScanFronts.j0])
      | succ kj5 =>
        have H := HA.out
        clear HA
        simp only [outlawlaw01_ScanFronts.j0] at H
        by_cases c9 : x25_5 = true
        · subst c9
          have H1 : (some true) = some r := by rw [if_pos rfl] at H; exact H
          clear H
          have H := H1
          clear H1
          obtain rfl := Option.some.inj H
          go_wp2
          go_ret
          exact ⟨by first | rfl | (simp [errW_none, errW_some] <;> rfl) | (simp [*, errW_none, errW_some] <;> rfl), by repeat (first | (with_reducible first | exact HB.out | apply below_alloc | apply pw_below_drewN | apply below_drew1) | exact HB.out)⟩
        · replace c9 := Bool.eq_false_iff.mpr c9
          subst c9
          have H1 : ((scan_Unquote.f kj5 a0).bind fun bt120 => (if bt120.2.2 = 0 then (if bt120.2.1 < 2 then (outlawlaw01_ScanFronts.j1 kj5 a0 a1 a2 bt120.1 bt120.2.1 true) else (outlawlaw01_ScanFronts.j1 kj5 a0 a1 a2 bt120.1 bt120.2.1 (decide (bt120.2.1 > (a0.size : Int))))) else (some true))) = some r := by rw [if_neg (show ¬ (false = true) by decide)] at H; exact H
          clear H
          have H := H1
          clear H1
          replace H := Option.bind_eq_some_iff.mp H
          obtain ⟨⟨t120, t121, t122⟩, A100, H⟩ := H
          replace H : (if t122 = 0 then (if t121 < 2 then (outlawlaw01_ScanFronts.j1 kj5 a0 a1 a2 t120 t121 true) else (outlawlaw01_ScanFronts.j1 kj5 a0 a1 a2 t120 t121 (decide (t121 > (a0.size : Int))))) else (some true)) = some r := H
          have A10 := Aside0.mk A100
          clear A100
          by_cases c11 : t122 = 0
          · rw [if_pos c11] at H
            have c11b0 : (t122 == 0) = true := beq_iff_eq.mpr c11
            have c11b1 : (t122 != 0) = false := bne_eq_false_iff_eq.mpr c11
            clear c11
            have HC12 := Aside0.mk H
            clear H
            go_upto_region 8 with (first | ((with_reducible refine gate_callee (f := 12) rfl ?_); refine goesL_ (some 28) rfl rfl Tryd.func12 (by kernel_rfl) rfl #[.string a0] rfl (by (try simp only [List.map_toArray, List.map_cons, List.map_nil]); first | done | rfl | (simp only [List.length_drop, List.length_take]; rfl)) ?_; (with_reducible refine (scan_Unquote.calls kj5 a0 t120 t121 t122 _ ?side1 A10.out).mono ?_); (case side1 => exact TabU.at HTTabU_.out (by repeat (first | (with_reducible first | exact HB.out | apply below_alloc | apply pw_below_drewN | apply below_drew1) | exact HB.out))); rintro e w13 ⟨rfl, hb⟩; refine ⟨_, rfl, ?_⟩; have n0_ := Aside0.mk (below_step (by repeat (first | (with_reducible first | exact HB.out | apply below_alloc | apply pw_below_drewN | apply below_drew1) | exact HB.out)) hb); clear HB; have HB := n0_; clear n0_; (try clear hb); (try clear hb2); (try clear hk); (try clear hi)))
            (try simp only [Act.put, List.setIfInBounds_toArray, List.set_cons_zero, List.set_cons_succ])
            go_cut [41] (fun v41 wc => ∃ (kq : Nat) (x41_11 : Bool), v41 = .bool x41_11 ∧ Aside0 (outlawlaw01_ScanFronts.j1 kq a0 a1 a2 t120 t121 x41_11 = some r) ∧ Aside0 (kq ≤ kj5) ∧ Aside0 (Below w.heap.size w wc))
            case first =>
              have H := HC12.out
              clear HC12
              by_cases c14 : t121 < 2
              · rw [if_pos c14] at H
                have c14b0 : decide (t121 < 2) = true := decide_eq_true c14
                clear c14
                (first | rw [c14b0] | (simp only [i64_w, i32_w]; rw [c14b0]) | skip)
                have H' := Aside0.mk H
                clear H
                go_wp2
                all_goals
                  go_meet
                  case rel => exact ⟨_, (true), (by first | rfl | (simp; done) | (simp [*]; done) | (simp [bneNil_, beqNil_]; done) | (simp [bneNil_, beqNil_, *]; done) | (simp_all; done)), H', ⟨by have := HJ5.out; first | omega | exact Nat.le_refl _⟩, ⟨by repeat (first | (with_reducible first | exact HB.out | apply below_alloc | apply pw_below_drewN | apply below_drew1) | exact HB.out)⟩⟩
              · rw [if_neg c14] at H
                have c14b0 : decide (t121 < 2) = false := decide_eq_false c14
                clear c14
                (first | rw [c14b0] | (simp only [i64_w, i32_w]; rw [c14b0]) | skip)
                have H' := Aside0.mk H
                clear H
                go_wp2
                all_goals
                  go_meet
                  case rel => exact ⟨_, (decide (t121 > (a0.size : Int))), (by first | rfl | (simp; done) | (simp [*]; done) | (simp [bneNil_, beqNil_]; done) | (simp [bneNil_, beqNil_, *]; done) | (simp_all; done)), H', ⟨by have := HJ5.out; first | omega | exact Nat.le_refl _⟩, ⟨by repeat (first | (with_reducible first | exact HB.out | apply below_alloc | apply pw_below_drewN | apply below_drew1) | exact HB.out)⟩⟩
            case rest =>
              clear HC12
              try clear c1
              try clear p2
              try clear c4
              try clear c5
              try clear c8
              try clear c8b0
              try clear c8b1
              try clear c9
              try clear c11
              try clear c11b0
              try clear c11b1
              try clear c12
              try clear c14
              try clear c14b0
              try clear p2
              obtain ⟨kq, x41_11, rfl, HA, HJ11, HB⟩ := hcut
              cases kq with
              | zero => exact absurd HA.out (by simp [outlawlaw01_ScanFronts.j1])
              | succ kj11 =>
                have H := HA.out
                clear HA
                simp only [outlawlaw01_ScanFronts.j1] at H
                by_cases c15 : x41_11 = true
                · subst c15
                  have H1 : (some false) = some r := by rw [if_pos rfl] at H; exact H
                  clear H
                  have H := H1
                  clear H1
                  exact absurd ((Option.some.inj H).trans hr_.out) (by decide)
                · replace c15 := Bool.eq_false_iff.mpr c15
                  subst c15
                  have H1 : (if 0 ≤ t121 then (if t121 ≤ (a0.size : Int) then (if (a0.extract 0 (t121 : Int).toNat).size + a1.size ≤ 9223372036854775807 then ((scan_Unquote.f kj11 ((a0.extract 0 (t121 : Int).toNat) ++ a1)).bind fun bt123 => ((outlawkit_Pick.f a2 t121).bind fun t126 => (if 0 ≤ t126 then (if t126 ≤ (a0.size : Int) then ((scan_Unquote.f kj11 (a0.extract 0 (t126 : Int).toNat)).bind fun bt127 => (if bt123.2.2 = 0 then (if t120.toList = bt123.1.toList then (if bt123.2.1 = t121 then (if bt127.2.2 = 3 then (some true) else (some (bt127.2.2 == 6))) else (some false)) else (some false)) else (some false))) else (none)) else (none)))) else (none)) else (none)) else (none)) = some r := by rw [if_neg (show ¬ (false = true) by decide)] at H; exact H
                  clear H
                  have H := H1
                  clear H1
                  by_cases c16 : 0 ≤ t121
                  · rw [if_pos c16] at H
                    have c16b0 := eq_true c16
                    have c16b1 : decide (0 ≤ t121) = true := decide_eq_true c16
                    clear c16
                    by_cases c17 : t121 ≤ (a0.size : Int)
                    · rw [if_pos c17] at H
                      have c17b0 := eq_true c17
                      have c17b1 : decide (t121 ≤ (a0.size : Int)) = true := decide_eq_true c17
                      clear c17
                      by_cases c18 : (a0.extract 0 (t121 : Int).toNat).size + a1.size ≤ 9223372036854775807
                      · rw [if_pos c18] at H
                        (try (have c18x := c18; simp only [ByteArray.size_extract, Nat.min_self, Nat.sub_zero] at c18x))
                        (try (have c18y := c18; simp only [ByteArray.size_extract, Nat.min_self, Nat.sub_zero, Int.natCast_pos] at c18y))
                        have c18b0 := eq_true c18
                        have c18b1 : decide ((a0.extract 0 (t121 : Int).toNat).size + a1.size ≤ 9223372036854775807) = true := decide_eq_true c18
                        (try (have c18b1e := c18b1; simp only [ByteArray.size_extract, Nat.min_self, Nat.sub_zero] at c18b1e))
                        try have c18b2 : (9223372036854775807 < (a0.extract 0 (t121 : Int).toNat).size + a1.size) = False := eq_false (Nat.not_lt.2 c18)
                        replace H := Option.bind_eq_some_iff.mp H
                        obtain ⟨⟨t123, t124, t125⟩, A190, H⟩ := H
                        replace H : ((outlawkit_Pick.f a2 t121).bind fun t126 => (if 0 ≤ t126 then (if t126 ≤ (a0.size : Int) then ((scan_Unquote.f kj11 (a0.extract 0 (t126 : Int).toNat)).bind fun bt127 => (if t125 = 0 then (if t120.toList = t123.toList then (if t124 = t121 then (if bt127.2.2 = 3 then (some true) else (some (bt127.2.2 == 6))) else (some false)) else (some false)) else (some false))) else (none)) else (none))) = some r := H
                        have A19 := Aside0.mk A190
                        clear A190
                        replace H := Option.bind_eq_some_iff.mp H
                        obtain ⟨t126, A200, H⟩ := H
                        replace H : (if 0 ≤ t126 then (if t126 ≤ (a0.size : Int) then ((scan_Unquote.f kj11 (a0.extract 0 (t126 : Int).toNat)).bind fun bt127 => (if t125 = 0 then (if t120.toList = t123.toList then (if t124 = t121 then (if bt127.2.2 = 3 then (some true) else (some (bt127.2.2 == 6))) else (some false)) else (some false)) else (some false))) else (none)) else (none)) = some r := H
                        have A20 := Aside0.mk A200
                        clear A200
                        by_cases c21 : 0 ≤ t126
                        · rw [if_pos c21] at H
                          have c21b0 := eq_true c21
                          have c21b1 : decide (0 ≤ t126) = true := decide_eq_true c21
                          clear c21
                          by_cases c22 : t126 ≤ (a0.size : Int)
                          · rw [if_pos c22] at H
                            have c22b0 := eq_true c22
                            have c22b1 : decide (t126 ≤ (a0.size : Int)) = true := decide_eq_true c22
                            clear c22
                            replace H := Option.bind_eq_some_iff.mp H
                            obtain ⟨⟨t127, t128, t129⟩, A230, H⟩ := H
                            replace H : (if t125 = 0 then (if t120.toList = t123.toList then (if t124 = t121 then (if t129 = 3 then (some true) else (some (t129 == 6))) else (some false)) else (some false)) else (some false)) = some r := H
                            have A23 := Aside0.mk A230
                            clear A230
                            by_cases c24 : t125 = 0
                            · rw [if_pos c24] at H
                              have c24b0 : (t125 == 0) = true := beq_iff_eq.mpr c24
                              have c24b1 : (t125 != 0) = false := bne_eq_false_iff_eq.mpr c24
                              clear c24
                              by_cases c25 : t120.toList = t123.toList
                              · rw [if_pos c25] at H
                                have c25b0 : (t120.toList == t123.toList) = true := beq_iff_eq.mpr c25
                                have c25b1 : (t120.toList != t123.toList) = false := bne_eq_false_iff_eq.mpr c25
                                clear c25
                                by_cases c26 : t124 = t121
                                · rw [if_pos c26] at H
                                  have c26b0 : (t124 == t121) = true := beq_iff_eq.mpr c26
                                  have c26b1 : (t124 != t121) = false := bne_eq_false_iff_eq.mpr c26
                                  clear c26
                                  by_cases c27 : t129 = 3
                                  · rw [if_pos c27] at H
                                    have c27b0 : (t129 == 3) = true := beq_iff_eq.mpr c27
                                    have c27b1 : (t129 != 3) = false := bne_eq_false_iff_eq.mpr c27
                                    clear c27
                                    obtain rfl := Option.some.inj H
                                    go_wp2_with (first | ((with_reducible refine gate_callee (f := 12) rfl ?_); refine goesL_ (some 48) rfl rfl Tryd.func12 (by kernel_rfl) rfl #[.string ((a0.extract 0 (t121 : Int).toNat) ++ a1)] rfl (by (try simp only [List.map_toArray, List.map_cons, List.map_nil]); first | done | rfl | (simp only [List.length_drop, List.length_take]; rfl)) ?_; (with_reducible refine (scan_Unquote.calls kj11 ((a0.extract 0 (t121 : Int).toNat) ++ a1) t123 t124 t125 _ ?side1 A19.out).mono ?_); (case side1 => exact TabU.at HTTabU_.out (by repeat (first | (with_reducible first | exact HB.out | apply below_alloc | apply pw_below_drewN | apply below_drew1) | exact HB.out))); rintro e w28 ⟨rfl, hb⟩; refine ⟨_, rfl, ?_⟩; have n0_ := Aside0.mk (below_step (by repeat (first | (with_reducible first | exact HB.out | apply below_alloc | apply pw_below_drewN | apply below_drew1) | exact HB.out)) hb); clear HB; have HB := n0_; clear n0_; (try clear hb); (try clear hb2); (try clear hk); (try clear hi)) | ((with_reducible refine gate_callee (f := 13) rfl ?_); refine goesL_ (some 56) rfl rfl Tryd.func13 (by kernel_rfl) rfl #[.int .i64 a2, .int .i64 t121] rfl (by (try simp only [List.map_toArray, List.map_cons, List.map_nil]); first | done | rfl | (simp only [List.length_drop, List.length_take]; rfl)) ?_; (with_reducible refine (outlawkit_Pick.calls a2 t121 t126 _ A20.out).mono ?_); rintro e w' ⟨rfl, ⟨nd, rfl⟩⟩; refine ⟨_, rfl, ?_⟩) | ((with_reducible refine gate_callee (f := 12) rfl ?_); refine goesL_ (some 58) rfl rfl Tryd.func12 (by kernel_rfl) rfl #[.string (a0.extract 0 (t126 : Int).toNat)] rfl (by (try simp only [List.map_toArray, List.map_cons, List.map_nil]); first | done | rfl | (simp only [List.length_drop, List.length_take]; rfl)) ?_; (with_reducible refine (scan_Unquote.calls kj11 (a0.extract 0 (t126 : Int).toNat) t127 t128 t129 _ ?side1 A23.out).mono ?_); (case side1 => exact TabU.at HTTabU_.out (by repeat (first | (with_reducible first | exact HB.out | apply below_alloc | apply pw_below_drewN | apply below_drew1) | exact HB.out))); rintro e w29 ⟨rfl, hb⟩; refine ⟨_, rfl, ?_⟩; have n0_ := Aside0.mk (below_step (by repeat (first | (with_reducible first | exact HB.out | apply below_alloc | apply pw_below_drewN | apply below_drew1) | exact HB.out)) hb); clear HB; have HB := n0_; clear n0_; (try clear hb); (try clear hb2); (try clear hk); (try clear hi)))
                                    go_ret
                                    exact ⟨by first | rfl | (simp [errW_none, errW_some] <;> rfl) | (simp [*, errW_none, errW_some] <;> rfl), by repeat (first | (with_reducible first | exact HB.out | apply below_alloc | apply pw_below_drewN | apply below_drew1) | exact HB.out)⟩
                                  · rw [if_neg c27] at H
                                    have c27b0 : (t129 == 3) = false := beq_eq_false_iff_ne.mpr c27
                                    have c27b1 : (t129 != 3) = true := bne_iff_ne.mpr c27
                                    obtain rfl := Option.some.inj H
                                    go_wp2_with (first | ((with_reducible refine gate_callee (f := 12) rfl ?_); refine goesL_ (some 48) rfl rfl Tryd.func12 (by kernel_rfl) rfl #[.string ((a0.extract 0 (t121 : Int).toNat) ++ a1)] rfl (by (try simp only [List.map_toArray, List.map_cons, List.map_nil]); first | done | rfl | (simp only [List.length_drop, List.length_take]; rfl)) ?_; (with_reducible refine (scan_Unquote.calls kj11 ((a0.extract 0 (t121 : Int).toNat) ++ a1) t123 t124 t125 _ ?side1 A19.out).mono ?_); (case side1 => exact TabU.at HTTabU_.out (by repeat (first | (with_reducible first | exact HB.out | apply below_alloc | apply pw_below_drewN | apply below_drew1) | exact HB.out))); rintro e w30 ⟨rfl, hb⟩; refine ⟨_, rfl, ?_⟩; have n0_ := Aside0.mk (below_step (by repeat (first | (with_reducible first | exact HB.out | apply below_alloc | apply pw_below_drewN | apply below_drew1) | exact HB.out)) hb); clear HB; have HB := n0_; clear n0_; (try clear hb); (try clear hb2); (try clear hk); (try clear hi)) | ((with_reducible refine gate_callee (f := 13) rfl ?_); refine goesL_ (some 56) rfl rfl Tryd.func13 (by kernel_rfl) rfl #[.int .i64 a2, .int .i64 t121] rfl (by (try simp only [List.map_toArray, List.map_cons, List.map_nil]); first | done | rfl | (simp only [List.length_drop, List.length_take]; rfl)) ?_; (with_reducible refine (outlawkit_Pick.calls a2 t121 t126 _ A20.out).mono ?_); rintro e w' ⟨rfl, ⟨nd, rfl⟩⟩; refine ⟨_, rfl, ?_⟩) | ((with_reducible refine gate_callee (f := 12) rfl ?_); refine goesL_ (some 58) rfl rfl Tryd.func12 (by kernel_rfl) rfl #[.string (a0.extract 0 (t126 : Int).toNat)] rfl (by (try simp only [List.map_toArray, List.map_cons, List.map_nil]); first | done | rfl | (simp only [List.length_drop, List.length_take]; rfl)) ?_; (with_reducible refine (scan_Unquote.calls kj11 (a0.extract 0 (t126 : Int).toNat) t127 t128 t129 _ ?side1 A23.out).mono ?_); (case side1 => exact TabU.at HTTabU_.out (by repeat (first | (with_reducible first | exact HB.out | apply below_alloc | apply pw_below_drewN | apply below_drew1) | exact HB.out))); rintro e w31 ⟨rfl, hb⟩; refine ⟨_, rfl, ?_⟩; have n0_ := Aside0.mk (below_step (by repeat (first | (with_reducible first | exact HB.out | apply below_alloc | apply pw_below_drewN | apply below_drew1) | exact HB.out)) hb); clear HB; have HB := n0_; clear n0_; (try clear hb); (try clear hb2); (try clear hk); (try clear hi)))
                                    go_ret
                                    exact ⟨by first | rfl | (simp [errW_none, errW_some] <;> rfl) | (simp [*, errW_none, errW_some] <;> rfl), by repeat (first | (with_reducible first | exact HB.out | apply below_alloc | apply pw_below_drewN | apply below_drew1) | exact HB.out)⟩
                                · rw [if_neg c26] at H
                                  have c26b0 : (t124 == t121) = false := beq_eq_false_iff_ne.mpr c26
                                  have c26b1 : (t124 != t121) = true := bne_iff_ne.mpr c26
                                  exact absurd ((Option.some.inj H).trans hr_.out) (by decide)
                              · rw [if_neg c25] at H
                                have c25b0 : (t120.toList == t123.toList) = false := beq_eq_false_iff_ne.mpr c25
                                have c25b1 : (t120.toList != t123.toList) = true := bne_iff_ne.mpr c25
                                exact absurd ((Option.some.inj H).trans hr_.out) (by decide)
                            · rw [if_neg c24] at H
                              have c24b0 : (t125 == 0) = false := beq_eq_false_iff_ne.mpr c24
                              have c24b1 : (t125 != 0) = true := bne_iff_ne.mpr c24
                              exact absurd ((Option.some.inj H).trans hr_.out) (by decide)
                          · rw [if_neg c22] at H
                            exact absurd H (by simp)
                        · rw [if_neg c21] at H
                          exact absurd H (by simp)
                      · rw [if_neg c18] at H
                        (try (have c18x := c18; simp only [ByteArray.size_extract, Nat.min_self, Nat.sub_zero] at c18x))
                        (try (have c18y := c18; simp only [ByteArray.size_extract, Nat.min_self, Nat.sub_zero, Int.natCast_pos] at c18y))
                        exact absurd H (by simp)
                    · rw [if_neg c17] at H
                      exact absurd H (by simp)
                  · rw [if_neg c16] at H
                    exact absurd H (by simp)
          · rw [if_neg c11] at H
            have c11b0 : (t122 == 0) = false := beq_eq_false_iff_ne.mpr c11
            have c11b1 : (t122 != 0) = true := bne_iff_ne.mpr c11
            obtain rfl := Option.some.inj H
            go_wp2_with (first | ((with_reducible refine gate_callee (f := 12) rfl ?_); refine goesL_ (some 28) rfl rfl Tryd.func12 (by kernel_rfl) rfl #[.string a0] rfl (by (try simp only [List.map_toArray, List.map_cons, List.map_nil]); first | done | rfl | (simp only [List.length_drop, List.length_take]; rfl)) ?_; (with_reducible refine (scan_Unquote.calls kj5 a0 t120 t121 t122 _ ?side1 A10.out).mono ?_); (case side1 => exact TabU.at HTTabU_.out (by repeat (first | (with_reducible first | exact HB.out | apply below_alloc | apply pw_below_drewN | apply below_drew1) | exact HB.out))); rintro e w32 ⟨rfl, hb⟩; refine ⟨_, rfl, ?_⟩; have n0_ := Aside0.mk (below_step (by repeat (first | (with_reducible first | exact HB.out | apply below_alloc | apply pw_below_drewN | apply below_drew1) | exact HB.out)) hb); clear HB; have HB := n0_; clear n0_; (try clear hb); (try clear hb2); (try clear hk); (try clear hi)))
            go_ret
            exact ⟨by first | rfl | (simp [errW_none, errW_some] <;> rfl) | (simp [*, errW_none, errW_some] <;> rfl), by repeat (first | (with_reducible first | exact HB.out | apply below_alloc | apply pw_below_drewN | apply below_drew1) | exact HB.out)⟩
  · replace c5 := Bool.eq_false_iff.mpr c5
    subst c5
    have H1 : (some false) = some r := by rw [if_neg (show ¬ (false = true) by decide)] at H; exact H
    clear H
    have H := H1
    clear H1
    exact absurd ((Option.some.inj H).trans hr_.out) (by decide)

/-- THE ONE PURE STATEMENT of outlawlaw01_ScanFronts: yours. -/
def outlawlaw01_ScanFronts.Pure : Prop := ∀ (a0 : ByteArray) (a1 : ByteArray) (a2 : Int), a0.size ≤ 140737488351232 → a1.size ≤ 140737488351232 → (Lit.int .i64 a2).wf = true → ∃ k, outlawlaw01_ScanFronts.f k a0 a1 a2 = some true
theorem outlawlaw01_ScanFronts.walk (P : outlawlaw01_ScanFronts.Pure) (a0 : ByteArray) (a1 : ByteArray) (a2 : Int) (w : World) (htTabU_ : TabU w) (w0 : a0.size ≤ 140737488351232) (w1 : a1.size ≤ 140737488351232) (w2 : (Lit.int .i64 a2).wf = true) :
    Calls Tryd.prog 4 #[.string a0, .string a1, .int .i64 a2] w fun e w' => e = .returned (.bool true) ∧ Below w.heap.size w w' := by
  obtain ⟨k, h⟩ := P a0 a1 a2 w0 w1 w2
  refine (outlawlaw01_ScanFronts.calls k a0 a1 a2 true w ⟨rfl⟩ htTabU_ h).mono ?_
  rintro e w' ⟨rfl, hd⟩
  exact ⟨rfl, hd⟩

end Go.Proofs.YtfmenojhojmedaaDoor.PA
