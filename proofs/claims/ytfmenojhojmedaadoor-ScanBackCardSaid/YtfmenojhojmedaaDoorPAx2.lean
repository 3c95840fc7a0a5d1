-- Written by a program of this session (gprint.py, a turned print with given contracts).
import Derived.Test.YtfmenojhojmedaaDoorPAx0
import Derived.Test.YtfmenojhojmedaaDoorPAx1
namespace Go.Proofs.YtfmenojhojmedaaDoor.PA
open Go.RowKit Go.Proofs.YtfmenojhojmedaaDoorW.PrintWords Go.Proofs.YtfmenojhojmedaaDoorW.PrintLast Go.Proofs.YtfmenojhojmedaaDoorW.PrintMore Go.Proofs.YtfmenojhojmedaaDoorG Go.Proofs.YtfmenojhojmedaaDoorX
attribute [local go_sem] max2_int min2_int max_two min_two max_three min_three max_four min_four   -- for this text's walks alone
set_option linter.unusedVariables false
set_option linter.unusedSimpArgs false

/-! ### outlawlaw01_ScanBack: function 3 -/
mutual
def outlawlaw01_ScanBack.j0 : Nat → ByteArray → ByteArray → Bool → Option (Bool)
  | 0, _, _, _ => none
  | k + 1, x0, x1, x28 => if x28 = true then (some true) else ((scan_Quote.f x0).bind fun bt105 => ((scan_Valid.f x0).bind fun t107 => (if ((bt105.2 == 0) != t107) = true then (outlawlaw01_ScanBack.j1 k x0 x1 bt105.1 bt105.2 true) else (if bt105.2 = 0 then (outlawlaw01_ScanBack.j1 k x0 x1 bt105.1 bt105.2 false) else (outlawlaw01_ScanBack.j1 k x0 x1 bt105.1 bt105.2 (bt105.1.toList != ([] : List UInt8)))))))
def outlawlaw01_ScanBack.j1 : Nat → ByteArray → ByteArray → ByteArray → Int → Bool → Option (Bool)
  | 0, _, _, _, _, _ => none
  | k + 1, x0, x1, x5, x6, x46 => if x46 = true then (some false) else (if x5.size + x1.size ≤ 9223372036854775807 then ((scan_Unquote.f k (x5 ++ x1)).bind fun bt108 => (if x6 = 0 then (if bt108.2.2 = 0 then (if bt108.1.toList = x0.toList then (outlawlaw01_ScanBack.j2 k x0 x5 (bt108.2.1 != (x5.size : Int))) else (outlawlaw01_ScanBack.j2 k x0 x5 true)) else (outlawlaw01_ScanBack.j2 k x0 x5 true)) else (outlawlaw01_ScanBack.j2 k x0 x5 false))) else (none))
def outlawlaw01_ScanBack.j2 : Nat → ByteArray → ByteArray → Bool → Option (Bool)
  | 0, _, _, _ => none
  | k + 1, x0, x5, x71 => if x71 = true then (some false) else (outlawlaw01_ScanBack.l0 k x0 x5 0)
def outlawlaw01_ScanBack.l0 : Nat → ByteArray → ByteArray → Int → Option (Bool)
  | 0, _, _, _ => none
  | k + 1, x0, x5, x10 => if x10 < (x5.size : Int) then (if 0 ≤ x10 then (if (bt x5 x10) < 32 then (some false) else (outlawlaw01_ScanBack.l0 k x0 x5 (wrap64 (x10 + 1)))) else (none)) else ((scan_Unquote.f k x0).bind fun bt111 => (if bt111.2.2 = 0 then ((scan_Quote.f bt111.1).bind fun bt114 => ((scan_Unquote.f k bt114.1).bind fun bt116 => (if bt114.2 = 0 then (if bt116.2.2 = 0 then (if bt116.1.toList = bt111.1.toList then (some (decide (bt111.2.1 ≤ (x0.size : Int)))) else (some false)) else (some false)) else (some false)))) else (if bt111.1.toList = ([] : List UInt8) then (some (bt111.2.1 == 0)) else (some false))))
end
def outlawlaw01_ScanBack.f (k : Nat) (a0 : ByteArray) (a1 : ByteArray) : Option (Bool) := (outlawlaw01_lives.f).bind fun t104 => (if t104 = true then (if (a0.size : Int) > 2000 then (outlawlaw01_ScanBack.j0 k a0 a1 true) else (outlawlaw01_ScanBack.j0 k a0 a1 (decide ((a1.size : Int) > 2000)))) else (some false))
theorem outlawlaw01_ScanBack.mono_l : ∀ k, (∀ y0 y1 y2, LeO (outlawlaw01_ScanBack.j0 k y0 y1 y2) (outlawlaw01_ScanBack.j0 (k + 1) y0 y1 y2)) ∧ (∀ y0 y1 y2 y3 y4, LeO (outlawlaw01_ScanBack.j1 k y0 y1 y2 y3 y4) (outlawlaw01_ScanBack.j1 (k + 1) y0 y1 y2 y3 y4)) ∧ (∀ y0 y1 y2, LeO (outlawlaw01_ScanBack.j2 k y0 y1 y2) (outlawlaw01_ScanBack.j2 (k + 1) y0 y1 y2)) ∧ (∀ y0 y1 y2, LeO (outlawlaw01_ScanBack.l0 k y0 y1 y2) (outlawlaw01_ScanBack.l0 (k + 1) y0 y1 y2))
  | 0 => ⟨fun _ _ _ r h => by simp [outlawlaw01_ScanBack.j0] at h, fun _ _ _ _ _ r h => by simp [outlawlaw01_ScanBack.j1] at h, fun _ _ _ r h => by simp [outlawlaw01_ScanBack.j2] at h, fun _ _ _ r h => by simp [outlawlaw01_ScanBack.l0] at h⟩
  | k + 1 => by
    obtain ⟨ih0, ih1, ih2, ih3⟩ := outlawlaw01_ScanBack.mono_l k
    refine ⟨?_, ?_, ?_, ?_⟩
    · intro y0 y1 y2
      unfold outlawlaw01_ScanBack.j0
      repeat' first
      | (with_reducible exact ih0 _ _ _)
      | (with_reducible exact ih1 _ _ _ _ _)
      | (with_reducible exact ih2 _ _ _)
      | (with_reducible exact ih3 _ _ _)
      | (with_reducible exact scan_Unquote.mono _ _)
      | (with_reducible exact LeO.refl _)
      | (with_reducible exact LeO.none _)
      | (with_reducible refine LeO.ite ?_ ?_)
      | (with_reducible refine LeO.bind ?_ (fun _ => ?_))
      | exact ih0 _ _ _
      | exact ih1 _ _ _ _ _
      | exact ih2 _ _ _
      | exact ih3 _ _ _
      | exact scan_Unquote.mono _ _
      | exact LeO.none _
      | refine LeO.ite ?_ ?_
      | refine LeO.bind ?_ (fun _ => ?_)
    · intro y0 y1 y2 y3 y4
      unfold outlawlaw01_ScanBack.j1
      repeat' first
      | (with_reducible exact ih0 _ _ _)
      | (with_reducible exact ih1 _ _ _ _ _)
      | (with_reducible exact ih2 _ _ _)
      | (with_reducible exact ih3 _ _ _)
      | (with_reducible exact scan_Unquote.mono _ _)
      | (with_reducible exact LeO.refl _)
      | (with_reducible exact LeO.none _)
      | (with_reducible refine LeO.ite ?_ ?_)
      | (with_reducible refine LeO.bind ?_ (fun _ => ?_))
      | exact ih0 _ _ _
      | exact ih1 _ _ _ _ _
      | exact ih2 _ _ _
      | exact ih3 _ _ _
      | exact scan_Unquote.mono _ _
      | exact LeO.none _
      | refine LeO.ite ?_ ?_
      | refine LeO.bind ?_ (fun _ => ?_)
    · intro y0 y1 y2
      unfold outlawlaw01_ScanBack.j2
      repeat' first
      | (with_reducible exact ih0 _ _ _)
      | (with_reducible exact ih1 _ _ _ _ _)
      | (with_reducible exact ih2 _ _ _)
      | (with_reducible exact ih3 _ _ _)
      | (with_reducible exact scan_Unquote.mono _ _)
      | (with_reducible exact LeO.refl _)
      | (with_reducible exact LeO.none _)
      | (with_reducible refine LeO.ite ?_ ?_)
      | (with_reducible refine LeO.bind ?_ (fun _ => ?_))
      | exact ih0 _ _ _
      | exact ih1 _ _ _ _ _
      | exact ih2 _ _ _
      | exact ih3 _ _ _
      | exact scan_Unquote.mono _ _
      | exact LeO.none _
      | refine LeO.ite ?_ ?_
      | refine LeO.bind ?_ (fun _ => ?_)
    · intro y0 y1 y2
      unfold outlawlaw01_ScanBack.l0
      repeat' first
      | (with_reducible exact ih0 _ _ _)
      | (with_reducible exact ih1 _ _ _ _ _)
      | (with_reducible exact ih2 _ _ _)
      | (with_reducible exact ih3 _ _ _)
      | (with_reducible exact scan_Unquote.mono _ _)
      | (with_reducible exact LeO.refl _)
      | (with_reducible exact LeO.none _)
      | (with_reducible refine LeO.ite ?_ ?_)
      | (with_reducible refine LeO.bind ?_ (fun _ => ?_))
      | exact ih0 _ _ _
      | exact ih1 _ _ _ _ _
      | exact ih2 _ _ _
      | exact ih3 _ _ _
      | exact scan_Unquote.mono _ _
      | exact LeO.none _
      | refine LeO.ite ?_ ?_
      | refine LeO.bind ?_ (fun _ => ?_)
theorem outlawlaw01_ScanBack.mono : ∀ a0 a1 k, LeO (outlawlaw01_ScanBack.f k a0 a1) (outlawlaw01_ScanBack.f (k + 1) a0 a1) := by
  intro a0 a1 k
  obtain ⟨ih0, ih1, ih2, ih3⟩ := outlawlaw01_ScanBack.mono_l k
  unfold outlawlaw01_ScanBack.f
  repeat' first
      | (with_reducible exact ih0 _ _ _)
      | (with_reducible exact ih1 _ _ _ _ _)
      | (with_reducible exact ih2 _ _ _)
      | (with_reducible exact ih3 _ _ _)
      | (with_reducible exact scan_Unquote.mono _ _)
      | (with_reducible exact LeO.refl _)
      | (with_reducible exact LeO.none _)
      | (with_reducible refine LeO.ite ?_ ?_)
      | (with_reducible refine LeO.bind ?_ (fun _ => ?_))
      | exact ih0 _ _ _
      | exact ih1 _ _ _ _ _
      | exact ih2 _ _ _
      | exact ih3 _ _ _
      | exact scan_Unquote.mono _ _
      | exact LeO.none _
      | refine LeO.ite ?_ ?_
      | refine LeO.bind ?_ (fun _ => ?_)
set_option maxHeartbeats 8000000 in
set_option maxRecDepth 100000 in
theorem outlawlaw01_ScanBack.calls (k : Nat) (a0 : ByteArray) (a1 : ByteArray) (r : Bool) (w : World) (hr_ : Aside0 (r = true)) (htTabU_ : TabU w) (h : outlawlaw01_ScanBack.f k a0 a1 = some r) :
    Calls Tryd.prog 3 #[.string a0, .string a1] w fun e w' => e = .returned (.bool r) ∧ Below w.heap.size w w' := by
  have HTTabU_ := Aside0.mk htTabU_
  clear htTabU_
  have HB := Aside0.mk (Below.refl w.heap.size w)
  have H : ((outlawlaw01_lives.f).bind fun t104 => (if t104 = true then (if (a0.size : Int) > 2000 then (outlawlaw01_ScanBack.j0 k a0 a1 true) else (outlawlaw01_ScanBack.j0 k a0 a1 (decide ((a1.size : Int) > 2000)))) else (some false))) = some r := h
  clear h
  replace H := Option.bind_eq_some_iff.mp H
  obtain ⟨t104, A30, H⟩ := H
  replace H : (if t104 = true then (if (a0.size : Int) > 2000 then (outlawlaw01_ScanBack.j0 k a0 a1 true) else (outlawlaw01_ScanBack.j0 k a0 a1 (decide ((a1.size : Int) > 2000)))) else (some false)) = some r := H
  have A3 := Aside0.mk A30
  clear A30
  by_cases c4 : t104 = true
  · subst c4
    have H1 : (if (a0.size : Int) > 2000 then (outlawlaw01_ScanBack.j0 k a0 a1 true) else (outlawlaw01_ScanBack.j0 k a0 a1 (decide ((a1.size : Int) > 2000)))) = some r := by rw [if_pos rfl] at H; exact H
    clear H
    have H := H1
    clear H1
    have HC5 := Aside0.mk H
    clear H
    go_enter Tryd.func3, Tryd.ntmps3
    go_upto_region 3 with (first | ((with_reducible refine gate_callee (f := 9) rfl ?_); refine goesL_ (some 19) rfl rfl Tryd.func9 (by kernel_rfl) rfl #[] rfl (by (try simp only [List.map_toArray, List.map_cons, List.map_nil]); first | done | rfl | (simp only [List.length_drop, List.length_take]; rfl)) ?_; (with_reducible refine (outlawlaw01_lives.calls  true _ ?side1 A3.out).mono ?_); (case side1 => exact TabU.at HTTabU_.out (by repeat (first | (with_reducible first | exact HB.out | apply below_alloc | apply pw_below_drewN | apply below_drew1) | exact HB.out))); rintro e w6 ⟨rfl, hb⟩; refine ⟨_, rfl, ?_⟩; have n0_ := Aside0.mk (below_step (by repeat (first | (with_reducible first | exact HB.out | apply below_alloc | apply pw_below_drewN | apply below_drew1) | exact HB.out)) hb); clear HB; have HB := n0_; clear n0_; (try clear hb); (try clear hb2); (try clear hk); (try clear hi)))
    (try simp only [Act.put, List.setIfInBounds_toArray, List.set_cons_zero, List.set_cons_succ])
    go_cut [28] (fun v28 wc => ∃ (kq : Nat) (x28_4 : Bool), v28 = .bool x28_4 ∧ Aside0 (outlawlaw01_ScanBack.j0 kq a0 a1 x28_4 = some r) ∧ Aside0 (kq ≤ k) ∧ Aside0 (Below w.heap.size w wc))
    case first =>
      have H := HC5.out
      clear HC5
      by_cases c7 : (a0.size : Int) > 2000
      · rw [if_pos c7] at H
        have c7b0 : decide (2000 < (a0.size : Int)) = true := decide_eq_true c7
        have c7b1 : decide (2000 < a0.size) = true := decide_eq_true (by omega)
        clear c7
        (first | rw [c7b0] | (simp only [i64_w, i32_w]; rw [c7b0]) | skip)
        have H' := Aside0.mk H
        clear H
        go_wp2
        all_goals
          go_meet
          case rel => exact ⟨_, (true), (by first | rfl | (simp; done) | (simp [*]; done) | (simp [bneNil_, beqNil_]; done) | (simp [bneNil_, beqNil_, *]; done) | (simp_all; done)), H', ⟨by first | omega | exact Nat.le_refl _⟩, ⟨by repeat (first | (with_reducible first | exact HB.out | apply below_alloc | apply pw_below_drewN | apply below_drew1) | exact HB.out)⟩⟩
      · rw [if_neg c7] at H
        have c7b0 : decide (2000 < (a0.size : Int)) = false := decide_eq_false c7
        have c7b1 : decide (2000 < a0.size) = false := decide_eq_false (by omega)
        clear c7
        (first | rw [c7b0] | (simp only [i64_w, i32_w]; rw [c7b0]) | skip)
        have H' := Aside0.mk H
        clear H
        go_wp2
        all_goals
          go_meet
          case rel => exact ⟨_, (decide ((a1.size : Int) > 2000)), (by first | rfl | (simp; done) | (simp [*]; done) | (simp [bneNil_, beqNil_]; done) | (simp [bneNil_, beqNil_, *]; done) | (simp_all; done)), H', ⟨by first | omega | exact Nat.le_refl _⟩, ⟨by repeat (first | (with_reducible first | exact HB.out | apply below_alloc | apply pw_below_drewN | apply below_drew1) | exact HB.out)⟩⟩
    case rest =>
      clear HC5
      try clear p2
      try clear c3
      try clear c4
      try clear c7
      try clear c7b0
      try clear c7b1
      obtain ⟨kq, x28_4, rfl, HA, HJ4, HB⟩ := hcut
      cases kq with
      | zero => exact absurd HA.out (by simp [outlawlaw01_ScanBack.j0])
      | succ kj4 =>
        have H := HA.out
        clear HA
        simp only [outlawlaw01_ScanBack.j0] at H
        by_cases c8 : x28_4 = true
        · subst c8
          have H1 : (some true) = some r := by rw [if_pos rfl] at H; exact H
          clear H
          have H := H1
          clear H1
          obtain rfl := Option.some.inj H
          go_wp2
          go_ret
          exact ⟨by first | rfl | (simp [errW_none, errW_some] <;> rfl) | (simp [*, errW_none, errW_some] <;> rfl), by repeat (first | (with_reducible first | exact HB.out | apply below_alloc | apply pw_below_drewN | apply below_drew1) | exact HB.out)⟩
        · replace c8 := Bool.eq_false_iff.mpr c8
          subst c8
          have H1 : ((scan_Quote.f a0).bind fun bt105 => ((scan_Valid.f a0).bind fun t107 => (if ((bt105.2 == 0) != t107) = true then (outlawlaw01_ScanBack.j1 kj4 a0 a1 bt105.1 bt105.2 true) else (if bt105.2 = 0 then (outlawlaw01_ScanBack.j1 kj4 a0 a1 bt105.1 bt105.2 false) else (outlawlaw01_ScanBack.j1 kj4 a0 a1 bt105.1 bt105.2 (bt105.1.toList != ([] : List UInt8))))))) = some r := by rw [if_neg (show ¬ (false = true) by decide)] at H; exact H
          clear H
          have H := H1
          clear H1
          replace H := Option.bind_eq_some_iff.mp H
          obtain ⟨⟨t105, t106⟩, A90, H⟩ := H
          replace H : ((scan_Valid.f a0).bind fun t107 => (if ((t106 == 0) != t107) = true then (outlawlaw01_ScanBack.j1 kj4 a0 a1 t105 t106 true) else (if t106 = 0 then (outlawlaw01_ScanBack.j1 kj4 a0 a1 t105 t106 false) else (outlawlaw01_ScanBack.j1 kj4 a0 a1 t105 t106 (t105.toList != ([] : List UInt8)))))) = some r := H
          have A9 := Aside0.mk A90
          clear A90
          have HC10 := Aside0.mk H
          clear H
          go_upto_region 6 with (first | ((with_reducible refine gate_callee (f := 10) rfl ?_); refine goesL_ (some 31) rfl rfl Tryd.func10 (by kernel_rfl) rfl #[.string a0] rfl (by (try simp only [List.map_toArray, List.map_cons, List.map_nil]); first | done | rfl | (simp only [List.length_drop, List.length_take]; rfl)) ?_; (with_reducible refine (scan_Quote.calls a0 t105 t106 _ ?side1 A9.out).mono ?_); (case side1 => exact TabU.at HTTabU_.out (by repeat (first | (with_reducible first | exact HB.out | apply below_alloc | apply pw_below_drewN | apply below_drew1) | exact HB.out))); rintro e w11 ⟨rfl, hb⟩; refine ⟨_, rfl, ?_⟩; have n0_ := Aside0.mk (below_step (by repeat (first | (with_reducible first | exact HB.out | apply below_alloc | apply pw_below_drewN | apply below_drew1) | exact HB.out)) hb); clear HB; have HB := n0_; clear n0_; (try clear hb); (try clear hb2); (try clear hk); (try clear hi)))
          (try simp only [Act.put, List.setIfInBounds_toArray, List.set_cons_zero, List.set_cons_succ])
          go_cut [46] (fun v46 wc => ∃ (kq : Nat) (x46_9 : Bool), v46 = .bool x46_9 ∧ Aside0 (outlawlaw01_ScanBack.j1 kq a0 a1 t105 t106 x46_9 = some r) ∧ Aside0 (kq ≤ kj4) ∧ Aside0 (Below w.heap.size w wc))
          case first =>
            have H := HC10.out
            clear HC10
            replace H := Option.bind_eq_some_iff.mp H
            obtain ⟨t107, A120, H⟩ := H
            replace H : (if ((t106 == 0) != t107) = true then (outlawlaw01_ScanBack.j1 kj4 a0 a1 t105 t106 true) else (if t106 = 0 then (outlawlaw01_ScanBack.j1 kj4 a0 a1 t105 t106 false) else (outlawlaw01_ScanBack.j1 kj4 a0 a1 t105 t106 (t105.toList != ([] : List UInt8))))) = some r := H
            have A12 := Aside0.mk A120
            clear A120
            by_cases c13 : ((t106 == 0) != t107) = true
            · rw [if_pos c13] at H
              have c13b0 : ((t106 == 0) != t107) = true := c13
              (try (have c13b1 : decide ((t106 == 0) = t107) = false := by simpa using c13))
              (try (have c13b2 : ((t106 == 0) == t107) = false := by simpa using c13))
              (try (have c13b3 : ¬ ((t106 == 0) = t107) := by simpa using c13))
              clear c13
              (first | rw [c13b0] | (simp only [i64_w, i32_w]; rw [c13b0]) | skip)
              have H' := Aside0.mk H
              clear H
              go_wp2_with (first | ((with_reducible refine gate_callee (f := 11) rfl ?_); refine goesL_ (some 37) rfl rfl Tryd.func11 (by kernel_rfl) rfl #[.string a0] rfl (by (try simp only [List.map_toArray, List.map_cons, List.map_nil]); first | done | rfl | (simp only [List.length_drop, List.length_take]; rfl)) ?_; (with_reducible refine (scan_Valid.calls a0 t107 _ ?side1 A12.out).mono ?_); (case side1 => exact TabU.at HTTabU_.out (by repeat (first | (with_reducible first | exact HB.out | apply below_alloc | apply pw_below_drewN | apply below_drew1) | exact HB.out))); rintro e w14 ⟨rfl, hb⟩; refine ⟨_, rfl, ?_⟩; have n0_ := Aside0.mk (below_step (by repeat (first | (with_reducible first | exact HB.out | apply below_alloc | apply pw_below_drewN | apply below_drew1) | exact HB.out)) hb); clear HB; have HB := n0_; clear n0_; (try clear hb); (try clear hb2); (try clear hk); (try clear hi)))
              all_goals
                go_meet
                case rel => exact ⟨_, (true), (by first | rfl | (simp; done) | (simp [*]; done) | (simp [bneNil_, beqNil_]; done) | (simp [bneNil_, beqNil_, *]; done) | (simp_all; done)), H', ⟨by have := HJ4.out; first | omega | exact Nat.le_refl _⟩, ⟨by repeat (first | (with_reducible first | exact HB.out | apply below_alloc | apply pw_below_drewN | apply below_drew1) | exact HB.out)⟩⟩
            · rw [if_neg c13] at H
              have c13b0 : ((t106 == 0) != t107) = false := by simpa using c13
              (try (have c13b1 : decide ((t106 == 0) = t107) = true := by simpa using c13))
              (try (have c13b2 : ((t106 == 0) == t107) = true := by simpa using c13))
              clear c13
              (first | rw [c13b0] | (simp only [i64_w, i32_w]; rw [c13b0]) | skip)
              by_cases c15 : t106 = 0
              · rw [if_pos c15] at H
                have c15b0 : (t106 == 0) = true := beq_iff_eq.mpr c15
                have c15b1 : (t106 != 0) = false := bne_eq_false_iff_eq.mpr c15
                clear c15
                have H' := Aside0.mk H
                clear H
                go_wp2_with (first | ((with_reducible refine gate_callee (f := 11) rfl ?_); refine goesL_ (some 37) rfl rfl Tryd.func11 (by kernel_rfl) rfl #[.string a0] rfl (by (try simp only [List.map_toArray, List.map_cons, List.map_nil]); first | done | rfl | (simp only [List.length_drop, List.length_take]; rfl)) ?_; (with_reducible refine (scan_Valid.calls a0 t107 _ ?side1 A12.out).mono ?_); (case side1 => exact TabU.at HTTabU_.out (by repeat (first | (with_reducible first | exact HB.out | apply below_alloc | apply pw_below_drewN | apply below_drew1) | exact HB.out))); rintro e w16 ⟨rfl, hb⟩; refine ⟨_, rfl, ?_⟩; have n0_ := Aside0.mk (below_step (by repeat (first | (with_reducible first | exact HB.out | apply below_alloc | apply pw_below_drewN | apply below_drew1) | exact HB.out)) hb); clear HB; have HB := n0_; clear n0_; (try clear hb); (try clear hb2); (try clear hk); (try clear hi)))
                all_goals
                  go_meet
                  case rel => exact ⟨_, (false), (by first | rfl | (simp; done) | (simp [*]; done) | (simp [bneNil_, beqNil_]; done) | (simp [bneNil_, beqNil_, *]; done) | (simp_all; done)), H', ⟨by have := HJ4.out; first | omega | exact Nat.le_refl _⟩, ⟨by repeat (first | (with_reducible first | exact HB.out | apply below_alloc | apply pw_below_drewN | apply below_drew1) | exact HB.out)⟩⟩
              · rw [if_neg c15] at H
                have c15b0 : (t106 == 0) = false := beq_eq_false_iff_ne.mpr c15
                have c15b1 : (t106 != 0) = true := bne_iff_ne.mpr c15
                have H' := Aside0.mk H
                clear H
                go_wp2_with (first | ((with_reducible refine gate_callee (f := 11) rfl ?_); refine goesL_ (some 37) rfl rfl Tryd.func11 (by kernel_rfl) rfl #[.string a0] rfl (by (try simp only [List.map_toArray, List.map_cons, List.map_nil]); first | done | rfl | (simp only [List.length_drop, List.length_take]; rfl)) ?_; (with_reducible refine (scan_Valid.calls a0 t107 _ ?side1 A12.out).mono ?_); (case side1 => exact TabU.at HTTabU_.out (by repeat (first | (with_reducible first | exact HB.out | apply below_alloc | apply pw_below_drewN | apply below_drew1) | exact HB.out))); rintro e w17 ⟨rfl, hb⟩; refine ⟨_, rfl, ?_⟩; have n0_ := Aside0.mk (below_step (by repeat (first | (with_reducible first | exact HB.out | apply below_alloc | apply pw_below_drewN | apply below_drew1) | exact HB.out)) hb); clear HB; have HB := n0_; clear n0_; (try clear hb); (try clear hb2); (try clear hk); (try clear hi)))
                all_goals
                  go_meet
                  case rel => exact ⟨_, ((t105.toList != ([] : List UInt8))), (by first | rfl | (simp; done) | (simp [*]; done) | (simp [bneNil_, beqNil_]; done) | (simp [bneNil_, beqNil_, *]; done) | (simp_all; done)), H', ⟨by have := HJ4.out; first | omega | exact Nat.le_refl _⟩, ⟨by repeat (first | (with_reducible first | exact HB.out | apply below_alloc | apply pw_below_drewN | apply below_drew1) | exact HB.out)⟩⟩
          case rest =>
            clear HC10
            try clear c1
            try clear p2
            try clear c3
            try clear c4
            try clear c7
            try clear c7b0
            try clear c7b1
            try clear c8
            try clear c9
            try clear c10
            try clear c11
            try clear c13
            try clear c13b0
            try clear c13b1
            try clear c13b2
            try clear c15
            try clear c15b0
            try clear c15b1
            try clear p2
            obtain ⟨kq, x46_9, rfl, HA, HJ9, HB⟩ := hcut
            cases kq with
            | zero => exact absurd HA.out (by simp [outlawlaw01_ScanBack.j1])
            | succ kj9 =>
              have H := HA.out
              clear HA
              simp only [outlawlaw01_ScanBack.j1] at H
              by_cases c18 : x46_9 = true
              · subst c18
                have H1 : (some false) = some r := by rw [if_pos rfl] at H; exact H
                clear H
                have H := H1
                clear H1
                exact absurd ((Option.some.inj H).trans hr_.out) (by decide)
              · replace c18 := Bool.eq_false_iff.mpr c18
                subst c18
                have H1 : (if t105.size + a1.size ≤ 9223372036854775807 then ((scan_Unquote.f kj9 (t105 ++ a1)).bind fun bt108 => (if t106 = 0 then (if bt108.2.2 = 0 then (if bt108.1.toList = a0.toList then (outlawlaw01_ScanBack.j2 kj9 a0 t105 (bt108.2.1 != (t105.size : Int))) else (outlawlaw01_ScanBack.j2 kj9 a0 t105 true)) else (outlawlaw01_ScanBack.j2 kj9 a0 t105 true)) else (outlawlaw01_ScanBack.j2 kj9 a0 t105 false))) else (none)) = some r := by rw [if_neg (show ¬ (false = true) by decide)] at H; exact H
                clear H
                have H := H1
                clear H1
                by_cases c19 : t105.size + a1.size ≤ 9223372036854775807
                · rw [if_pos c19] at H
                  have c19b0 := eq_true c19
                  have c19b1 : decide (t105.size + a1.size ≤ 9223372036854775807) = true := decide_eq_true c19
                  try have c19b2 : (9223372036854775807 < t105.size + a1.size) = False := eq_false (Nat.not_lt.2 c19)
                  replace H := Option.bind_eq_some_iff.mp H
                  obtain ⟨⟨t108, t109, t110⟩, A200, H⟩ := H
                  replace H : (if t106 = 0 then (if t110 = 0 then (if t108.toList = a0.toList then (outlawlaw01_ScanBack.j2 kj9 a0 t105 (t109 != (t105.size : Int))) else (outlawlaw01_ScanBack.j2 kj9 a0 t105 true)) else (outlawlaw01_ScanBack.j2 kj9 a0 t105 true)) else (outlawlaw01_ScanBack.j2 kj9 a0 t105 false)) = some r := H
                  have A20 := Aside0.mk A200
                  clear A200
                  have HC21 := Aside0.mk H
                  clear H
                  go_upto_region 9 with (first | ((with_reducible refine gate_callee (f := 12) rfl ?_); refine goesL_ (some 51) rfl rfl Tryd.func12 (by kernel_rfl) rfl #[.string (t105 ++ a1)] rfl (by (try simp only [List.map_toArray, List.map_cons, List.map_nil]); first | done | rfl | (simp only [List.length_drop, List.length_take]; rfl)) ?_; (with_reducible refine (scan_Unquote.calls kj9 (t105 ++ a1) t108 t109 t110 _ ?side1 A20.out).mono ?_); (case side1 => exact TabU.at HTTabU_.out (by repeat (first | (with_reducible first | exact HB.out | apply below_alloc | apply pw_below_drewN | apply below_drew1) | exact HB.out))); rintro e w22 ⟨rfl, hb⟩; refine ⟨_, rfl, ?_⟩; have n0_ := Aside0.mk (below_step (by repeat (first | (with_reducible first | exact HB.out | apply below_alloc | apply pw_below_drewN | apply below_drew1) | exact HB.out)) hb); clear HB; have HB := n0_; clear n0_; (try clear hb); (try clear hb2); (try clear hk); (try clear hi)))
                  (try simp only [Act.put, List.setIfInBounds_toArray, List.set_cons_zero, List.set_cons_succ])
                  go_cut [71] (fun v71 wc => ∃ (kq : Nat) (x71_20 : Bool), v71 = .bool x71_20 ∧ Aside0 (outlawlaw01_ScanBack.j2 kq a0 t105 x71_20 = some r) ∧ Aside0 (kq ≤ kj9) ∧ Aside0 (Below w.heap.size w wc))
                  case first =>
                    have H := HC21.out
                    clear HC21
                    by_cases c23 : t106 = 0
                    · rw [if_pos c23] at H
                      have c23b0 : (t106 == 0) = true := beq_iff_eq.mpr c23
                      have c23b1 : (t106 != 0) = false := bne_eq_false_iff_eq.mpr c23
                      clear c23
                      (first | rw [c23b0] | (simp only [i64_w, i32_w]; rw [c23b0]) | skip)
                      by_cases c24 : t110 = 0
                      · rw [if_pos c24] at H
                        have c24b0 : (t110 == 0) = true := beq_iff_eq.mpr c24
                        have c24b1 : (t110 != 0) = false := bne_eq_false_iff_eq.mpr c24
                        clear c24
                        by_cases c25 : t108.toList = a0.toList
                        · rw [if_pos c25] at H
                          have c25b0 : (t108.toList == a0.toList) = true := beq_iff_eq.mpr c25
                          have c25b1 : (t108.toList != a0.toList) = false := bne_eq_false_iff_eq.mpr c25
                          clear c25
                          have H' := Aside0.mk H
                          clear H
                          go_wp2
                          all_goals
                            go_meet
                            case rel => exact ⟨_, ((t109 != (t105.size : Int))), (by first | rfl | (simp; done) | (simp [*]; done) | (simp [bneNil_, beqNil_]; done) | (simp [bneNil_, beqNil_, *]; done) | (simp_all; done)), H', ⟨by have := HJ4.out; have := HJ9.out; first | omega | exact Nat.le_refl _⟩, ⟨by repeat (first | (with_reducible first | exact HB.out | apply below_alloc | apply pw_below_drewN | apply below_drew1) | exact HB.out)⟩⟩
                        · rw [if_neg c25] at H
                          have c25b0 : (t108.toList == a0.toList) = false := beq_eq_false_iff_ne.mpr c25
                          have c25b1 : (t108.toList != a0.toList) = true := bne_iff_ne.mpr c25
                          have H' := Aside0.mk H
                          clear H
                          go_wp2
                          all_goals
                            go_meet
                            case rel => exact ⟨_, (true), (by first | rfl | (simp; done) | (simp [*]; done) | (simp [bneNil_, beqNil_]; done) | (simp [bneNil_, beqNil_, *]; done) | (simp_all; done)), H', ⟨by have := HJ4.out; have := HJ9.out; first | omega | exact Nat.le_refl _⟩, ⟨by repeat (first | (with_reducible first | exact HB.out | apply below_alloc | apply pw_below_drewN | apply below_drew1) | exact HB.out)⟩⟩
                      · rw [if_neg c24] at H
                        have c24b0 : (t110 == 0) = false := beq_eq_false_iff_ne.mpr c24
                        have c24b1 : (t110 != 0) = true := bne_iff_ne.mpr c24
                        have H' := Aside0.mk H
                        clear H
                        go_wp2
                        all_goals
                          go_meet
                          case rel => exact ⟨_, (true), (by first | rfl | (simp; done) | (simp [*]; done) | (simp [bneNil_, beqNil_]; done) | (simp [bneNil_, beqNil_, *]; done) | (simp_all; done)), H', ⟨by have := HJ4.out; have := HJ9.out; first | omega | exact Nat.le_refl _⟩, ⟨by repeat (first | (with_reducible first | exact HB.out | apply below_alloc | apply pw_below_drewN | apply below_drew1) | exact HB.out)⟩⟩
                    · rw [if_neg c23] at H
                      have c23b0 : (t106 == 0) = false := beq_eq_false_iff_ne.mpr c23
                      have c23b1 : (t106 != 0) = true := bne_iff_ne.mpr c23
                      (first | rw [c23b0] | (simp only [i64_w, i32_w]; rw [c23b0]) | skip)
                      have H' := Aside0.mk H
                      clear H
                      go_wp2
                      all_goals
                        go_meet
                        case rel => exact ⟨_, (false), (by first | rfl | (simp; done) | (simp [*]; done) | (simp [bneNil_, beqNil_]; done) | (simp [bneNil_, beqNil_, *]; done) | (simp_all; done)), H', ⟨by have := HJ4.out; have := HJ9.out; first | omega | exact Nat.le_refl _⟩, ⟨by repeat (first | (with_reducible first | exact HB.out | apply below_alloc | apply pw_below_drewN | apply below_drew1) | exact HB.out)⟩⟩
                  case rest =>
                    clear HC21
                    try clear c1
                    try clear c2
                    try clear p2
                    try clear c3
                    try clear c4
                    try clear c7
                    try clear c7b0
                    try clear c7b1
                    try clear c8
                    try clear c9
                    try clear c10
                    try clear c11
                    try clear c12
                    try clear c13
                    try clear c13b0
                    try clear c13b1
                    try clear c13b2
                    try clear c15
                    try clear c15b0
                    try clear c15b1
                    try clear c18
                    try clear c19
                    try clear c19b0
                    try clear c19b1
                    try clear c19b2
                    try clear c23
                    try clear c23b0
                    try clear c23b1
                    try clear c24
                    try clear c24b0
                    try clear c24b1
                    try clear c25
                    try clear c25b0
                    try clear c25b1
                    try clear p2
                    obtain ⟨kq, x71_20, rfl, HA, HJ20, HB⟩ := hcut
                    cases kq with
                    | zero => exact absurd HA.out (by simp [outlawlaw01_ScanBack.j2])
                    | succ kj20 =>
                      have H := HA.out
                      clear HA
                      simp only [outlawlaw01_ScanBack.j2] at H
                      by_cases c26 : x71_20 = true
                      · subst c26
                        have H1 : (some false) = some r := by rw [if_pos rfl] at H; exact H
                        clear H
                        have H := H1
                        clear H1
                        exact absurd ((Option.some.inj H).trans hr_.out) (by decide)
                      · replace c26 := Bool.eq_false_iff.mpr c26
                        subst c26
                        have H1 : (outlawlaw01_ScanBack.l0 kj20 a0 t105 0) = some r := by rw [if_neg (show ¬ (false = true) by decide)] at H; exact H
                        clear H
                        have H := H1
                        clear H1
                        have H' := Aside0.mk H
                        clear H
                        go_wp2
                        go_loopg [10] kj20 (fun kq v10 w' => ∃ (x10_4 : Int), v10 = .int .i64 x10_4 ∧ Aside0 (outlawlaw01_ScanBack.l0 kq a0 t105 x10_4 = some r) ∧ Aside0 (kq ≤ kj20) ∧ Aside0 (Below w.heap.size w w'))
                        case atStart => exact ⟨(0), (by first | rfl | (simp; done) | (simp [*]; done) | (simp [bneNil_, beqNil_]; done) | (simp [bneNil_, beqNil_, *]; done) | (simp_all; done)), H', ⟨Nat.le_refl _⟩, ⟨by repeat (first | (with_reducible first | exact HB.out | apply below_alloc | apply pw_below_drewN | apply below_drew1) | exact HB.out)⟩⟩
                        case round =>
                          clear H'
                          try clear c1
                          try clear c2
                          try clear p2
                          try clear c3
                          try clear c4
                          try clear c7
                          try clear c7b0
                          try clear c7b1
                          try clear c8
                          try clear c9
                          try clear c10
                          try clear c11
                          try clear c12
                          try clear c13
                          try clear c13b0
                          try clear c13b1
                          try clear c13b2
                          try clear c15
                          try clear c15b0
                          try clear c15b1
                          try clear c18
                          try clear c19
                          try clear c19b0
                          try clear c19b1
                          try clear c19b2
                          try clear c23
                          try clear c23b0
                          try clear c23b1
                          try clear c24
                          try clear c24b0
                          try clear c24b1
                          try clear c25
                          try clear c25b0
                          try clear c25b1
                          try clear c26
                          try clear p2
                          obtain ⟨x10_4, rfl, HA, HK4, HB⟩ := hrel
                          cases gk with
                          | zero => exact absurd HA.out (by simp [outlawlaw01_ScanBack.l0])
                          | succ k4 =>
                            have H := HA.out
                            clear HA
                            simp only [outlawlaw01_ScanBack.l0] at H
                            by_cases c27 : x10_4 < (t105.size : Int)
                            · rw [if_pos c27] at H
                              have c27b0 : decide (x10_4 < (t105.size : Int)) = true := decide_eq_true c27
                              clear c27
                              by_cases c28 : 0 ≤ x10_4
                              · rw [if_pos c28] at H
                                have c28b0 : decide (0 ≤ x10_4) = true := decide_eq_true c28
                                clear c28
                                by_cases c30 : (bt t105 x10_4) < 32
                                · rw [if_pos c30] at H
                                  have c30b0 : decide ((bt t105 x10_4) < 32) = true := decide_eq_true c30
                                  clear c30
                                  exact absurd ((Option.some.inj H).trans hr_.out) (by decide)
                                · rw [if_neg c30] at H
                                  have c30b0 : decide ((bt t105 x10_4) < 32) = false := decide_eq_false c30
                                  clear c30
                                  have H' := Aside0.mk H
                                  clear H
                                  have p29 : 0 ≤ (x10_4 : Int) := of_decide_eq_true (by first | (with_reducible assumption) | assumption)
                                  have q29 : x10_4 < (t105.size : Int) := of_decide_eq_true (by first | (with_reducible assumption) | assumption)
                                  have hx29 := bt_at t105 x10_4
                                  replace p29 := eq_true p29
                                  replace q29 := eq_true q29
                                  go_wp2
                                  go_roundg k4
                                  case measure => have := HJ4.out; have := HJ9.out; have := HJ20.out; have := HK4.out; omega
                                  case rel => exact ⟨(wrap64 (x10_4 + 1)), (by first | rfl | (simp; done) | (simp [*]; done) | (simp [bneNil_, beqNil_]; done) | (simp [bneNil_, beqNil_, *]; done) | (simp_all; done)), H', ⟨by have := HJ4.out; have := HJ9.out; have := HJ20.out; have := HK4.out; omega⟩, ⟨by repeat (first | (with_reducible first | exact HB.out | apply below_alloc | apply pw_below_drewN | apply below_drew1) | exact HB.out)⟩⟩
                              · rw [if_neg c28] at H
                                exact absurd H (by simp)
                            · rw [if_neg c27] at H
                              have c27b0 : decide (x10_4 < (t105.size : Int)) = false := decide_eq_false c27
                              clear c27
                              replace H := Option.bind_eq_some_iff.mp H
                              obtain ⟨⟨t111, t112, t113⟩, A310, H⟩ := H
                              replace H : (if t113 = 0 then ((scan_Quote.f t111).bind fun bt114 => ((scan_Unquote.f k4 bt114.1).bind fun bt116 => (if bt114.2 = 0 then (if bt116.2.2 = 0 then (if bt116.1.toList = t111.toList then (some (decide (t112 ≤ (a0.size : Int)))) else (some false)) else (some false)) else (some false)))) else (if t111.toList = ([] : List UInt8) then (some (t112 == 0)) else (some false))) = some r := H
                              have A31 := Aside0.mk A310
                              clear A310
                              by_cases c32 : t113 = 0
                              · rw [if_pos c32] at H
                                have c32b0 : (t113 == 0) = true := beq_iff_eq.mpr c32
                                have c32b1 : (t113 != 0) = false := bne_eq_false_iff_eq.mpr c32
                                clear c32
                                replace H := Option.bind_eq_some_iff.mp H
                                obtain ⟨⟨t114, t115⟩, A330, H⟩ := H
                                replace H : ((scan_Unquote.f k4 t114).bind fun bt116 => (if t115 = 0 then (if bt116.2.2 = 0 then (if bt116.1.toList = t111.toList then (some (decide (t112 ≤ (a0.size : Int)))) else (some false)) else (some false)) else (some false))) = some r := H
                                have A33 := Aside0.mk A330
                                clear A330
                                replace H := Option.bind_eq_some_iff.mp H
                                obtain ⟨⟨t116, t117, t118⟩, A340, H⟩ := H
                                replace H : (if t115 = 0 then (if t118 = 0 then (if t116.toList = t111.toList then (some (decide (t112 ≤ (a0.size : Int)))) else (some false)) else (some false)) else (some false)) = some r := H
                                have A34 := Aside0.mk A340
                                clear A340
                                by_cases c35 : t115 = 0
                                · rw [if_pos c35] at H
                                  have c35b0 : (t115 == 0) = true := beq_iff_eq.mpr c35
                                  have c35b1 : (t115 != 0) = false := bne_eq_false_iff_eq.mpr c35
                                  clear c35
                                  by_cases c36 : t118 = 0
                                  · rw [if_pos c36] at H
                                    have c36b0 : (t118 == 0) = true := beq_iff_eq.mpr c36
                                    have c36b1 : (t118 != 0) = false := bne_eq_false_iff_eq.mpr c36
                                    clear c36
                                    by_cases c37 : t116.toList = t111.toList
                                    · rw [if_pos c37] at H
                                      have c37b0 : (t116.toList == t111.toList) = true := beq_iff_eq.mpr c37
                                      have c37b1 : (t116.toList != t111.toList) = false := bne_eq_false_iff_eq.mpr c37
                                      clear c37
                                      obtain rfl := Option.some.inj H
                                      go_wp2_with (first | ((with_reducible refine gate_callee (f := 12) rfl ?_); refine goesL_ (some 84) rfl rfl Tryd.func12 (by kernel_rfl) rfl #[.string a0] rfl (by (try simp only [List.map_toArray, List.map_cons, List.map_nil]); first | done | rfl | (simp only [List.length_drop, List.length_take]; rfl)) ?_; (with_reducible refine (scan_Unquote.calls k4 a0 t111 t112 t113 _ ?side1 A31.out).mono ?_); (case side1 => exact TabU.at HTTabU_.out (by repeat (first | (with_reducible first | exact HB.out | apply below_alloc | apply pw_below_drewN | apply below_drew1) | exact HB.out))); rintro e w38 ⟨rfl, hb⟩; refine ⟨_, rfl, ?_⟩; have n0_ := Aside0.mk (below_step (by repeat (first | (with_reducible first | exact HB.out | apply below_alloc | apply pw_below_drewN | apply below_drew1) | exact HB.out)) hb); clear HB; have HB := n0_; clear n0_; (try clear hb); (try clear hb2); (try clear hk); (try clear hi)) | ((with_reducible refine gate_callee (f := 10) rfl ?_); refine goesL_ (some 98) rfl rfl Tryd.func10 (by kernel_rfl) rfl #[.string t111] rfl (by (try simp only [List.map_toArray, List.map_cons, List.map_nil]); first | done | rfl | (simp only [List.length_drop, List.length_take]; rfl)) ?_; (with_reducible refine (scan_Quote.calls t111 t114 t115 _ ?side1 A33.out).mono ?_); (case side1 => exact TabU.at HTTabU_.out (by repeat (first | (with_reducible first | exact HB.out | apply below_alloc | apply pw_below_drewN | apply below_drew1) | exact HB.out))); rintro e w39 ⟨rfl, hb⟩; refine ⟨_, rfl, ?_⟩; have n0_ := Aside0.mk (below_step (by repeat (first | (with_reducible first | exact HB.out | apply below_alloc | apply pw_below_drewN | apply below_drew1) | exact HB.out)) hb); clear HB; have HB := n0_; clear n0_; (try clear hb); (try clear hb2); (try clear hk); (try clear hi)) | ((with_reducible refine gate_callee (f := 12) rfl ?_); refine goesL_ (some 103) rfl rfl Tryd.func12 (by kernel_rfl) rfl #[.string t114] rfl (by (try simp only [List.map_toArray, List.map_cons, List.map_nil]); first | done | rfl | (simp only [List.length_drop, List.length_take]; rfl)) ?_; (with_reducible refine (scan_Unquote.calls k4 t114 t116 t117 t118 _ ?side1 A34.out).mono ?_); (case side1 => exact TabU.at HTTabU_.out (by repeat (first | (with_reducible first | exact HB.out | apply below_alloc | apply pw_below_drewN | apply below_drew1) | exact HB.out))); rintro e w40 ⟨rfl, hb⟩; refine ⟨_, rfl, ?_⟩; have n0_ := Aside0.mk (below_step (by repeat (first | (with_reducible first | exact HB.out | apply below_alloc | apply pw_below_drewN | apply below_drew1) | exact HB.out)) hb); clear HB; have HB := n0_; clear n0_; (try clear hb); (try clear hb2); (try clear hk); (try clear hi)))
                                      go_ret
                                      exact ⟨by first | rfl | (simp [errW_none, errW_some] <;> rfl) | (simp [*, errW_none, errW_some] <;> rfl), by repeat (first | (with_reducible first | exact HB.out | apply below_alloc | apply pw_below_drewN | apply below_drew1) | exact HB.out)⟩
                                    · rw [if_neg c37] at H
                                      have c37b0 : (t116.toList == t111.toList) = false := beq_eq_false_iff_ne.mpr c37
                                      have c37b1 : (t116.toList != t111.toList) = true := bne_iff_ne.mpr c37
                                      exact absurd ((Option.some.inj H).trans hr_.out) (by decide)
                                  · rw [if_neg c36] at H
                                    have c36b0 : (t118 == 0) = false := beq_eq_false_iff_ne.mpr c36
                                    have c36b1 : (t118 != 0) = true := bne_iff_ne.mpr c36
                                    exact absurd ((Option.some.inj H).trans hr_.out) (by decide)
                                · rw [if_neg c35] at H
                                  have c35b0 : (t115 == 0) = false := beq_eq_false_iff_ne.mpr c35
                                  have c35b1 : (t115 != 0) = true := bne_iff_ne.mpr c35
                                  exact absurd ((Option.some.inj H).trans hr_.out) (by decide)
                              · rw [if_neg c32] at H
                                have c32b0 : (t113 == 0) = false := beq_eq_false_iff_ne.mpr c32
                                have c32b1 : (t113 != 0) = true := bne_iff_ne.mpr c32
                                by_cases c41 : t111.toList = ([] : List UInt8)
                                · rw [if_pos c41] at H
                                  have c41b0 : (t111.toList == ([] : List UInt8)) = true := beq_iff_eq.mpr c41
                                  have c41b1 : (t111.toList != ([] : List UInt8)) = false := bne_eq_false_iff_eq.mpr c41
                                  clear c41
                                  obtain rfl := Option.some.inj H
                                  go_wp2_with (first | ((with_reducible refine gate_callee (f := 12) rfl ?_); refine goesL_ (some 84) rfl rfl Tryd.func12 (by kernel_rfl) rfl #[.string a0] rfl (by (try simp only [List.map_toArray, List.map_cons, List.map_nil]); first | done | rfl | (simp only [List.length_drop, List.length_take]; rfl)) ?_; (with_reducible refine (scan_Unquote.calls k4 a0 t111 t112 t113 _ ?side1 A31.out).mono ?_); (case side1 => exact TabU.at HTTabU_.out (by repeat (first | (with_reducible first | exact HB.out | apply below_alloc | apply pw_below_drewN | apply below_drew1) | exact HB.out))); rintro e w42 ⟨rfl, hb⟩; refine ⟨_, rfl, ?_⟩; have n0_ := Aside0.mk (below_step (by repeat (first | (with_reducible first | exact HB.out | apply below_alloc | apply pw_below_drewN | apply below_drew1) | exact HB.out)) hb); clear HB; have HB := n0_; clear n0_; (try clear hb); (try clear hb2); (try clear hk); (try clear hi)))
                                  go_ret
                                  exact ⟨by first | rfl | (simp [errW_none, errW_some] <;> rfl) | (simp [*, errW_none, errW_some] <;> rfl), by repeat (first | (with_reducible first | exact HB.out | apply below_alloc | apply pw_below_drewN | apply below_drew1) | exact HB.out)⟩
                                · rw [if_neg c41] at H
                                  have c41b0 : (t111.toList == ([] : List UInt8)) = false := beq_eq_false_iff_ne.mpr c41
                                  have c41b1 : (t111.toList != ([] : List UInt8)) = true := bne_iff_ne.mpr c41
                                  exact absurd ((Option.some.inj H).trans hr_.out) (by decide)
                · rw [if_neg c19] at H
                  exact absurd H (by simp)
  · replace c4 := Bool.eq_false_iff.mpr c4
    subst c4
    have H1 : (some false) = some r := by rw [if_neg (show ¬ (false = true) by decide)] at H; exact H
    clear H
    have H := H1
    clear H1
    exact absurd ((Option.some.inj H).trans hr_.out) (by decide)

/-- THE ONE PURE STATEMENT of outlawlaw01_ScanBack: yours. -/
def outlawlaw01_ScanBack.Pure : Prop := ∀ (a0 : ByteArray) (a1 : ByteArray), a0.size ≤ 140737488351232 → a1.size ≤ 140737488351232 → ∃ k, outlawlaw01_ScanBack.f k a0 a1 = some true
theorem outlawlaw01_ScanBack.walk (P : outlawlaw01_ScanBack.Pure) (a0 : ByteArray) (a1 : ByteArray) (w : World) (htTabU_ : TabU w) (w0 : a0.size ≤ 140737488351232) (w1 : a1.size ≤ 140737488351232) :
    Calls Tryd.prog 3 #[.string a0, .string a1] w fun e w' => e = .returned (.bool true) ∧ Below w.heap.size w w' := by
  obtain ⟨k, h⟩ := P a0 a1 w0 w1
  refine (outlawlaw01_ScanBack.calls k a0 a1 true w ⟨rfl⟩ htTabU_ h).mono ?_
  rintro e w' ⟨rfl, hd⟩
  exact ⟨rfl, hd⟩

end Go.Proofs.YtfmenojhojmedaaDoor.PA
