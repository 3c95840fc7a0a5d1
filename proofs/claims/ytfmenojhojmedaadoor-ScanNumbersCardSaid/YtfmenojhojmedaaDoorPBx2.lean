-- Written by a program of this session (gprint.py, a turned print with given contracts).
import Derived.Test.YtfmenojhojmedaaDoorPBx0
import Derived.Test.YtfmenojhojmedaaDoorPBx1
namespace Go.Proofs.YtfmenojhojmedaaDoor.PB
open Go.RowKit Go.Proofs.YtfmenojhojmedaaDoorW.PrintWords Go.Proofs.YtfmenojhojmedaaDoorW.PrintLast Go.Proofs.YtfmenojhojmedaaDoorW.PrintMore Go.Proofs.YtfmenojhojmedaaDoorG Go.Proofs.YtfmenojhojmedaaDoorX
attribute [local go_sem] max2_int min2_int max_two min_two max_three min_three max_four min_four   -- for this text's walks alone
set_option linter.unusedVariables false
set_option linter.unusedSimpArgs false

/-! ### outlawlaw01_ScanNumbers: function 6 -/
mutual
def outlawlaw01_ScanNumbers.j0 : Nat → Int → Int → ByteArray → Bool → Option (Bool)
  | 0, _, _, _, _ => none
  | k + 1, x0, x1, x2, x32 => if x32 = true then (some true) else ((scan_Number.f x1).bind fun bt105 => (if x1 < (-9007199254740991) then (outlawlaw01_ScanNumbers.j1 k x0 x1 x2 bt105.1 bt105.2 true) else (outlawlaw01_ScanNumbers.j1 k x0 x1 x2 bt105.1 bt105.2 (decide (x1 > 9007199254740991)))))
def outlawlaw01_ScanNumbers.j1 : Nat → Int → Int → ByteArray → ByteArray → Int → Bool → Option (Bool)
  | 0, _, _, _, _, _, _ => none
  | k + 1, x0, x1, x2, x7, x8, x43 => if x43 = true then (if x8 = 2 then (some (x7.toList == ([] : List UInt8))) else (some false)) else ((scan_Number.f x0).bind fun bt107 => (if x7.size + x2.size ≤ 9223372036854775807 then ((scan_ReadNumber.f (x7 ++ x2)).bind fun bt109 => (if x8 = 0 then (if bt109.2.2 = 0 then (if bt109.1 = x1 then (if bt109.2.1 = (x7.size : Int) then (if bt107.2 = 0 then (some ((x7.toList == bt107.1.toList) == (x0 == x1))) else (some true)) else (some false)) else (some false)) else (some false)) else (some false))) else (none)))
end
def outlawlaw01_ScanNumbers.f (k : Nat) (a0 : Int) (a1 : Int) (a2 : ByteArray) : Option (Bool) := (outlawlaw01_lives.f).bind fun t104 => (if t104 = true then (if (a2.size : Int) > 2000 then (outlawlaw01_ScanNumbers.j0 k a0 a1 a2 true) else (if a2.toList = ([] : List UInt8) then (outlawlaw01_ScanNumbers.j0 k a0 a1 a2 false) else (if 0 < (a2.size : Int) then (if (bt a2 0) ≥ 48 then (outlawlaw01_ScanNumbers.j0 k a0 a1 a2 (decide ((bt a2 0) ≤ 57))) else (outlawlaw01_ScanNumbers.j0 k a0 a1 a2 false)) else (none)))) else (some false))
theorem outlawlaw01_ScanNumbers.mono_l : ∀ k, (∀ y0 y1 y2 y3, LeO (outlawlaw01_ScanNumbers.j0 k y0 y1 y2 y3) (outlawlaw01_ScanNumbers.j0 (k + 1) y0 y1 y2 y3)) ∧ (∀ y0 y1 y2 y3 y4 y5, LeO (outlawlaw01_ScanNumbers.j1 k y0 y1 y2 y3 y4 y5) (outlawlaw01_ScanNumbers.j1 (k + 1) y0 y1 y2 y3 y4 y5))
  | 0 => ⟨fun _ _ _ _ r h => by simp [outlawlaw01_ScanNumbers.j0] at h, fun _ _ _ _ _ _ r h => by simp [outlawlaw01_ScanNumbers.j1] at h⟩
  | k + 1 => by
    obtain ⟨ih0, ih1⟩ := outlawlaw01_ScanNumbers.mono_l k
    refine ⟨?_, ?_⟩
    · intro y0 y1 y2 y3
      unfold outlawlaw01_ScanNumbers.j0
      repeat' first
      | (with_reducible exact ih0 _ _ _ _)
      | (with_reducible exact ih1 _ _ _ _ _ _)
      | (with_reducible exact LeO.refl _)
      | (with_reducible exact LeO.none _)
      | (with_reducible refine LeO.ite ?_ ?_)
      | (with_reducible refine LeO.bind ?_ (fun _ => ?_))
      | exact ih0 _ _ _ _
      | exact ih1 _ _ _ _ _ _
      | exact LeO.none _
      | refine LeO.ite ?_ ?_
      | refine LeO.bind ?_ (fun _ => ?_)
    · intro y0 y1 y2 y3 y4 y5
      unfold outlawlaw01_ScanNumbers.j1
      repeat' first
      | (with_reducible exact ih0 _ _ _ _)
      | (with_reducible exact ih1 _ _ _ _ _ _)
      | (with_reducible exact LeO.refl _)
      | (with_reducible exact LeO.none _)
      | (with_reducible refine LeO.ite ?_ ?_)
      | (with_reducible refine LeO.bind ?_ (fun _ => ?_))
      | exact ih0 _ _ _ _
      | exact ih1 _ _ _ _ _ _
      | exact LeO.none _
      | refine LeO.ite ?_ ?_
      | refine LeO.bind ?_ (fun _ => ?_)
theorem outlawlaw01_ScanNumbers.mono : ∀ a0 a1 a2 k, LeO (outlawlaw01_ScanNumbers.f k a0 a1 a2) (outlawlaw01_ScanNumbers.f (k + 1) a0 a1 a2) := by
  intro a0 a1 a2 k
  obtain ⟨ih0, ih1⟩ := outlawlaw01_ScanNumbers.mono_l k
  unfold outlawlaw01_ScanNumbers.f
  repeat' first
      | (with_reducible exact ih0 _ _ _ _)
      | (with_reducible exact ih1 _ _ _ _ _ _)
      | (with_reducible exact LeO.refl _)
      | (with_reducible exact LeO.none _)
      | (with_reducible refine LeO.ite ?_ ?_)
      | (with_reducible refine LeO.bind ?_ (fun _ => ?_))
      | exact ih0 _ _ _ _
      | exact ih1 _ _ _ _ _ _
      | exact LeO.none _
      | refine LeO.ite ?_ ?_
      | refine LeO.bind ?_ (fun _ => ?_)
set_option maxHeartbeats 8000000 in
set_option maxRecDepth 100000 in
theorem outlawlaw01_ScanNumbers.calls (k : Nat) (a0 : Int) (a1 : Int) (a2 : ByteArray) (r : Bool) (w : World) (hr_ : Aside0 (r = true)) (htTabN_ : TabN w) (htTabU_ : TabU w) (h : outlawlaw01_ScanNumbers.f k a0 a1 a2 = some r) :
    Calls Tryd.prog 6 #[.int .i64 a0, .int .i64 a1, .string a2] w fun e w' => e = .returned (.bool r) ∧ Below w.heap.size w w' := by
  have HTTabN_ := Aside0.mk htTabN_
  clear htTabN_
  have HTTabU_ := Aside0.mk htTabU_
  clear htTabU_
  have HB := Aside0.mk (Below.refl w.heap.size w)
  have H : ((outlawlaw01_lives.f).bind fun t104 => (if t104 = true then (if (a2.size : Int) > 2000 then (outlawlaw01_ScanNumbers.j0 k a0 a1 a2 true) else (if a2.toList = ([] : List UInt8) then (outlawlaw01_ScanNumbers.j0 k a0 a1 a2 false) else (if 0 < (a2.size : Int) then (if (bt a2 0) ≥ 48 then (outlawlaw01_ScanNumbers.j0 k a0 a1 a2 (decide ((bt a2 0) ≤ 57))) else (outlawlaw01_ScanNumbers.j0 k a0 a1 a2 false)) else (none)))) else (some false))) = some r := h
  clear h
  replace H := Option.bind_eq_some_iff.mp H
  obtain ⟨t104, A40, H⟩ := H
  replace H : (if t104 = true then (if (a2.size : Int) > 2000 then (outlawlaw01_ScanNumbers.j0 k a0 a1 a2 true) else (if a2.toList = ([] : List UInt8) then (outlawlaw01_ScanNumbers.j0 k a0 a1 a2 false) else (if 0 < (a2.size : Int) then (if (bt a2 0) ≥ 48 then (outlawlaw01_ScanNumbers.j0 k a0 a1 a2 (decide ((bt a2 0) ≤ 57))) else (outlawlaw01_ScanNumbers.j0 k a0 a1 a2 false)) else (none)))) else (some false)) = some r := H
  have A4 := Aside0.mk A40
  clear A40
  by_cases c5 : t104 = true
  · subst c5
    have H1 : (if (a2.size : Int) > 2000 then (outlawlaw01_ScanNumbers.j0 k a0 a1 a2 true) else (if a2.toList = ([] : List UInt8) then (outlawlaw01_ScanNumbers.j0 k a0 a1 a2 false) else (if 0 < (a2.size : Int) then (if (bt a2 0) ≥ 48 then (outlawlaw01_ScanNumbers.j0 k a0 a1 a2 (decide ((bt a2 0) ≤ 57))) else (outlawlaw01_ScanNumbers.j0 k a0 a1 a2 false)) else (none)))) = some r := by rw [if_pos rfl] at H; exact H
    clear H
    have H := H1
    clear H1
    have HC6 := Aside0.mk H
    clear H
    go_enter Tryd.func6, Tryd.ntmps6
    go_upto_region 3 with (first | ((with_reducible refine gate_callee (f := 9) rfl ?_); refine goesL_ (some 14) rfl rfl Tryd.func9 (by kernel_rfl) rfl #[] rfl (by (try simp only [List.map_toArray, List.map_cons, List.map_nil]); first | done | rfl | (simp only [List.length_drop, List.length_take]; rfl)) ?_; (with_reducible refine (outlawlaw01_lives.calls  true _ ?side1 A4.out).mono ?_); (case side1 => exact TabU.at HTTabU_.out (by repeat (first | (with_reducible first | exact HB.out | apply below_alloc | apply pw_below_drewN | apply below_drew1) | exact HB.out))); rintro e w7 ⟨rfl, hb⟩; refine ⟨_, rfl, ?_⟩; have n0_ := Aside0.mk (below_step (by repeat (first | (with_reducible first | exact HB.out | apply below_alloc | apply pw_below_drewN | apply below_drew1) | exact HB.out)) hb); clear HB; have HB := n0_; clear n0_; (try clear hb); (try clear hb2); (try clear hk); (try clear hi)))
    (try simp only [Act.put, List.setIfInBounds_toArray, List.set_cons_zero, List.set_cons_succ])
    go_cut [32] (fun v32 wc => ∃ (kq : Nat) (x32_5 : Bool), v32 = .bool x32_5 ∧ Aside0 (outlawlaw01_ScanNumbers.j0 kq a0 a1 a2 x32_5 = some r) ∧ Aside0 (kq ≤ k) ∧ Aside0 (Below w.heap.size w wc))
    case first =>
      have H := HC6.out
      clear HC6
      by_cases c8 : (a2.size : Int) > 2000
      · rw [if_pos c8] at H
        have c8b0 : decide (2000 < (a2.size : Int)) = true := decide_eq_true c8
        have c8b1 : decide (2000 < a2.size) = true := decide_eq_true (by omega)
        clear c8
        (first | rw [c8b0] | (simp only [i64_w, i32_w]; rw [c8b0]) | skip)
        have H' := Aside0.mk H
        clear H
        go_wp2
        all_goals
          go_meet
          case rel => exact ⟨_, (true), (by first | rfl | (simp; done) | (simp [*]; done) | (simp [bneNil_, beqNil_]; done) | (simp [bneNil_, beqNil_, *]; done) | (simp_all; done)), H', ⟨by first | omega | exact Nat.le_refl _⟩, ⟨by repeat (first | (with_reducible first | exact HB.out | apply below_alloc | apply pw_below_drewN | apply below_drew1) | exact HB.out)⟩⟩
      · rw [if_neg c8] at H
        have c8b0 : decide (2000 < (a2.size : Int)) = false := decide_eq_false c8
        have c8b1 : decide (2000 < a2.size) = false := decide_eq_false (by omega)
        clear c8
        (first | rw [c8b0] | (simp only [i64_w, i32_w]; rw [c8b0]) | skip)
        by_cases c9 : a2.toList = ([] : List UInt8)
        · rw [if_pos c9] at H
          have c9b0 : (a2.toList == ([] : List UInt8)) = true := beq_iff_eq.mpr c9
          have c9b1 : (a2.toList != ([] : List UInt8)) = false := bne_eq_false_iff_eq.mpr c9
          clear c9
          have H' := Aside0.mk H
          clear H
          go_wp2
          all_goals
            go_meet
            case rel => exact ⟨_, (false), (by first | rfl | (simp; done) | (simp [*]; done) | (simp [bneNil_, beqNil_]; done) | (simp [bneNil_, beqNil_, *]; done) | (simp_all; done)), H', ⟨by first | omega | exact Nat.le_refl _⟩, ⟨by repeat (first | (with_reducible first | exact HB.out | apply below_alloc | apply pw_below_drewN | apply below_drew1) | exact HB.out)⟩⟩
        · rw [if_neg c9] at H
          have c9b0 : (a2.toList == ([] : List UInt8)) = false := beq_eq_false_iff_ne.mpr c9
          have c9b1 : (a2.toList != ([] : List UInt8)) = true := bne_iff_ne.mpr c9
          by_cases c10 : 0 < (a2.size : Int)
          · rw [if_pos c10] at H
            have c10b0 : decide (0 < (a2.size : Int)) = true := decide_eq_true c10
            have c10b1 : decide (0 < a2.size) = true := decide_eq_true (by omega)
            clear c10
            by_cases c12 : (bt a2 0) ≥ 48
            · rw [if_pos c12] at H
              have c12b0 : decide (48 ≤ (bt a2 0)) = true := decide_eq_true c12
              clear c12
              have H' := Aside0.mk H
              clear H
              have p11 : 0 ≤ (0 : Int) := (by omega)
              have q11 : 0 < a2.size := (by have : (0 : Int) < (a2.size : Int) := of_decide_eq_true (by first | (with_reducible assumption) | assumption); omega)
              have hx11 : ∀ h : 0 < a2.size, ((a2[0]'h).toNat : Int) = bt a2 0 := bt_at a2 0
              clear p11
              have qi11 : (0 < (a2.size : Int)) = True := eq_true (of_decide_eq_true (by first | (with_reducible assumption) | assumption))
              replace q11 := eq_true q11
              have p13 : 0 ≤ (0 : Int) := (by omega)
              have q13 : 0 < a2.size := (by have : (0 : Int) < (a2.size : Int) := of_decide_eq_true (by first | (with_reducible assumption) | assumption); omega)
              have hx13 : ∀ h : 0 < a2.size, ((a2[0]'h).toNat : Int) = bt a2 0 := bt_at a2 0
              clear p13
              have qi13 : (0 < (a2.size : Int)) = True := eq_true (of_decide_eq_true (by first | (with_reducible assumption) | assumption))
              replace q13 := eq_true q13
              go_wp2
              all_goals
                go_meet
                case rel => exact ⟨_, (decide ((bt a2 0) ≤ 57)), (by first | rfl | (simp; done) | (simp [*]; done) | (simp [bneNil_, beqNil_]; done) | (simp [bneNil_, beqNil_, *]; done) | (simp_all; done)), H', ⟨by first | omega | exact Nat.le_refl _⟩, ⟨by repeat (first | (with_reducible first | exact HB.out | apply below_alloc | apply pw_below_drewN | apply below_drew1) | exact HB.out)⟩⟩
            · rw [if_neg c12] at H
              have c12b0 : decide (48 ≤ (bt a2 0)) = false := decide_eq_false c12
              clear c12
              have H' := Aside0.mk H
              clear H
              have p11 : 0 ≤ (0 : Int) := (by omega)
              have q11 : 0 < a2.size := (by have : (0 : Int) < (a2.size : Int) := of_decide_eq_true (by first | (with_reducible assumption) | assumption); omega)
              have hx11 : ∀ h : 0 < a2.size, ((a2[0]'h).toNat : Int) = bt a2 0 := bt_at a2 0
              clear p11
              have qi11 : (0 < (a2.size : Int)) = True := eq_true (of_decide_eq_true (by first | (with_reducible assumption) | assumption))
              replace q11 := eq_true q11
              go_wp2
              all_goals
                go_meet
                case rel => exact ⟨_, (false), (by first | rfl | (simp; done) | (simp [*]; done) | (simp [bneNil_, beqNil_]; done) | (simp [bneNil_, beqNil_, *]; done) | (simp_all; done)), H', ⟨by first | omega | exact Nat.le_refl _⟩, ⟨by repeat (first | (with_reducible first | exact HB.out | apply below_alloc | apply pw_below_drewN | apply below_drew1) | exact HB.out)⟩⟩
          · rw [if_neg c10] at H
            exact absurd H (by simp)
    case rest =>
      clear HC6
      try clear c1
      try clear p1
      try clear q1
      try clear hx1
      try clear qi1
      try clear p2
      try clear c5
      try clear c6
      try clear c8
      try clear c8b0
      try clear c8b1
      try clear c9
      try clear c9b0
      try clear c9b1
      try clear c10
      try clear c10b0
      try clear c10b1
      try clear p11
      try clear q11
      try clear hx11
      try clear qi11
      try clear c12
      try clear c12b0
      try clear p13
      try clear q13
      try clear hx13
      try clear qi13
      try clear p11
      try clear p13
      try clear q11
      try clear q13
      obtain ⟨kq, x32_5, rfl, HA, HJ5, HB⟩ := hcut
      cases kq with
      | zero => exact absurd HA.out (by simp [outlawlaw01_ScanNumbers.j0])
      | succ kj5 =>
        have H := HA.out
        clear HA
        simp only [outlawlaw01_ScanNumbers.j0] at H
        by_cases c14 : x32_5 = true
        · subst c14
          have H1 : (some true) = some r := by rw [if_pos rfl] at H; exact H
          clear H
          have H := H1
          clear H1
          obtain rfl := Option.some.inj H
          go_wp2
          go_ret
          exact ⟨by first | rfl | (simp [errW_none, errW_some] <;> rfl) | (simp [*, errW_none, errW_some] <;> rfl), by repeat (first | (with_reducible first | exact HB.out | apply below_alloc | apply pw_below_drewN | apply below_drew1) | exact HB.out)⟩
        · replace c14 := Bool.eq_false_iff.mpr c14
          subst c14
          have H1 : ((scan_Number.f a1).bind fun bt105 => (if a1 < (-9007199254740991) then (outlawlaw01_ScanNumbers.j1 kj5 a0 a1 a2 bt105.1 bt105.2 true) else (outlawlaw01_ScanNumbers.j1 kj5 a0 a1 a2 bt105.1 bt105.2 (decide (a1 > 9007199254740991))))) = some r := by rw [if_neg (show ¬ (false = true) by decide)] at H; exact H
          clear H
          have H := H1
          clear H1
          replace H := Option.bind_eq_some_iff.mp H
          obtain ⟨⟨t105, t106⟩, A150, H⟩ := H
          replace H : (if a1 < (-9007199254740991) then (outlawlaw01_ScanNumbers.j1 kj5 a0 a1 a2 t105 t106 true) else (outlawlaw01_ScanNumbers.j1 kj5 a0 a1 a2 t105 t106 (decide (a1 > 9007199254740991)))) = some r := H
          have A15 := Aside0.mk A150
          clear A150
          have HC16 := Aside0.mk H
          clear H
          go_upto_region 6 with (first | ((with_reducible refine gate_callee (f := 16) rfl ?_); refine goesL_ (some 35) rfl rfl Tryd.func16 (by kernel_rfl) rfl #[.int .i64 a1] rfl (by (try simp only [List.map_toArray, List.map_cons, List.map_nil]); first | done | rfl | (simp only [List.length_drop, List.length_take]; rfl)) ?_; (with_reducible refine (scan_Number.calls a1 t105 t106 _ ?side1 A15.out).mono ?_); (case side1 => exact TabN.at HTTabN_.out (by repeat (first | (with_reducible first | exact HB.out | apply below_alloc | apply pw_below_drewN | apply below_drew1) | exact HB.out))); rintro e w17 ⟨rfl, hb⟩; refine ⟨_, rfl, ?_⟩; have n0_ := Aside0.mk (below_step (by repeat (first | (with_reducible first | exact HB.out | apply below_alloc | apply pw_below_drewN | apply below_drew1) | exact HB.out)) hb); clear HB; have HB := n0_; clear n0_; (try clear hb); (try clear hb2); (try clear hk); (try clear hi)))
          (try simp only [Act.put, List.setIfInBounds_toArray, List.set_cons_zero, List.set_cons_succ])
          go_cut [43] (fun v43 wc => ∃ (kq : Nat) (x43_15 : Bool), v43 = .bool x43_15 ∧ Aside0 (outlawlaw01_ScanNumbers.j1 kq a0 a1 a2 t105 t106 x43_15 = some r) ∧ Aside0 (kq ≤ kj5) ∧ Aside0 (Below w.heap.size w wc))
          case first =>
            have H := HC16.out
            clear HC16
            by_cases c18 : a1 < (-9007199254740991)
            · rw [if_pos c18] at H
              have c18b0 : decide (a1 < (-9007199254740991)) = true := decide_eq_true c18
              clear c18
              (first | rw [c18b0] | (simp only [i64_w, i32_w]; rw [c18b0]) | skip)
              have H' := Aside0.mk H
              clear H
              go_wp2
              all_goals
                go_meet
                case rel => exact ⟨_, (true), (by first | rfl | (simp; done) | (simp [*]; done) | (simp [bneNil_, beqNil_]; done) | (simp [bneNil_, beqNil_, *]; done) | (simp_all; done)), H', ⟨by have := HJ5.out; first | omega | exact Nat.le_refl _⟩, ⟨by repeat (first | (with_reducible first | exact HB.out | apply below_alloc | apply pw_below_drewN | apply below_drew1) | exact HB.out)⟩⟩
            · rw [if_neg c18] at H
              have c18b0 : decide (a1 < (-9007199254740991)) = false := decide_eq_false c18
              clear c18
              (first | rw [c18b0] | (simp only [i64_w, i32_w]; rw [c18b0]) | skip)
              have H' := Aside0.mk H
              clear H
              go_wp2
              all_goals
                go_meet
                case rel => exact ⟨_, (decide (a1 > 9007199254740991)), (by first | rfl | (simp; done) | (simp [*]; done) | (simp [bneNil_, beqNil_]; done) | (simp [bneNil_, beqNil_, *]; done) | (simp_all; done)), H', ⟨by have := HJ5.out; first | omega | exact Nat.le_refl _⟩, ⟨by repeat (first | (with_reducible first | exact HB.out | apply below_alloc | apply pw_below_drewN | apply below_drew1) | exact HB.out)⟩⟩
          case rest =>
            clear HC16
            try clear c1
            try clear p1
            try clear q1
            try clear hx1
            try clear qi1
            try clear p2
            try clear c5
            try clear c6
            try clear c8
            try clear c8b0
            try clear c8b1
            try clear c9
            try clear c9b0
            try clear c9b1
            try clear c10
            try clear c10b0
            try clear c10b1
            try clear p11
            try clear q11
            try clear hx11
            try clear qi11
            try clear c12
            try clear c12b0
            try clear p13
            try clear q13
            try clear hx13
            try clear qi13
            try clear c14
            try clear c16
            try clear c18
            try clear c18b0
            try clear p1
            try clear p11
            try clear p13
            try clear p2
            try clear q1
            try clear q11
            try clear q13
            obtain ⟨kq, x43_15, rfl, HA, HJ15, HB⟩ := hcut
            cases kq with
            | zero => exact absurd HA.out (by simp [outlawlaw01_ScanNumbers.j1])
            | succ kj15 =>
              have H := HA.out
              clear HA
              simp only [outlawlaw01_ScanNumbers.j1] at H
              by_cases c19 : x43_15 = true
              · subst c19
                have H1 : (if t106 = 2 then (some (t105.toList == ([] : List UInt8))) else (some false)) = some r := by rw [if_pos rfl] at H; exact H
                clear H
                have H := H1
                clear H1
                by_cases c20 : t106 = 2
                · rw [if_pos c20] at H
                  have c20b0 : (t106 == 2) = true := beq_iff_eq.mpr c20
                  have c20b1 : (t106 != 2) = false := bne_eq_false_iff_eq.mpr c20
                  clear c20
                  obtain rfl := Option.some.inj H
                  go_wp2
                  go_ret
                  exact ⟨by first | rfl | (simp [errW_none, errW_some] <;> rfl) | (simp [*, errW_none, errW_some] <;> rfl), by repeat (first | (with_reducible first | exact HB.out | apply below_alloc | apply pw_below_drewN | apply below_drew1) | exact HB.out)⟩
                · rw [if_neg c20] at H
                  have c20b0 : (t106 == 2) = false := beq_eq_false_iff_ne.mpr c20
                  have c20b1 : (t106 != 2) = true := bne_iff_ne.mpr c20
                  exact absurd ((Option.some.inj H).trans hr_.out) (by decide)
              · replace c19 := Bool.eq_false_iff.mpr c19
                subst c19
                have H1 : ((scan_Number.f a0).bind fun bt107 => (if t105.size + a2.size ≤ 9223372036854775807 then ((scan_ReadNumber.f (t105 ++ a2)).bind fun bt109 => (if t106 = 0 then (if bt109.2.2 = 0 then (if bt109.1 = a1 then (if bt109.2.1 = (t105.size : Int) then (if bt107.2 = 0 then (some ((t105.toList == bt107.1.toList) == (a0 == a1))) else (some true)) else (some false)) else (some false)) else (some false)) else (some false))) else (none))) = some r := by rw [if_neg (show ¬ (false = true) by decide)] at H; exact H
                clear H
                have H := H1
                clear H1
                replace H := Option.bind_eq_some_iff.mp H
                obtain ⟨⟨t107, t108⟩, A210, H⟩ := H
                replace H : (if t105.size + a2.size ≤ 9223372036854775807 then ((scan_ReadNumber.f (t105 ++ a2)).bind fun bt109 => (if t106 = 0 then (if bt109.2.2 = 0 then (if bt109.1 = a1 then (if bt109.2.1 = (t105.size : Int) then (if t108 = 0 then (some ((t105.toList == t107.toList) == (a0 == a1))) else (some true)) else (some false)) else (some false)) else (some false)) else (some false))) else (none)) = some r := H
                have A21 := Aside0.mk A210
                clear A210
                by_cases c22 : t105.size + a2.size ≤ 9223372036854775807
                · rw [if_pos c22] at H
                  have c22b0 := eq_true c22
                  have c22b1 : decide (t105.size + a2.size ≤ 9223372036854775807) = true := decide_eq_true c22
                  try have c22b2 : (9223372036854775807 < t105.size + a2.size) = False := eq_false (Nat.not_lt.2 c22)
                  replace H := Option.bind_eq_some_iff.mp H
                  obtain ⟨⟨t109, t110, t111⟩, A230, H⟩ := H
                  replace H : (if t106 = 0 then (if t111 = 0 then (if t109 = a1 then (if t110 = (t105.size : Int) then (if t108 = 0 then (some ((t105.toList == t107.toList) == (a0 == a1))) else (some true)) else (some false)) else (some false)) else (some false)) else (some false)) = some r := H
                  have A23 := Aside0.mk A230
                  clear A230
                  by_cases c24 : t106 = 0
                  · rw [if_pos c24] at H
                    have c24b0 : (t106 == 0) = true := beq_iff_eq.mpr c24
                    have c24b1 : (t106 != 0) = false := bne_eq_false_iff_eq.mpr c24
                    clear c24
                    by_cases c25 : t111 = 0
                    · rw [if_pos c25] at H
                      have c25b0 : (t111 == 0) = true := beq_iff_eq.mpr c25
                      have c25b1 : (t111 != 0) = false := bne_eq_false_iff_eq.mpr c25
                      clear c25
                      by_cases c26 : t109 = a1
                      · rw [if_pos c26] at H
                        have c26b0 : (t109 == a1) = true := beq_iff_eq.mpr c26
                        have c26b1 : (t109 != a1) = false := bne_eq_false_iff_eq.mpr c26
                        clear c26
                        by_cases c27 : t110 = (t105.size : Int)
                        · rw [if_pos c27] at H
                          have c27b0 : (t110 == (t105.size : Int)) = true := beq_iff_eq.mpr c27
                          have c27b1 : (t110 != (t105.size : Int)) = false := bne_eq_false_iff_eq.mpr c27
                          clear c27
                          by_cases c28 : t108 = 0
                          · rw [if_pos c28] at H
                            have c28b0 : (t108 == 0) = true := beq_iff_eq.mpr c28
                            have c28b1 : (t108 != 0) = false := bne_eq_false_iff_eq.mpr c28
                            clear c28
                            obtain rfl := Option.some.inj H
                            go_wp2_with (first | ((with_reducible refine gate_callee (f := 16) rfl ?_); refine goesL_ (some 52) rfl rfl Tryd.func16 (by kernel_rfl) rfl #[.int .i64 a0] rfl (by (try simp only [List.map_toArray, List.map_cons, List.map_nil]); first | done | rfl | (simp only [List.length_drop, List.length_take]; rfl)) ?_; (with_reducible refine (scan_Number.calls a0 t107 t108 _ ?side1 A21.out).mono ?_); (case side1 => exact TabN.at HTTabN_.out (by repeat (first | (with_reducible first | exact HB.out | apply below_alloc | apply pw_below_drewN | apply below_drew1) | exact HB.out))); rintro e w29 ⟨rfl, hb⟩; refine ⟨_, rfl, ?_⟩; have n0_ := Aside0.mk (below_step (by repeat (first | (with_reducible first | exact HB.out | apply below_alloc | apply pw_below_drewN | apply below_drew1) | exact HB.out)) hb); clear HB; have HB := n0_; clear n0_; (try clear hb); (try clear hb2); (try clear hk); (try clear hi)) | ((with_reducible refine gate_callee (f := 17) rfl ?_); refine goesL_ (some 59) rfl rfl Tryd.func17 (by kernel_rfl) rfl #[.string (t105 ++ a2)] rfl (by (try simp only [List.map_toArray, List.map_cons, List.map_nil]); first | done | rfl | (simp only [List.length_drop, List.length_take]; rfl)) ?_; (with_reducible refine (scan_ReadNumber.calls (t105 ++ a2) t109 t110 t111 _ A23.out).mono ?_); rintro e w' ⟨rfl, ⟨nd, rfl⟩⟩; refine ⟨_, rfl, ?_⟩))
                            go_ret
                            exact ⟨by first | rfl | (simp [errW_none, errW_some] <;> rfl) | (simp [*, errW_none, errW_some] <;> rfl), by repeat (first | (with_reducible first | exact HB.out | apply below_alloc | apply pw_below_drewN | apply below_drew1) | exact HB.out)⟩
                          · rw [if_neg c28] at H
                            have c28b0 : (t108 == 0) = false := beq_eq_false_iff_ne.mpr c28
                            have c28b1 : (t108 != 0) = true := bne_iff_ne.mpr c28
                            obtain rfl := Option.some.inj H
                            go_wp2_with (first | ((with_reducible refine gate_callee (f := 16) rfl ?_); refine goesL_ (some 52) rfl rfl Tryd.func16 (by kernel_rfl) rfl #[.int .i64 a0] rfl (by (try simp only [List.map_toArray, List.map_cons, List.map_nil]); first | done | rfl | (simp only [List.length_drop, List.length_take]; rfl)) ?_; (with_reducible refine (scan_Number.calls a0 t107 t108 _ ?side1 A21.out).mono ?_); (case side1 => exact TabN.at HTTabN_.out (by repeat (first | (with_reducible first | exact HB.out | apply below_alloc | apply pw_below_drewN | apply below_drew1) | exact HB.out))); rintro e w30 ⟨rfl, hb⟩; refine ⟨_, rfl, ?_⟩; have n0_ := Aside0.mk (below_step (by repeat (first | (with_reducible first | exact HB.out | apply below_alloc | apply pw_below_drewN | apply below_drew1) | exact HB.out)) hb); clear HB; have HB := n0_; clear n0_; (try clear hb); (try clear hb2); (try clear hk); (try clear hi)) | ((with_reducible refine gate_callee (f := 17) rfl ?_); refine goesL_ (some 59) rfl rfl Tryd.func17 (by kernel_rfl) rfl #[.string (t105 ++ a2)] rfl (by (try simp only [List.map_toArray, List.map_cons, List.map_nil]); first | done | rfl | (simp only [List.length_drop, List.length_take]; rfl)) ?_; (with_reducible refine (scan_ReadNumber.calls (t105 ++ a2) t109 t110 t111 _ A23.out).mono ?_); rintro e w' ⟨rfl, ⟨nd, rfl⟩⟩; refine ⟨_, rfl, ?_⟩))
                            go_ret
                            exact ⟨by first | rfl | (simp [errW_none, errW_some] <;> rfl) | (simp [*, errW_none, errW_some] <;> rfl), by repeat (first | (with_reducible first | exact HB.out | apply below_alloc | apply pw_below_drewN | apply below_drew1) | exact HB.out)⟩
                        · rw [if_neg c27] at H
                          have c27b0 : (t110 == (t105.size : Int)) = false := beq_eq_false_iff_ne.mpr c27
                          have c27b1 : (t110 != (t105.size : Int)) = true := bne_iff_ne.mpr c27
                          exact absurd ((Option.some.inj H).trans hr_.out) (by decide)
                      · rw [if_neg c26] at H
                        have c26b0 : (t109 == a1) = false := beq_eq_false_iff_ne.mpr c26
                        have c26b1 : (t109 != a1) = true := bne_iff_ne.mpr c26
                        exact absurd ((Option.some.inj H).trans hr_.out) (by decide)
                    · rw [if_neg c25] at H
                      have c25b0 : (t111 == 0) = false := beq_eq_false_iff_ne.mpr c25
                      have c25b1 : (t111 != 0) = true := bne_iff_ne.mpr c25
                      exact absurd ((Option.some.inj H).trans hr_.out) (by decide)
                  · rw [if_neg c24] at H
                    have c24b0 : (t106 == 0) = false := beq_eq_false_iff_ne.mpr c24
                    have c24b1 : (t106 != 0) = true := bne_iff_ne.mpr c24
                    exact absurd ((Option.some.inj H).trans hr_.out) (by decide)
                · rw [if_neg c22] at H
                  exact absurd H (by simp)
  · replace c5 := Bool.eq_false_iff.mpr c5
    subst c5
    have H1 : (some false) = some r := by rw [if_neg (show ¬ (false = true) by decide)] at H; exact H
    clear H
    have H := H1
    clear H1
    exact absurd ((Option.some.inj H).trans hr_.out) (by decide)

/-- THE ONE PURE STATEMENT of outlawlaw01_ScanNumbers: yours. -/
def outlawlaw01_ScanNumbers.Pure : Prop := ∀ (a0 : Int) (a1 : Int) (a2 : ByteArray), (Lit.int .i64 a0).wf = true → (Lit.int .i64 a1).wf = true → a2.size ≤ 140737488351232 → ∃ k, outlawlaw01_ScanNumbers.f k a0 a1 a2 = some true
theorem outlawlaw01_ScanNumbers.walk (P : outlawlaw01_ScanNumbers.Pure) (a0 : Int) (a1 : Int) (a2 : ByteArray) (w : World) (htTabN_ : TabN w) (htTabU_ : TabU w) (w0 : (Lit.int .i64 a0).wf = true) (w1 : (Lit.int .i64 a1).wf = true) (w2 : a2.size ≤ 140737488351232) :
    Calls Tryd.prog 6 #[.int .i64 a0, .int .i64 a1, .string a2] w fun e w' => e = .returned (.bool true) ∧ Below w.heap.size w w' := by
  obtain ⟨k, h⟩ := P a0 a1 a2 w0 w1 w2
  refine (outlawlaw01_ScanNumbers.calls k a0 a1 a2 true w ⟨rfl⟩ htTabN_ htTabU_ h).mono ?_
  rintro e w' ⟨rfl, hd⟩
  exact ⟨rfl, hd⟩

end Go.Proofs.YtfmenojhojmedaaDoor.PB
