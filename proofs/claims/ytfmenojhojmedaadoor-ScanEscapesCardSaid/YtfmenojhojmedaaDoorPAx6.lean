-- Written by a program of this session (gprint.py, a turned print with given contracts).
import Derived.Test.YtfmenojhojmedaaDoorPAx0
import Derived.Test.YtfmenojhojmedaaDoorPAx1
import Derived.Test.YtfmenojhojmedaaDoorPAx3
import Derived.Test.YtfmenojhojmedaaDoorPAx4
import Derived.Test.YtfmenojhojmedaaDoorPAx5
namespace Go.Proofs.YtfmenojhojmedaaDoor.PA
open Go.RowKit Go.Proofs.YtfmenojhojmedaaDoorW.PrintWords Go.Proofs.YtfmenojhojmedaaDoorW.PrintLast Go.Proofs.YtfmenojhojmedaaDoorW.PrintMore Go.Proofs.YtfmenojhojmedaaDoorG Go.Proofs.YtfmenojhojmedaaDoorX
attribute [local go_sem] max2_int min2_int max_two min_two max_three min_three max_four min_four   -- for this text's walks alone
set_option linter.unusedVariables false
set_option linter.unusedSimpArgs false

/-! ### outlawlaw01_ScanEscapes: function 5 -/
def outlawlaw01_ScanEscapes.j0 : Nat → Int → Int → Bool → ByteArray → ByteArray → Bool → Option (Bool)
  | 0, _, _, _, _, _, _ => none
  | k + 1, x0, x1, x2, x7, x9, x41 => if x41 = true then ((outlawkit_Pick.f x0 2048).bind fun t144 => ((outlawlaw01_digits.f (wrap64 (t144 + 55296)) x2).bind fun t145 => (if 3 + t145.size ≤ 9223372036854775807 then (if ((⟨#[34, 92, 117]⟩ : ByteArray) ++ t145).size + 1 ≤ 9223372036854775807 then ((scan_Unquote.f k (((⟨#[34, 92, 117]⟩ : ByteArray) ++ t145) ++ (⟨#[34]⟩ : ByteArray))).bind fun bt146 => (some (bt146.2.2 == 6))) else (none)) else (none)))) else ((scan_Unquote.f k x7).bind fun bt149 => ((scan_Unquote.f k x9).bind fun bt152 => (if bt149.2.2 = 0 then (if bt152.2.2 = 0 then (if bt149.2.1 = (x7.size : Int) then (if bt152.2.1 = (x9.size : Int) then (if ((bt149.1.toList == bt152.1.toList) == (x0 == x1)) = true then ((scan_Valid.f bt149.1).bind fun t155 => (if t155 = true then (if bt149.1.toList = ([] : List UInt8) then (some false) else (if bt149.1.size + bt152.1.size ≤ 9223372036854775807 then ((scan_Valid.f (bt149.1 ++ bt152.1)).bind fun t156 => (some t156)) else (none))) else (some false))) else (some false)) else (some false)) else (some false)) else (some false)) else (some false))))
def outlawlaw01_ScanEscapes.f (k : Nat) (a0 : Int) (a1 : Int) (a2 : Bool) : Option (Bool) := (outlawlaw01_lives.f).bind fun t139 => (if t139 = true then ((outlawlaw01_escaped.f k a0 a2).bind fun bt140 => ((outlawlaw01_escaped.f k a1 (!a2)).bind fun bt142 => (if bt140.2 = true then (outlawlaw01_ScanEscapes.j0 k a0 a1 a2 bt140.1 bt142.1 (!bt142.2)) else (outlawlaw01_ScanEscapes.j0 k a0 a1 a2 bt140.1 bt142.1 true)))) else (some false))
theorem outlawlaw01_ScanEscapes.mono_l : ∀ k, (∀ y0 y1 y2 y3 y4 y5, LeO (outlawlaw01_ScanEscapes.j0 k y0 y1 y2 y3 y4 y5) (outlawlaw01_ScanEscapes.j0 (k + 1) y0 y1 y2 y3 y4 y5))
  | 0 => fun _ _ _ _ _ _ r h => by simp [outlawlaw01_ScanEscapes.j0] at h
  | k + 1 => by
    have ih0 := outlawlaw01_ScanEscapes.mono_l k
    · intro y0 y1 y2 y3 y4 y5
      unfold outlawlaw01_ScanEscapes.j0
      repeat' first
      | (with_reducible exact ih0 _ _ _ _ _ _)
      | (with_reducible exact outlawlaw01_escaped.mono _ _ _)
      | (with_reducible exact scan_Unquote.mono _ _)
      | (with_reducible exact LeO.refl _)
      | (with_reducible exact LeO.none _)
      | (with_reducible refine LeO.ite ?_ ?_)
      | (with_reducible refine LeO.bind ?_ (fun _ => ?_))
      | exact ih0 _ _ _ _ _ _
      | exact outlawlaw01_escaped.mono _ _ _
      | exact scan_Unquote.mono _ _
      | exact LeO.none _
      | refine LeO.ite ?_ ?_
      | refine LeO.bind ?_ (fun _ => ?_)
theorem outlawlaw01_ScanEscapes.mono : ∀ a0 a1 a2 k, LeO (outlawlaw01_ScanEscapes.f k a0 a1 a2) (outlawlaw01_ScanEscapes.f (k + 1) a0 a1 a2) := by
  intro a0 a1 a2 k
  have ih0 := outlawlaw01_ScanEscapes.mono_l k
  unfold outlawlaw01_ScanEscapes.f
  repeat' first
      | (with_reducible exact ih0 _ _ _ _ _ _)
      | (with_reducible exact outlawlaw01_escaped.mono _ _ _)
      | (with_reducible exact scan_Unquote.mono _ _)
      | (with_reducible exact LeO.refl _)
      | (with_reducible exact LeO.none _)
      | (with_reducible refine LeO.ite ?_ ?_)
      | (with_reducible refine LeO.bind ?_ (fun _ => ?_))
      | exact ih0 _ _ _ _ _ _
      | exact outlawlaw01_escaped.mono _ _ _
      | exact scan_Unquote.mono _ _
      | exact LeO.none _
      | refine LeO.ite ?_ ?_
      | refine LeO.bind ?_ (fun _ => ?_)
set_option maxHeartbeats 8000000 in
set_option maxRecDepth 100000 in
theorem outlawlaw01_ScanEscapes.calls (k : Nat) (a0 : Int) (a1 : Int) (a2 : Bool) (r : Bool) (w : World) (hr_ : Aside0 (r = true)) (htTabU_ : TabU w) (h : outlawlaw01_ScanEscapes.f k a0 a1 a2 = some r) :
    Calls Tryd.prog 5 #[.int .i64 a0, .int .i64 a1, .bool a2] w fun e w' => e = .returned (.bool r) ∧ Below w.heap.size w w' := by
  have HTTabU_ := Aside0.mk htTabU_
  clear htTabU_
  have HB := Aside0.mk (Below.refl w.heap.size w)
  have H : ((outlawlaw01_lives.f).bind fun t139 => (if t139 = true then ((outlawlaw01_escaped.f k a0 a2).bind fun bt140 => ((outlawlaw01_escaped.f k a1 (!a2)).bind fun bt142 => (if bt140.2 = true then (outlawlaw01_ScanEscapes.j0 k a0 a1 a2 bt140.1 bt142.1 (!bt142.2)) else (outlawlaw01_ScanEscapes.j0 k a0 a1 a2 bt140.1 bt142.1 true)))) else (some false))) = some r := h
  clear h
  replace H := Option.bind_eq_some_iff.mp H
  obtain ⟨t139, A40, H⟩ := H
  replace H : (if t139 = true then ((outlawlaw01_escaped.f k a0 a2).bind fun bt140 => ((outlawlaw01_escaped.f k a1 (!a2)).bind fun bt142 => (if bt140.2 = true then (outlawlaw01_ScanEscapes.j0 k a0 a1 a2 bt140.1 bt142.1 (!bt142.2)) else (outlawlaw01_ScanEscapes.j0 k a0 a1 a2 bt140.1 bt142.1 true)))) else (some false)) = some r := H
  have A4 := Aside0.mk A40
  clear A40
  by_cases c5 : t139 = true
  · subst c5
    have H1 : ((outlawlaw01_escaped.f k a0 a2).bind fun bt140 => ((outlawlaw01_escaped.f k a1 (!a2)).bind fun bt142 => (if bt140.2 = true then (outlawlaw01_ScanEscapes.j0 k a0 a1 a2 bt140.1 bt142.1 (!bt142.2)) else (outlawlaw01_ScanEscapes.j0 k a0 a1 a2 bt140.1 bt142.1 true)))) = some r := by rw [if_pos rfl] at H; exact H
    clear H
    have H := H1
    clear H1
    replace H := Option.bind_eq_some_iff.mp H
    obtain ⟨⟨t140, t141⟩, A60, H⟩ := H
    replace H : ((outlawlaw01_escaped.f k a1 (!a2)).bind fun bt142 => (if t141 = true then (outlawlaw01_ScanEscapes.j0 k a0 a1 a2 t140 bt142.1 (!bt142.2)) else (outlawlaw01_ScanEscapes.j0 k a0 a1 a2 t140 bt142.1 true))) = some r := H
    have A6 := Aside0.mk A60
    clear A60
    replace H := Option.bind_eq_some_iff.mp H
    obtain ⟨⟨t142, t143⟩, A70, H⟩ := H
    replace H : (if t141 = true then (outlawlaw01_ScanEscapes.j0 k a0 a1 a2 t140 t142 (!t143)) else (outlawlaw01_ScanEscapes.j0 k a0 a1 a2 t140 t142 true)) = some r := H
    have A7 := Aside0.mk A70
    clear A70
    have HC8 := Aside0.mk H
    clear H
    go_enter Tryd.func5, Tryd.ntmps5
    go_upto_region 5 with (first | ((with_reducible refine gate_callee (f := 9) rfl ?_); refine goesL_ (some 21) rfl rfl Tryd.func9 (by kernel_rfl) rfl #[] rfl (by (try simp only [List.map_toArray, List.map_cons, List.map_nil]); first | done | rfl | (simp only [List.length_drop, List.length_take]; rfl)) ?_; (with_reducible refine (outlawlaw01_lives.calls  true _ ?side1 A4.out).mono ?_); (case side1 => exact TabU.at HTTabU_.out (by repeat (first | (with_reducible first | exact HB.out | apply below_alloc | apply pw_below_drewN | apply below_drew1) | exact HB.out))); rintro e w9 ⟨rfl, hb⟩; refine ⟨_, rfl, ?_⟩; have n0_ := Aside0.mk (below_step (by repeat (first | (with_reducible first | exact HB.out | apply below_alloc | apply pw_below_drewN | apply below_drew1) | exact HB.out)) hb); clear HB; have HB := n0_; clear n0_; (try clear hb); (try clear hb2); (try clear hk); (try clear hi)) | ((with_reducible refine gate_callee (f := 14) rfl ?_); refine goesL_ (some 26) rfl rfl Tryd.func14 (by kernel_rfl) rfl #[.int .i64 a0, .bool a2] rfl (by (try simp only [List.map_toArray, List.map_cons, List.map_nil]); first | done | rfl | (simp only [List.length_drop, List.length_take]; rfl)) ?_; (with_reducible refine (outlawlaw01_escaped.calls k a0 a2 t140 t141 _ A6.out).mono ?_); rintro e w10 ⟨rfl, hb⟩; refine ⟨_, rfl, ?_⟩; have n0_ := Aside0.mk (below_step (by repeat (first | (with_reducible first | exact HB.out | apply below_alloc | apply pw_below_drewN | apply below_drew1) | exact HB.out)) hb); clear HB; have HB := n0_; clear n0_; (try clear hb); (try clear hb2); (try clear hk); (try clear hi)) | ((with_reducible refine gate_callee (f := 14) rfl ?_); refine goesL_ (some 33) rfl rfl Tryd.func14 (by kernel_rfl) rfl #[.int .i64 a1, .bool (!a2)] rfl (by (try simp only [List.map_toArray, List.map_cons, List.map_nil]); first | done | rfl | (simp only [List.length_drop, List.length_take]; rfl)) ?_; (with_reducible refine (outlawlaw01_escaped.calls k a1 (!a2) t142 t143 _ A7.out).mono ?_); rintro e w11 ⟨rfl, hb⟩; refine ⟨_, rfl, ?_⟩; have n0_ := Aside0.mk (below_step (by repeat (first | (with_reducible first | exact HB.out | apply below_alloc | apply pw_below_drewN | apply below_drew1) | exact HB.out)) hb); clear HB; have HB := n0_; clear n0_; (try clear hb); (try clear hb2); (try clear hk); (try clear hi)))
    (try simp only [Act.put, List.setIfInBounds_toArray, List.set_cons_zero, List.set_cons_succ])
    go_cut [41] (fun v41 wc => ∃ (kq : Nat) (x41_7 : Bool), v41 = .bool x41_7 ∧ Aside0 (outlawlaw01_ScanEscapes.j0 kq a0 a1 a2 t140 t142 x41_7 = some r) ∧ Aside0 (kq ≤ k) ∧ Aside0 (Below w.heap.size w wc))
    case first =>
      have H := HC8.out
      clear HC8
      by_cases c12 : t141 = true
      · subst c12
        have H1 : (outlawlaw01_ScanEscapes.j0 k a0 a1 a2 t140 t142 (!t143)) = some r := by rw [if_pos rfl] at H; exact H
        clear H
        have H := H1
        clear H1
        have H' := Aside0.mk H
        clear H
        go_wp2
        all_goals
          go_meet
          case rel => exact ⟨_, (!t143), (by first | rfl | (simp; done) | (simp [*]; done) | (simp [bneNil_, beqNil_]; done) | (simp [bneNil_, beqNil_, *]; done) | (simp_all; done)), H', ⟨by first | omega | exact Nat.le_refl _⟩, ⟨by repeat (first | (with_reducible first | exact HB.out | apply below_alloc | apply pw_below_drewN | apply below_drew1) | exact HB.out)⟩⟩
      · replace c12 := Bool.eq_false_iff.mpr c12
        subst c12
        have H1 : (outlawlaw01_ScanEscapes.j0 k a0 a1 a2 t140 t142 true) = some r := by rw [if_neg (show ¬ (false = true) by decide)] at H; exact H
        clear H
        have H := H1
        clear H1
        have H' := Aside0.mk H
        clear H
        go_wp2
        all_goals
          go_meet
          case rel => exact ⟨_, (true), (by first | rfl | (simp; done) | (simp [*]; done) | (simp [bneNil_, beqNil_]; done) | (simp [bneNil_, beqNil_, *]; done) | (simp_all; done)), H', ⟨by first | omega | exact Nat.le_refl _⟩, ⟨by repeat (first | (with_reducible first | exact HB.out | apply below_alloc | apply pw_below_drewN | apply below_drew1) | exact HB.out)⟩⟩
    case rest =>
      clear HC8
      try clear c1
      try clear p2
      try clear c5
      try clear c9
      try clear c12
      obtain ⟨kq, x41_7, rfl, HA, HJ7, HB⟩ := hcut
      cases kq with
      | zero => exact absurd HA.out (by simp [outlawlaw01_ScanEscapes.j0])
      | succ kj7 =>
        have H := HA.out
        clear HA
        simp only [outlawlaw01_ScanEscapes.j0] at H
        by_cases c13 : x41_7 = true
        · subst c13
          have H1 : ((outlawkit_Pick.f a0 2048).bind fun t144 => ((outlawlaw01_digits.f (wrap64 (t144 + 55296)) a2).bind fun t145 => (if 3 + t145.size ≤ 9223372036854775807 then (if ((⟨#[34, 92, 117]⟩ : ByteArray) ++ t145).size + 1 ≤ 9223372036854775807 then ((scan_Unquote.f kj7 (((⟨#[34, 92, 117]⟩ : ByteArray) ++ t145) ++ (⟨#[34]⟩ : ByteArray))).bind fun bt146 => (some (bt146.2.2 == 6))) else (none)) else (none)))) = some r := by rw [if_pos rfl] at H; exact H
          clear H
          have H := H1
          clear H1
          replace H := Option.bind_eq_some_iff.mp H
          obtain ⟨t144, A140, H⟩ := H
          replace H : ((outlawlaw01_digits.f (wrap64 (t144 + 55296)) a2).bind fun t145 => (if 3 + t145.size ≤ 9223372036854775807 then (if ((⟨#[34, 92, 117]⟩ : ByteArray) ++ t145).size + 1 ≤ 9223372036854775807 then ((scan_Unquote.f kj7 (((⟨#[34, 92, 117]⟩ : ByteArray) ++ t145) ++ (⟨#[34]⟩ : ByteArray))).bind fun bt146 => (some (bt146.2.2 == 6))) else (none)) else (none))) = some r := H
          have A14 := Aside0.mk A140
          clear A140
          replace H := Option.bind_eq_some_iff.mp H
          obtain ⟨t145, A150, H⟩ := H
          replace H : (if 3 + t145.size ≤ 9223372036854775807 then (if ((⟨#[34, 92, 117]⟩ : ByteArray) ++ t145).size + 1 ≤ 9223372036854775807 then ((scan_Unquote.f kj7 (((⟨#[34, 92, 117]⟩ : ByteArray) ++ t145) ++ (⟨#[34]⟩ : ByteArray))).bind fun bt146 => (some (bt146.2.2 == 6))) else (none)) else (none)) = some r := H
          have A15 := Aside0.mk A150
          clear A150
          by_cases c16 : 3 + t145.size ≤ 9223372036854775807
          · rw [if_pos c16] at H
            have c16b0 := eq_true c16
            have c16b1 : decide (3 + t145.size ≤ 9223372036854775807) = true := decide_eq_true c16
            try have c16b2 : (9223372036854775807 < 3 + t145.size) = False := eq_false (Nat.not_lt.2 c16)
            by_cases c17 : ((⟨#[34, 92, 117]⟩ : ByteArray) ++ t145).size + 1 ≤ 9223372036854775807
            · rw [if_pos c17] at H
              have c17b0 := eq_true c17
              have c17b1 : decide (((⟨#[34, 92, 117]⟩ : ByteArray) ++ t145).size + 1 ≤ 9223372036854775807) = true := decide_eq_true c17
              (try (have c17b1n := c17b1; simp only [ByteArray.size_append, Int.natCast_add, size_one_, size_two_, size_three_] at c17b1n))
              try have c17b2 : (9223372036854775807 < ((⟨#[34, 92, 117]⟩ : ByteArray) ++ t145).size + 1) = False := eq_false (Nat.not_lt.2 c17)
              (try (have c17b2n := c17b2; simp only [ByteArray.size_append, size_one_, size_two_, size_three_] at c17b2n))
              (try (have c17b2m : (9223372036854775806 < ((⟨#[34, 92, 117]⟩ : ByteArray) ++ t145).size) = False := eq_false (by have := of_eq_false c17b2; omega); simp only [ByteArray.size_append, size_one_, size_two_, size_three_] at c17b2m))
              replace H := Option.bind_eq_some_iff.mp H
              obtain ⟨⟨t146, t147, t148⟩, A180, H⟩ := H
              replace H : (some (t148 == 6)) = some r := H
              have A18 := Aside0.mk A180
              clear A180
              obtain rfl := Option.some.inj H
              go_wp2_with (first | ((with_reducible refine gate_callee (f := 13) rfl ?_); refine goesL_ (some 43) rfl rfl Tryd.func13 (by kernel_rfl) rfl #[.int .i64 a0, .int .i64 2048] rfl (by (try simp only [List.map_toArray, List.map_cons, List.map_nil]); first | done | rfl | (simp only [List.length_drop, List.length_take]; rfl)) ?_; (with_reducible refine (outlawkit_Pick.calls a0 2048 t144 _ A14.out).mono ?_); rintro e w' ⟨rfl, ⟨nd, rfl⟩⟩; refine ⟨_, rfl, ?_⟩) | ((with_reducible refine gate_callee (f := 15) rfl ?_); refine goesL_ (some 48) rfl rfl Tryd.func15 (by kernel_rfl) rfl #[.int .i64 (wrap64 (t144 + 55296)), .bool a2] rfl (by (try simp only [List.map_toArray, List.map_cons, List.map_nil]); first | done | rfl | (simp only [List.length_drop, List.length_take]; rfl)) ?_; (with_reducible refine (outlawlaw01_digits.calls (wrap64 (t144 + 55296)) a2 t145 _ A15.out).mono ?_); rintro e w19 ⟨rfl, hb⟩; refine ⟨_, rfl, ?_⟩; have n0_ := Aside0.mk (below_step (by repeat (first | (with_reducible first | exact HB.out | apply below_alloc | apply pw_below_drewN | apply below_drew1) | exact HB.out)) hb); clear HB; have HB := n0_; clear n0_; (try clear hb); (try clear hb2); (try clear hk); (try clear hi)) | ((with_reducible refine gate_callee (f := 12) rfl ?_); refine goesL_ (some 51) rfl rfl Tryd.func12 (by kernel_rfl) rfl #[.string (((⟨#[34, 92, 117]⟩ : ByteArray) ++ t145) ++ (⟨#[34]⟩ : ByteArray))] rfl (by (try simp only [List.map_toArray, List.map_cons, List.map_nil]); first | done | rfl | (simp only [List.length_drop, List.length_take]; rfl)) ?_; (with_reducible refine (scan_Unquote.calls kj7 (((⟨#[34, 92, 117]⟩ : ByteArray) ++ t145) ++ (⟨#[34]⟩ : ByteArray)) t146 t147 t148 _ ?side1 A18.out).mono ?_); (case side1 => exact TabU.at HTTabU_.out (by repeat (first | (with_reducible first | exact HB.out | apply below_alloc | apply pw_below_drewN | apply below_drew1) | exact HB.out))); rintro e w20 ⟨rfl, hb⟩; refine ⟨_, rfl, ?_⟩; have n0_ := Aside0.mk (below_step (by repeat (first | (with_reducible first | exact HB.out | apply below_alloc | apply pw_below_drewN | apply below_drew1) | exact HB.out)) hb); clear HB; have HB := n0_; clear n0_; (try clear hb); (try clear hb2); (try clear hk); (try clear hi)))
              go_ret
              exact ⟨by first | rfl | (simp [errW_none, errW_some] <;> rfl) | (simp [*, errW_none, errW_some] <;> rfl), by repeat (first | (with_reducible first | exact HB.out | apply below_alloc | apply pw_below_drewN | apply below_drew1) | exact HB.out)⟩
            · rw [if_neg c17] at H
              exact absurd H (by simp)
          · rw [if_neg c16] at H
            exact absurd H (by simp)
        · replace c13 := Bool.eq_false_iff.mpr c13
          subst c13
          have H1 : ((scan_Unquote.f kj7 t140).bind fun bt149 => ((scan_Unquote.f kj7 t142).bind fun bt152 => (if bt149.2.2 = 0 then (if bt152.2.2 = 0 then (if bt149.2.1 = (t140.size : Int) then (if bt152.2.1 = (t142.size : Int) then (if ((bt149.1.toList == bt152.1.toList) == (a0 == a1)) = true then ((scan_Valid.f bt149.1).bind fun t155 => (if t155 = true then (if bt149.1.toList = ([] : List UInt8) then (some false) else (if bt149.1.size + bt152.1.size ≤ 9223372036854775807 then ((scan_Valid.f (bt149.1 ++ bt152.1)).bind fun t156 => (some t156)) else (none))) else (some false))) else (some false)) else (some false)) else (some false)) else (some false)) else (some false)))) = some r := by rw [if_neg (show ¬ (false = true) by decide)] at H; exact H
          clear H
          have H := H1
          clear H1
          replace H := Option.bind_eq_some_iff.mp H
          obtain ⟨⟨t149, t150, t151⟩, A210, H⟩ := H
          replace H : ((scan_Unquote.f kj7 t142).bind fun bt152 => (if t151 = 0 then (if bt152.2.2 = 0 then (if t150 = (t140.size : Int) then (if bt152.2.1 = (t142.size : Int) then (if ((t149.toList == bt152.1.toList) == (a0 == a1)) = true then ((scan_Valid.f t149).bind fun t155 => (if t155 = true then (if t149.toList = ([] : List UInt8) then (some false) else (if t149.size + bt152.1.size ≤ 9223372036854775807 then ((scan_Valid.f (t149 ++ bt152.1)).bind fun t156 => (some t156)) else (none))) else (some false))) else (some false)) else (some false)) else (some false)) else (some false)) else (some false))) = some r := H
          have A21 := Aside0.mk A210
          clear A210
          replace H := Option.bind_eq_some_iff.mp H
          obtain ⟨⟨t152, t153, t154⟩, A220, H⟩ := H
          replace H : (if t151 = 0 then (if t154 = 0 then (if t150 = (t140.size : Int) then (if t153 = (t142.size : Int) then (if ((t149.toList == t152.toList) == (a0 == a1)) = true then ((scan_Valid.f t149).bind fun t155 => (if t155 = true then (if t149.toList = ([] : List UInt8) then (some false) else (if t149.size + t152.size ≤ 9223372036854775807 then ((scan_Valid.f (t149 ++ t152)).bind fun t156 => (some t156)) else (none))) else (some false))) else (some false)) else (some false)) else (some false)) else (some false)) else (some false)) = some r := H
          have A22 := Aside0.mk A220
          clear A220
          by_cases c23 : t151 = 0
          · rw [if_pos c23] at H
            have c23b0 : (t151 == 0) = true := beq_iff_eq.mpr c23
            have c23b1 : (t151 != 0) = false := bne_eq_false_iff_eq.mpr c23
            clear c23
            by_cases c24 : t154 = 0
            · rw [if_pos c24] at H
              have c24b0 : (t154 == 0) = true := beq_iff_eq.mpr c24
              have c24b1 : (t154 != 0) = false := bne_eq_false_iff_eq.mpr c24
              clear c24
              by_cases c25 : t150 = (t140.size : Int)
              · rw [if_pos c25] at H
                have c25b0 : (t150 == (t140.size : Int)) = true := beq_iff_eq.mpr c25
                have c25b1 : (t150 != (t140.size : Int)) = false := bne_eq_false_iff_eq.mpr c25
                clear c25
                by_cases c26 : t153 = (t142.size : Int)
                · rw [if_pos c26] at H
                  have c26b0 : (t153 == (t142.size : Int)) = true := beq_iff_eq.mpr c26
                  have c26b1 : (t153 != (t142.size : Int)) = false := bne_eq_false_iff_eq.mpr c26
                  clear c26
                  by_cases c27 : ((t149.toList == t152.toList) == (a0 == a1)) = true
                  · rw [if_pos c27] at H
                    have c27b0 : ((t149.toList == t152.toList) == (a0 == a1)) = true := c27
                    (try (have c27b1 : decide ((t149.toList == t152.toList) = (a0 == a1)) = true := by simpa using c27))
                    (try (have c27b2 : ((t149.toList == t152.toList) == (a0 == a1)) = true := by simpa using c27))
                    clear c27
                    replace H := Option.bind_eq_some_iff.mp H
                    obtain ⟨t155, A280, H⟩ := H
                    replace H : (if t155 = true then (if t149.toList = ([] : List UInt8) then (some false) else (if t149.size + t152.size ≤ 9223372036854775807 then ((scan_Valid.f (t149 ++ t152)).bind fun t156 => (some t156)) else (none))) else (some false)) = some r := H
                    have A28 := Aside0.mk A280
                    clear A280
                    by_cases c29 : t155 = true
                    · subst c29
                      have H1 : (if t149.toList = ([] : List UInt8) then (some false) else (if t149.size + t152.size ≤ 9223372036854775807 then ((scan_Valid.f (t149 ++ t152)).bind fun t156 => (some t156)) else (none))) = some r := by rw [if_pos rfl] at H; exact H
                      clear H
                      have H := H1
                      clear H1
                      by_cases c30 : t149.toList = ([] : List UInt8)
                      · rw [if_pos c30] at H
                        have c30b0 : (t149.toList == ([] : List UInt8)) = true := beq_iff_eq.mpr c30
                        have c30b1 : (t149.toList != ([] : List UInt8)) = false := bne_eq_false_iff_eq.mpr c30
                        clear c30
                        exact absurd ((Option.some.inj H).trans hr_.out) (by decide)
                      · rw [if_neg c30] at H
                        have c30b0 : (t149.toList == ([] : List UInt8)) = false := beq_eq_false_iff_ne.mpr c30
                        have c30b1 : (t149.toList != ([] : List UInt8)) = true := bne_iff_ne.mpr c30
                        by_cases c31 : t149.size + t152.size ≤ 9223372036854775807
                        · rw [if_pos c31] at H
                          have c31b0 := eq_true c31
                          have c31b1 : decide (t149.size + t152.size ≤ 9223372036854775807) = true := decide_eq_true c31
                          try have c31b2 : (9223372036854775807 < t149.size + t152.size) = False := eq_false (Nat.not_lt.2 c31)
                          replace H := Option.bind_eq_some_iff.mp H
                          obtain ⟨t156, A320, H⟩ := H
                          replace H : (some t156) = some r := H
                          have A32 := Aside0.mk A320
                          clear A320
                          obtain rfl := Option.some.inj H
                          go_wp2_with (first | ((with_reducible refine gate_callee (f := 12) rfl ?_); refine goesL_ (some 59) rfl rfl Tryd.func12 (by kernel_rfl) rfl #[.string t140] rfl (by (try simp only [List.map_toArray, List.map_cons, List.map_nil]); first | done | rfl | (simp only [List.length_drop, List.length_take]; rfl)) ?_; (with_reducible refine (scan_Unquote.calls kj7 t140 t149 t150 t151 _ ?side1 A21.out).mono ?_); (case side1 => exact TabU.at HTTabU_.out (by repeat (first | (with_reducible first | exact HB.out | apply below_alloc | apply pw_below_drewN | apply below_drew1) | exact HB.out))); rintro e w33 ⟨rfl, hb⟩; refine ⟨_, rfl, ?_⟩; have n0_ := Aside0.mk (below_step (by repeat (first | (with_reducible first | exact HB.out | apply below_alloc | apply pw_below_drewN | apply below_drew1) | exact HB.out)) hb); clear HB; have HB := n0_; clear n0_; (try clear hb); (try clear hb2); (try clear hk); (try clear hi)) | ((with_reducible refine gate_callee (f := 12) rfl ?_); refine goesL_ (some 65) rfl rfl Tryd.func12 (by kernel_rfl) rfl #[.string t142] rfl (by (try simp only [List.map_toArray, List.map_cons, List.map_nil]); first | done | rfl | (simp only [List.length_drop, List.length_take]; rfl)) ?_; (with_reducible refine (scan_Unquote.calls kj7 t142 t152 t153 t154 _ ?side1 A22.out).mono ?_); (case side1 => exact TabU.at HTTabU_.out (by repeat (first | (with_reducible first | exact HB.out | apply below_alloc | apply pw_below_drewN | apply below_drew1) | exact HB.out))); rintro e w34 ⟨rfl, hb⟩; refine ⟨_, rfl, ?_⟩; have n0_ := Aside0.mk (below_step (by repeat (first | (with_reducible first | exact HB.out | apply below_alloc | apply pw_below_drewN | apply below_drew1) | exact HB.out)) hb); clear HB; have HB := n0_; clear n0_; (try clear hb); (try clear hb2); (try clear hk); (try clear hi)) | (go_at_call 11; (with_reducible refine (scan_Valid.calls t149 true _ ?side1 A28.out).mono ?_); (case side1 => exact TabU.at HTTabU_.out (by repeat (first | (with_reducible first | exact HB.out | apply below_alloc | apply pw_below_drewN | apply below_drew1) | exact HB.out))); rintro e w35 ⟨rfl, hb⟩; have n0_ := Aside0.mk (below_step (by repeat (first | (with_reducible first | exact HB.out | apply below_alloc | apply pw_below_drewN | apply below_drew1) | exact HB.out)) hb); clear HB; have HB := n0_; clear n0_; (try clear hb); (try clear hb2); (try clear hk); (try clear hi)) | (go_at_call 11; (with_reducible refine (scan_Valid.calls (t149 ++ t152) t156 _ ?side1 A32.out).mono ?_); (case side1 => exact TabU.at HTTabU_.out (by repeat (first | (with_reducible first | exact HB.out | apply below_alloc | apply pw_below_drewN | apply below_drew1) | exact HB.out))); rintro e w36 ⟨rfl, hb⟩; have n0_ := Aside0.mk (below_step (by repeat (first | (with_reducible first | exact HB.out | apply below_alloc | apply pw_below_drewN | apply below_drew1) | exact HB.out)) hb); clear HB; have HB := n0_; clear n0_; (try clear hb); (try clear hb2); (try clear hk); (try clear hi)))
                          go_ret
                          exact ⟨by first | rfl | (simp [errW_none, errW_some] <;> rfl) | (simp [*, errW_none, errW_some] <;> rfl), by repeat (first | (with_reducible first | exact HB.out | apply below_alloc | apply pw_below_drewN | apply below_drew1) | exact HB.out)⟩
                        · rw [if_neg c31] at H
                          exact absurd H (by simp)
                    · replace c29 := Bool.eq_false_iff.mpr c29
                      subst c29
                      have H1 : (some false) = some r := by rw [if_neg (show ¬ (false = true) by decide)] at H; exact H
                      clear H
                      have H := H1
                      clear H1
                      exact absurd ((Option.some.inj H).trans hr_.out) (by decide)
                  · rw [if_neg c27] at H
                    have c27b0 : ((t149.toList == t152.toList) == (a0 == a1)) = false := by simpa using c27
                    (try (have c27b1 : decide ((t149.toList == t152.toList) = (a0 == a1)) = false := by simpa using c27))
                    (try (have c27b2 : ((t149.toList == t152.toList) == (a0 == a1)) = false := by simpa using c27))
                    (try (have c27b3 : ¬ ((t149.toList == t152.toList) = (a0 == a1)) := by simpa using c27))
                    clear c27
                    exact absurd ((Option.some.inj H).trans hr_.out) (by decide)
                · rw [if_neg c26] at H
                  have c26b0 : (t153 == (t142.size : Int)) = false := beq_eq_false_iff_ne.mpr c26
                  have c26b1 : (t153 != (t142.size : Int)) = true := bne_iff_ne.mpr c26
                  exact absurd ((Option.some.inj H).trans hr_.out) (by decide)
              · rw [if_neg c25] at H
                have c25b0 : (t150 == (t140.size : Int)) = false := beq_eq_false_iff_ne.mpr c25
                have c25b1 : (t150 != (t140.size : Int)) = true := bne_iff_ne.mpr c25
                exact absurd ((Option.some.inj H).trans hr_.out) (by decide)
            · rw [if_neg c24] at H
              have c24b0 : (t154 == 0) = false := beq_eq_false_iff_ne.mpr c24
              have c24b1 : (t154 != 0) = true := bne_iff_ne.mpr c24
              exact absurd ((Option.some.inj H).trans hr_.out) (by decide)
          · rw [if_neg c23] at H
            have c23b0 : (t151 == 0) = false := beq_eq_false_iff_ne.mpr c23
            have c23b1 : (t151 != 0) = true := bne_iff_ne.mpr c23
            exact absurd ((Option.some.inj H).trans hr_.out) (by decide)
  · replace c5 := Bool.eq_false_iff.mpr c5
    subst c5
    have H1 : (some false) = some r := by rw [if_neg (show ¬ (false = true) by decide)] at H; exact H
    clear H
    have H := H1
    clear H1
    exact absurd ((Option.some.inj H).trans hr_.out) (by decide)

/-- THE ONE PURE STATEMENT of outlawlaw01_ScanEscapes: yours. -/
def outlawlaw01_ScanEscapes.Pure : Prop := ∀ (a0 : Int) (a1 : Int) (a2 : Bool), (Lit.int .i64 a0).wf = true → (Lit.int .i64 a1).wf = true → ∃ k, outlawlaw01_ScanEscapes.f k a0 a1 a2 = some true
theorem outlawlaw01_ScanEscapes.walk (P : outlawlaw01_ScanEscapes.Pure) (a0 : Int) (a1 : Int) (a2 : Bool) (w : World) (htTabU_ : TabU w) (w0 : (Lit.int .i64 a0).wf = true) (w1 : (Lit.int .i64 a1).wf = true) :
    Calls Tryd.prog 5 #[.int .i64 a0, .int .i64 a1, .bool a2] w fun e w' => e = .returned (.bool true) ∧ Below w.heap.size w w' := by
  obtain ⟨k, h⟩ := P a0 a1 a2 w0 w1
  refine (outlawlaw01_ScanEscapes.calls k a0 a1 a2 true w ⟨rfl⟩ htTabU_ h).mono ?_
  rintro e w' ⟨rfl, hd⟩
  exact ⟨rfl, hd⟩

end Go.Proofs.YtfmenojhojmedaaDoor.PA
