-- Written by a program of this session (gprint.py, a turned print with given contracts).
import Derived.Test.YtfmenojhojmedaaDoorPAx0
import Derived.Test.YtfmenojhojmedaaDoorPAx4
namespace Go.Proofs.YtfmenojhojmedaaDoor.PA
open Go.RowKit Go.Proofs.YtfmenojhojmedaaDoorW.PrintWords Go.Proofs.YtfmenojhojmedaaDoorW.PrintLast Go.Proofs.YtfmenojhojmedaaDoorW.PrintMore Go.Proofs.YtfmenojhojmedaaDoorG Go.Proofs.YtfmenojhojmedaaDoorX
attribute [local go_sem] max2_int min2_int max_two min_two max_three min_three max_four min_four   -- for this text's walks alone
set_option linter.unusedVariables false
set_option linter.unusedSimpArgs false

/-! ### outlawlaw01_escaped: function 14 -/
def outlawlaw01_escaped.j0 : Nat → Int → Bool → Bool → Option (ByteArray × Bool)
  | 0, _, _, _ => none
  | k + 1, x0, x1, x19 => if x19 = true then (some ((⟨#[]⟩ : ByteArray), false)) else (if x0 < 65536 then ((outlawlaw01_digits.f x0 x1).bind fun t136 => (if 3 + t136.size ≤ 9223372036854775807 then (if ((⟨#[34, 92, 117]⟩ : ByteArray) ++ t136).size + 1 ≤ 9223372036854775807 then (some (((⟨#[34, 92, 117]⟩ : ByteArray) ++ t136) ++ (⟨#[34]⟩ : ByteArray), true)) else (none)) else (none))) else ((outlawlaw01_digits.f (wrap64 (55296 + (wrap64 (Int.tdiv (wrap64 (x0 - 65536)) 1024)))) x1).bind fun t137 => (if 3 + t137.size ≤ 9223372036854775807 then (if ((⟨#[34, 92, 117]⟩ : ByteArray) ++ t137).size + 2 ≤ 9223372036854775807 then ((outlawlaw01_digits.f (wrap64 (56320 + (Int.tmod (wrap64 (x0 - 65536)) 1024))) x1).bind fun t138 => (if (((⟨#[34, 92, 117]⟩ : ByteArray) ++ t137) ++ (⟨#[92, 117]⟩ : ByteArray)).size + t138.size ≤ 9223372036854775807 then (if ((((⟨#[34, 92, 117]⟩ : ByteArray) ++ t137) ++ (⟨#[92, 117]⟩ : ByteArray)) ++ t138).size + 1 ≤ 9223372036854775807 then (some (((((⟨#[34, 92, 117]⟩ : ByteArray) ++ t137) ++ (⟨#[92, 117]⟩ : ByteArray)) ++ t138) ++ (⟨#[34]⟩ : ByteArray), true)) else (none)) else (none))) else (none)) else (none))))
def outlawlaw01_escaped.f (k : Nat) (a0 : Int) (a1 : Bool) : Option (ByteArray × Bool) := if a0 < 0 then (outlawlaw01_escaped.j0 k a0 a1 true) else (if a0 > 1114111 then (outlawlaw01_escaped.j0 k a0 a1 true) else (if a0 ≥ 55296 then (outlawlaw01_escaped.j0 k a0 a1 (decide (a0 ≤ 57343))) else (outlawlaw01_escaped.j0 k a0 a1 false)))
theorem outlawlaw01_escaped.mono_l : ∀ k, (∀ y0 y1 y2, LeO (outlawlaw01_escaped.j0 k y0 y1 y2) (outlawlaw01_escaped.j0 (k + 1) y0 y1 y2))
  | 0 => fun _ _ _ r h => by simp [outlawlaw01_escaped.j0] at h
  | k + 1 => by
    have ih0 := outlawlaw01_escaped.mono_l k
    · intro y0 y1 y2
      unfold outlawlaw01_escaped.j0
      repeat' first
      | (with_reducible exact ih0 _ _ _)
      | (with_reducible exact LeO.refl _)
      | (with_reducible exact LeO.none _)
      | (with_reducible refine LeO.ite ?_ ?_)
      | (with_reducible refine LeO.bind ?_ (fun _ => ?_))
      | exact ih0 _ _ _
      | exact LeO.none _
      | refine LeO.ite ?_ ?_
      | refine LeO.bind ?_ (fun _ => ?_)
theorem outlawlaw01_escaped.mono : ∀ a0 a1 k, LeO (outlawlaw01_escaped.f k a0 a1) (outlawlaw01_escaped.f (k + 1) a0 a1) := by
  intro a0 a1 k
  have ih0 := outlawlaw01_escaped.mono_l k
  unfold outlawlaw01_escaped.f
  repeat' first
      | (with_reducible exact ih0 _ _ _)
      | (with_reducible exact LeO.refl _)
      | (with_reducible exact LeO.none _)
      | (with_reducible refine LeO.ite ?_ ?_)
      | (with_reducible refine LeO.bind ?_ (fun _ => ?_))
      | exact ih0 _ _ _
      | exact LeO.none _
      | refine LeO.ite ?_ ?_
      | refine LeO.bind ?_ (fun _ => ?_)
set_option maxHeartbeats 8000000 in
set_option maxRecDepth 100000 in
theorem outlawlaw01_escaped.calls (k : Nat) (a0 : Int) (a1 : Bool) (r1 : ByteArray) (r2 : Bool) (w : World) (h : outlawlaw01_escaped.f k a0 a1 = some (r1, r2)) :
    Calls Tryd.prog 14 #[.int .i64 a0, .bool a1] w fun e w' => e = .returned (.tuple #[.string r1, .bool r2]) ∧ Below w.heap.size w w' := by
  have HB := Aside0.mk (Below.refl w.heap.size w)
  have H : (if a0 < 0 then (outlawlaw01_escaped.j0 k a0 a1 true) else (if a0 > 1114111 then (outlawlaw01_escaped.j0 k a0 a1 true) else (if a0 ≥ 55296 then (outlawlaw01_escaped.j0 k a0 a1 (decide (a0 ≤ 57343))) else (outlawlaw01_escaped.j0 k a0 a1 false)))) = some (r1, r2) := h
  clear h
  have HC3 := Aside0.mk H
  clear H
  go_enter Tryd.func14, Tryd.ntmps14
  go_upto_region 1 with (fail)
  go_cut [19] (fun v19 wc => ∃ (kq : Nat) (x19_2 : Bool), v19 = .bool x19_2 ∧ Aside0 (outlawlaw01_escaped.j0 kq a0 a1 x19_2 = some (r1, r2)) ∧ Aside0 (kq ≤ k) ∧ Aside0 (Below w.heap.size w wc))
  case first =>
    have H := HC3.out
    clear HC3
    by_cases c4 : a0 < 0
    · rw [if_pos c4] at H
      have c4b0 : decide (a0 < 0) = true := decide_eq_true c4
      clear c4
      (first | rw [c4b0] | (simp only [i64_w, i32_w]; rw [c4b0]) | skip)
      have H' := Aside0.mk H
      clear H
      go_wp2
      all_goals
        go_meet
        case rel => exact ⟨_, (true), (by first | rfl | (simp; done) | (simp [*]; done) | (simp [bneNil_, beqNil_]; done) | (simp [bneNil_, beqNil_, *]; done) | (simp_all; done)), H', ⟨by first | omega | exact Nat.le_refl _⟩, ⟨by repeat (first | (with_reducible first | exact HB.out | apply below_alloc | apply pw_below_drewN | apply below_drew1) | exact HB.out)⟩⟩
    · rw [if_neg c4] at H
      have c4b0 : decide (a0 < 0) = false := decide_eq_false c4
      clear c4
      (first | rw [c4b0] | (simp only [i64_w, i32_w]; rw [c4b0]) | skip)
      by_cases c5 : a0 > 1114111
      · rw [if_pos c5] at H
        have c5b0 : decide (1114111 < a0) = true := decide_eq_true c5
        clear c5
        have H' := Aside0.mk H
        clear H
        go_wp2
        all_goals
          go_meet
          case rel => exact ⟨_, (true), (by first | rfl | (simp; done) | (simp [*]; done) | (simp [bneNil_, beqNil_]; done) | (simp [bneNil_, beqNil_, *]; done) | (simp_all; done)), H', ⟨by first | omega | exact Nat.le_refl _⟩, ⟨by repeat (first | (with_reducible first | exact HB.out | apply below_alloc | apply pw_below_drewN | apply below_drew1) | exact HB.out)⟩⟩
      · rw [if_neg c5] at H
        have c5b0 : decide (1114111 < a0) = false := decide_eq_false c5
        clear c5
        by_cases c6 : a0 ≥ 55296
        · rw [if_pos c6] at H
          have c6b0 : decide (55296 ≤ a0) = true := decide_eq_true c6
          clear c6
          have H' := Aside0.mk H
          clear H
          go_wp2
          all_goals
            go_meet
            case rel => exact ⟨_, (decide (a0 ≤ 57343)), (by first | rfl | (simp; done) | (simp [*]; done) | (simp [bneNil_, beqNil_]; done) | (simp [bneNil_, beqNil_, *]; done) | (simp_all; done)), H', ⟨by first | omega | exact Nat.le_refl _⟩, ⟨by repeat (first | (with_reducible first | exact HB.out | apply below_alloc | apply pw_below_drewN | apply below_drew1) | exact HB.out)⟩⟩
        · rw [if_neg c6] at H
          have c6b0 : decide (55296 ≤ a0) = false := decide_eq_false c6
          clear c6
          have H' := Aside0.mk H
          clear H
          go_wp2
          all_goals
            go_meet
            case rel => exact ⟨_, (false), (by first | rfl | (simp; done) | (simp [*]; done) | (simp [bneNil_, beqNil_]; done) | (simp [bneNil_, beqNil_, *]; done) | (simp_all; done)), H', ⟨by first | omega | exact Nat.le_refl _⟩, ⟨by repeat (first | (with_reducible first | exact HB.out | apply below_alloc | apply pw_below_drewN | apply below_drew1) | exact HB.out)⟩⟩
  case rest =>
    clear HC3
    try clear c1
    try clear p2
    try clear c4
    try clear c4b0
    try clear c5
    try clear c5b0
    try clear c6
    try clear c6b0
    obtain ⟨kq, x19_2, rfl, HA, HJ2, HB⟩ := hcut
    cases kq with
    | zero => exact absurd HA.out (by simp [outlawlaw01_escaped.j0])
    | succ kj2 =>
      have H := HA.out
      clear HA
      simp only [outlawlaw01_escaped.j0] at H
      by_cases c7 : x19_2 = true
      · subst c7
        have H1 : (some ((⟨#[]⟩ : ByteArray), false)) = some (r1, r2) := by rw [if_pos rfl] at H; exact H
        clear H
        have H := H1
        clear H1
        simp only [Option.some.injEq, Prod.mk.injEq] at H
        obtain ⟨rfl, rfl⟩ := H
        go_wp2
        go_ret2
        exact ⟨by first | rfl | (simp [errW_none, errW_some] <;> rfl) | (simp [*, errW_none, errW_some] <;> rfl), by repeat (first | (with_reducible first | exact HB.out | apply below_alloc | apply pw_below_drewN | apply below_drew1) | exact HB.out)⟩
      · replace c7 := Bool.eq_false_iff.mpr c7
        subst c7
        have H1 : (if a0 < 65536 then ((outlawlaw01_digits.f a0 a1).bind fun t136 => (if 3 + t136.size ≤ 9223372036854775807 then (if ((⟨#[34, 92, 117]⟩ : ByteArray) ++ t136).size + 1 ≤ 9223372036854775807 then (some (((⟨#[34, 92, 117]⟩ : ByteArray) ++ t136) ++ (⟨#[34]⟩ : ByteArray), true)) else (none)) else (none))) else ((outlawlaw01_digits.f (wrap64 (55296 + (wrap64 (Int.tdiv (wrap64 (a0 - 65536)) 1024)))) a1).bind fun t137 => (if 3 + t137.size ≤ 9223372036854775807 then (if ((⟨#[34, 92, 117]⟩ : ByteArray) ++ t137).size + 2 ≤ 9223372036854775807 then ((outlawlaw01_digits.f (wrap64 (56320 + (Int.tmod (wrap64 (a0 - 65536)) 1024))) a1).bind fun t138 => (if (((⟨#[34, 92, 117]⟩ : ByteArray) ++ t137) ++ (⟨#[92, 117]⟩ : ByteArray)).size + t138.size ≤ 9223372036854775807 then (if ((((⟨#[34, 92, 117]⟩ : ByteArray) ++ t137) ++ (⟨#[92, 117]⟩ : ByteArray)) ++ t138).size + 1 ≤ 9223372036854775807 then (some (((((⟨#[34, 92, 117]⟩ : ByteArray) ++ t137) ++ (⟨#[92, 117]⟩ : ByteArray)) ++ t138) ++ (⟨#[34]⟩ : ByteArray), true)) else (none)) else (none))) else (none)) else (none)))) = some (r1, r2) := by rw [if_neg (show ¬ (false = true) by decide)] at H; exact H
        clear H
        have H := H1
        clear H1
        by_cases c8 : a0 < 65536
        · rw [if_pos c8] at H
          have c8b0 : decide (a0 < 65536) = true := decide_eq_true c8
          clear c8
          replace H := Option.bind_eq_some_iff.mp H
          obtain ⟨t136, A90, H⟩ := H
          replace H : (if 3 + t136.size ≤ 9223372036854775807 then (if ((⟨#[34, 92, 117]⟩ : ByteArray) ++ t136).size + 1 ≤ 9223372036854775807 then (some (((⟨#[34, 92, 117]⟩ : ByteArray) ++ t136) ++ (⟨#[34]⟩ : ByteArray), true)) else (none)) else (none)) = some (r1, r2) := H
          have A9 := Aside0.mk A90
          clear A90
          by_cases c10 : 3 + t136.size ≤ 9223372036854775807
          · rw [if_pos c10] at H
            have c10b0 := eq_true c10
            have c10b1 : decide (3 + t136.size ≤ 9223372036854775807) = true := decide_eq_true c10
            try have c10b2 : (9223372036854775807 < 3 + t136.size) = False := eq_false (Nat.not_lt.2 c10)
            (try (have c10b2n := c10b2; simp only [ByteArray.size_append, size_one_, size_two_, size_three_] at c10b2n))
            by_cases c11 : ((⟨#[34, 92, 117]⟩ : ByteArray) ++ t136).size + 1 ≤ 9223372036854775807
            · rw [if_pos c11] at H
              have c11b0 := eq_true c11
              have c11b1 : decide (((⟨#[34, 92, 117]⟩ : ByteArray) ++ t136).size + 1 ≤ 9223372036854775807) = true := decide_eq_true c11
              (try (have c11b1n := c11b1; simp only [ByteArray.size_append, Int.natCast_add, size_one_, size_two_, size_three_] at c11b1n))
              try have c11b2 : (9223372036854775807 < ((⟨#[34, 92, 117]⟩ : ByteArray) ++ t136).size + 1) = False := eq_false (Nat.not_lt.2 c11)
              (try (have c11b2n := c11b2; simp only [ByteArray.size_append, size_one_, size_two_, size_three_] at c11b2n))
              (try (have c11b2m : (9223372036854775806 < ((⟨#[34, 92, 117]⟩ : ByteArray) ++ t136).size) = False := eq_false (by have := of_eq_false c11b2; omega); simp only [ByteArray.size_append, size_one_, size_two_, size_three_] at c11b2m))
              simp only [Option.some.injEq, Prod.mk.injEq] at H
              obtain ⟨rfl, rfl⟩ := H
              go_wp2_with (first | ((with_reducible refine gate_callee (f := 15) rfl ?_); refine goesL_ (some 24) rfl rfl Tryd.func15 (by kernel_rfl) rfl #[.int .i64 a0, .bool a1] rfl (by (try simp only [List.map_toArray, List.map_cons, List.map_nil]); first | done | rfl | (simp only [List.length_drop, List.length_take]; rfl)) ?_; (with_reducible refine (outlawlaw01_digits.calls a0 a1 t136 _ A9.out).mono ?_); rintro e w12 ⟨rfl, hb⟩; refine ⟨_, rfl, ?_⟩; have n0_ := Aside0.mk (below_step (by repeat (first | (with_reducible first | exact HB.out | apply below_alloc | apply pw_below_drewN | apply below_drew1) | exact HB.out)) hb); clear HB; have HB := n0_; clear n0_; (try clear hb); (try clear hb2); (try clear hk); (try clear hi)))
              go_ret2
              exact ⟨by first | rfl | (simp [errW_none, errW_some] <;> rfl) | (simp [*, errW_none, errW_some] <;> rfl), by repeat (first | (with_reducible first | exact HB.out | apply below_alloc | apply pw_below_drewN | apply below_drew1) | exact HB.out)⟩
            · rw [if_neg c11] at H
              exact absurd H (by simp)
          · rw [if_neg c10] at H
            exact absurd H (by simp)
        · rw [if_neg c8] at H
          have c8b0 : decide (a0 < 65536) = false := decide_eq_false c8
          clear c8
          replace H := Option.bind_eq_some_iff.mp H
          obtain ⟨t137, A130, H⟩ := H
          replace H : (if 3 + t137.size ≤ 9223372036854775807 then (if ((⟨#[34, 92, 117]⟩ : ByteArray) ++ t137).size + 2 ≤ 9223372036854775807 then ((outlawlaw01_digits.f (wrap64 (56320 + (Int.tmod (wrap64 (a0 - 65536)) 1024))) a1).bind fun t138 => (if (((⟨#[34, 92, 117]⟩ : ByteArray) ++ t137) ++ (⟨#[92, 117]⟩ : ByteArray)).size + t138.size ≤ 9223372036854775807 then (if ((((⟨#[34, 92, 117]⟩ : ByteArray) ++ t137) ++ (⟨#[92, 117]⟩ : ByteArray)) ++ t138).size + 1 ≤ 9223372036854775807 then (some (((((⟨#[34, 92, 117]⟩ : ByteArray) ++ t137) ++ (⟨#[92, 117]⟩ : ByteArray)) ++ t138) ++ (⟨#[34]⟩ : ByteArray), true)) else (none)) else (none))) else (none)) else (none)) = some (r1, r2) := H
          have A13 := Aside0.mk A130
          clear A130
          by_cases c14 : 3 + t137.size ≤ 9223372036854775807
          · rw [if_pos c14] at H
            have c14b0 := eq_true c14
            have c14b1 : decide (3 + t137.size ≤ 9223372036854775807) = true := decide_eq_true c14
            try have c14b2 : (9223372036854775807 < 3 + t137.size) = False := eq_false (Nat.not_lt.2 c14)
            (try (have c14b2n := c14b2; simp only [ByteArray.size_append, size_one_, size_two_, size_three_] at c14b2n))
            by_cases c15 : ((⟨#[34, 92, 117]⟩ : ByteArray) ++ t137).size + 2 ≤ 9223372036854775807
            · rw [if_pos c15] at H
              have c15b0 := eq_true c15
              have c15b1 : decide (((⟨#[34, 92, 117]⟩ : ByteArray) ++ t137).size + 2 ≤ 9223372036854775807) = true := decide_eq_true c15
              (try (have c15b1n := c15b1; simp only [ByteArray.size_append, Int.natCast_add, size_one_, size_two_, size_three_] at c15b1n))
              try have c15b2 : (9223372036854775807 < ((⟨#[34, 92, 117]⟩ : ByteArray) ++ t137).size + 2) = False := eq_false (Nat.not_lt.2 c15)
              (try (have c15b2n := c15b2; simp only [ByteArray.size_append, size_one_, size_two_, size_three_] at c15b2n))
              (try (have c15b2m : (9223372036854775805 < ((⟨#[34, 92, 117]⟩ : ByteArray) ++ t137).size) = False := eq_false (by have := of_eq_false c15b2; omega); simp only [ByteArray.size_append, size_one_, size_two_, size_three_] at c15b2m))
              replace H := Option.bind_eq_some_iff.mp H
              obtain ⟨t138, A160, H⟩ := H
              replace H : (if (((⟨#[34, 92, 117]⟩ : ByteArray) ++ t137) ++ (⟨#[92, 117]⟩ : ByteArray)).size + t138.size ≤ 9223372036854775807 then (if ((((⟨#[34, 92, 117]⟩ : ByteArray) ++ t137) ++ (⟨#[92, 117]⟩ : ByteArray)) ++ t138).size + 1 ≤ 9223372036854775807 then (some (((((⟨#[34, 92, 117]⟩ : ByteArray) ++ t137) ++ (⟨#[92, 117]⟩ : ByteArray)) ++ t138) ++ (⟨#[34]⟩ : ByteArray), true)) else (none)) else (none)) = some (r1, r2) := H
              have A16 := Aside0.mk A160
              clear A160
              by_cases c17 : (((⟨#[34, 92, 117]⟩ : ByteArray) ++ t137) ++ (⟨#[92, 117]⟩ : ByteArray)).size + t138.size ≤ 9223372036854775807
              · rw [if_pos c17] at H
                have c17b0 := eq_true c17
                have c17b1 : decide ((((⟨#[34, 92, 117]⟩ : ByteArray) ++ t137) ++ (⟨#[92, 117]⟩ : ByteArray)).size + t138.size ≤ 9223372036854775807) = true := decide_eq_true c17
                (try (have c17b1n := c17b1; simp only [ByteArray.size_append, Int.natCast_add, size_one_, size_two_, size_three_] at c17b1n))
                try have c17b2 : (9223372036854775807 < (((⟨#[34, 92, 117]⟩ : ByteArray) ++ t137) ++ (⟨#[92, 117]⟩ : ByteArray)).size + t138.size) = False := eq_false (Nat.not_lt.2 c17)
                (try (have c17b2n := c17b2; simp only [ByteArray.size_append, size_one_, size_two_, size_three_] at c17b2n))
                by_cases c18 : ((((⟨#[34, 92, 117]⟩ : ByteArray) ++ t137) ++ (⟨#[92, 117]⟩ : ByteArray)) ++ t138).size + 1 ≤ 9223372036854775807
                · rw [if_pos c18] at H
                  have c18b0 := eq_true c18
                  have c18b1 : decide (((((⟨#[34, 92, 117]⟩ : ByteArray) ++ t137) ++ (⟨#[92, 117]⟩ : ByteArray)) ++ t138).size + 1 ≤ 9223372036854775807) = true := decide_eq_true c18
                  (try (have c18b1n := c18b1; simp only [ByteArray.size_append, Int.natCast_add, size_one_, size_two_, size_three_] at c18b1n))
                  try have c18b2 : (9223372036854775807 < ((((⟨#[34, 92, 117]⟩ : ByteArray) ++ t137) ++ (⟨#[92, 117]⟩ : ByteArray)) ++ t138).size + 1) = False := eq_false (Nat.not_lt.2 c18)
                  (try (have c18b2n := c18b2; simp only [ByteArray.size_append, size_one_, size_two_, size_three_] at c18b2n))
                  (try (have c18b2m : (9223372036854775806 < ((((⟨#[34, 92, 117]⟩ : ByteArray) ++ t137) ++ (⟨#[92, 117]⟩ : ByteArray)) ++ t138).size) = False := eq_false (by have := of_eq_false c18b2; omega); simp only [ByteArray.size_append, size_one_, size_two_, size_three_] at c18b2m))
                  simp only [Option.some.injEq, Prod.mk.injEq] at H
                  obtain ⟨rfl, rfl⟩ := H
                  go_wp2_with (first | ((with_reducible refine gate_callee (f := 15) rfl ?_); refine goesL_ (some 33) rfl rfl Tryd.func15 (by kernel_rfl) rfl #[.int .i64 (wrap64 (55296 + (wrap64 (Int.tdiv (wrap64 (a0 - 65536)) 1024)))), .bool a1] rfl (by (try simp only [List.map_toArray, List.map_cons, List.map_nil]); first | done | rfl | (simp only [List.length_drop, List.length_take]; rfl)) ?_; (with_reducible refine (outlawlaw01_digits.calls (wrap64 (55296 + (wrap64 (Int.tdiv (wrap64 (a0 - 65536)) 1024)))) a1 t137 _ A13.out).mono ?_); rintro e w19 ⟨rfl, hb⟩; refine ⟨_, rfl, ?_⟩; have n0_ := Aside0.mk (below_step (by repeat (first | (with_reducible first | exact HB.out | apply below_alloc | apply pw_below_drewN | apply below_drew1) | exact HB.out)) hb); clear HB; have HB := n0_; clear n0_; (try clear hb); (try clear hb2); (try clear hk); (try clear hi)) | ((with_reducible refine gate_callee (f := 15) rfl ?_); refine goesL_ (some 40) rfl rfl Tryd.func15 (by kernel_rfl) rfl #[.int .i64 (wrap64 (56320 + (Int.tmod (wrap64 (a0 - 65536)) 1024))), .bool a1] rfl (by (try simp only [List.map_toArray, List.map_cons, List.map_nil]); first | done | rfl | (simp only [List.length_drop, List.length_take]; rfl)) ?_; (with_reducible refine (outlawlaw01_digits.calls (wrap64 (56320 + (Int.tmod (wrap64 (a0 - 65536)) 1024))) a1 t138 _ A16.out).mono ?_); rintro e w20 ⟨rfl, hb⟩; refine ⟨_, rfl, ?_⟩; have n0_ := Aside0.mk (below_step (by repeat (first | (with_reducible first | exact HB.out | apply below_alloc | apply pw_below_drewN | apply below_drew1) | exact HB.out)) hb); clear HB; have HB := n0_; clear n0_; (try clear hb); (try clear hb2); (try clear hk); (try clear hi)))
                  go_ret2
                  exact ⟨by first | rfl | (simp [errW_none, errW_some] <;> rfl) | (simp [*, errW_none, errW_some] <;> rfl), by repeat (first | (with_reducible first | exact HB.out | apply below_alloc | apply pw_below_drewN | apply below_drew1) | exact HB.out)⟩
                · rw [if_neg c18] at H
                  exact absurd H (by simp)
              · rw [if_neg c17] at H
                exact absurd H (by simp)
            · rw [if_neg c15] at H
              exact absurd H (by simp)
          · rw [if_neg c14] at H
            exact absurd H (by simp)

end Go.Proofs.YtfmenojhojmedaaDoor.PA
