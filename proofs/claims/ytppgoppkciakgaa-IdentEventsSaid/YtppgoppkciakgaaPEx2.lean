-- Written by a program of this session (gprint.py, a turned print with given contracts).
import Derived.Test.YtppgoppkciakgaaPEx0
import Derived.Test.YtppgoppkciakgaaPEx1
namespace Go.Proofs.Ytppgoppkciakgaa.PE
open Go.RowKit Go.Proofs.YtppgoppkciakgaaW.PrintWords Go.Proofs.YtppgoppkciakgaaW.PrintLast Go.Proofs.YtppgoppkciakgaaW.PrintMore Go.Proofs.YtppgoppkciakgaaG Go.Proofs.YtppgoppkciakgaaX
attribute [local go_sem] max2_int min2_int max_two min_two max_three min_three max_four min_four   -- for this text's walks alone
set_option linter.unusedVariables false
set_option linter.unusedSimpArgs false

/-! ### outlawlaw04_IdentEvents: function 7 -/
mutual
def outlawlaw04_IdentEvents.j0 : Nat → ByteArray → ByteArray → Int → Int → Bool → Option (Bool)
  | 0, _, _, _, _, _ => none
  | k + 1, x0, x1, x2, x3, x22 => if x22 = true then (some true) else (if 1 + x0.size ≤ 9223372036854775807 then ((ident_EventID.f ((⟨#[36]⟩ : ByteArray) ++ x0)).bind fun t109 => (if 1 + x1.size ≤ 9223372036854775807 then ((ident_EventID.f ((⟨#[36]⟩ : ByteArray) ++ x1)).bind fun t110 => (if t109 = true then (if t110 = true then (if ((⟨#[36]⟩ : ByteArray) ++ x0).size + x1.size ≤ 9223372036854775807 then ((ident_EventID.f (((⟨#[36]⟩ : ByteArray) ++ x0) ++ x1)).bind fun t111 => (outlawlaw04_IdentEvents.j1 k x0 x1 x2 x3 t109 (t111 != (decide ((wrap64 ((x0.size : Int) + (x1.size : Int))) ≤ 64))))) else (none)) else (outlawlaw04_IdentEvents.j1 k x0 x1 x2 x3 t109 false)) else (outlawlaw04_IdentEvents.j1 k x0 x1 x2 x3 t109 false))) else (none))) else (none))
def outlawlaw04_IdentEvents.j1 : Nat → ByteArray → ByteArray → Int → Int → Bool → Bool → Option (Bool)
  | 0, _, _, _, _, _, _ => none
  | k + 1, x0, x1, x2, x3, x9, x46 => if x46 = true then (some false) else (if x9 = true then (if x2 ≥ 97 then (if x2 ≤ 122 then (outlawlaw04_IdentEvents.j2 k x0 x2 x3 true) else (if x2 ≥ 65 then (if x2 ≤ 90 then (outlawlaw04_IdentEvents.j2 k x0 x2 x3 true) else (if x2 ≥ 48 then (if x2 ≤ 57 then (outlawlaw04_IdentEvents.j2 k x0 x2 x3 true) else (if x2 = 95 then (outlawlaw04_IdentEvents.j2 k x0 x2 x3 true) else (if x2 = 45 then (outlawlaw04_IdentEvents.j2 k x0 x2 x3 true) else (if x2 = 46 then (outlawlaw04_IdentEvents.j2 k x0 x2 x3 true) else (if x2 = 126 then (outlawlaw04_IdentEvents.j2 k x0 x2 x3 true) else (outlawlaw04_IdentEvents.j2 k x0 x2 x3 (x2 == 47))))))) else (if x2 = 95 then (outlawlaw04_IdentEvents.j2 k x0 x2 x3 true) else (if x2 = 45 then (outlawlaw04_IdentEvents.j2 k x0 x2 x3 true) else (if x2 = 46 then (outlawlaw04_IdentEvents.j2 k x0 x2 x3 true) else (if x2 = 126 then (outlawlaw04_IdentEvents.j2 k x0 x2 x3 true) else (outlawlaw04_IdentEvents.j2 k x0 x2 x3 (x2 == 47)))))))) else (if x2 ≥ 48 then (if x2 ≤ 57 then (outlawlaw04_IdentEvents.j2 k x0 x2 x3 true) else (if x2 = 95 then (outlawlaw04_IdentEvents.j2 k x0 x2 x3 true) else (if x2 = 45 then (outlawlaw04_IdentEvents.j2 k x0 x2 x3 true) else (if x2 = 46 then (outlawlaw04_IdentEvents.j2 k x0 x2 x3 true) else (if x2 = 126 then (outlawlaw04_IdentEvents.j2 k x0 x2 x3 true) else (outlawlaw04_IdentEvents.j2 k x0 x2 x3 (x2 == 47))))))) else (if x2 = 95 then (outlawlaw04_IdentEvents.j2 k x0 x2 x3 true) else (if x2 = 45 then (outlawlaw04_IdentEvents.j2 k x0 x2 x3 true) else (if x2 = 46 then (outlawlaw04_IdentEvents.j2 k x0 x2 x3 true) else (if x2 = 126 then (outlawlaw04_IdentEvents.j2 k x0 x2 x3 true) else (outlawlaw04_IdentEvents.j2 k x0 x2 x3 (x2 == 47))))))))) else (if x2 ≥ 65 then (if x2 ≤ 90 then (outlawlaw04_IdentEvents.j2 k x0 x2 x3 true) else (if x2 ≥ 48 then (if x2 ≤ 57 then (outlawlaw04_IdentEvents.j2 k x0 x2 x3 true) else (if x2 = 95 then (outlawlaw04_IdentEvents.j2 k x0 x2 x3 true) else (if x2 = 45 then (outlawlaw04_IdentEvents.j2 k x0 x2 x3 true) else (if x2 = 46 then (outlawlaw04_IdentEvents.j2 k x0 x2 x3 true) else (if x2 = 126 then (outlawlaw04_IdentEvents.j2 k x0 x2 x3 true) else (outlawlaw04_IdentEvents.j2 k x0 x2 x3 (x2 == 47))))))) else (if x2 = 95 then (outlawlaw04_IdentEvents.j2 k x0 x2 x3 true) else (if x2 = 45 then (outlawlaw04_IdentEvents.j2 k x0 x2 x3 true) else (if x2 = 46 then (outlawlaw04_IdentEvents.j2 k x0 x2 x3 true) else (if x2 = 126 then (outlawlaw04_IdentEvents.j2 k x0 x2 x3 true) else (outlawlaw04_IdentEvents.j2 k x0 x2 x3 (x2 == 47)))))))) else (if x2 ≥ 48 then (if x2 ≤ 57 then (outlawlaw04_IdentEvents.j2 k x0 x2 x3 true) else (if x2 = 95 then (outlawlaw04_IdentEvents.j2 k x0 x2 x3 true) else (if x2 = 45 then (outlawlaw04_IdentEvents.j2 k x0 x2 x3 true) else (if x2 = 46 then (outlawlaw04_IdentEvents.j2 k x0 x2 x3 true) else (if x2 = 126 then (outlawlaw04_IdentEvents.j2 k x0 x2 x3 true) else (outlawlaw04_IdentEvents.j2 k x0 x2 x3 (x2 == 47))))))) else (if x2 = 95 then (outlawlaw04_IdentEvents.j2 k x0 x2 x3 true) else (if x2 = 45 then (outlawlaw04_IdentEvents.j2 k x0 x2 x3 true) else (if x2 = 46 then (outlawlaw04_IdentEvents.j2 k x0 x2 x3 true) else (if x2 = 126 then (outlawlaw04_IdentEvents.j2 k x0 x2 x3 true) else (outlawlaw04_IdentEvents.j2 k x0 x2 x3 (x2 == 47))))))))) else (if 1 + x0.size ≤ 9223372036854775807 then (if ((⟨#[36]⟩ : ByteArray) ++ x0).size + x1.size ≤ 9223372036854775807 then ((ident_EventID.f (((⟨#[36]⟩ : ByteArray) ++ x0) ++ x1)).bind fun t112 => (if t112 = true then (some (x0.toList == ([] : List UInt8))) else (some true))) else (none)) else (none)))
def outlawlaw04_IdentEvents.j2 : Nat → ByteArray → Int → Int → Bool → Option (Bool)
  | 0, _, _, _, _ => none
  | k + 1, x0, x2, x3, x11 => (outlawkit_Pick.f x3 (x0.size : Int)).bind fun t113 => (if 0 ≤ t113 then (if t113 ≤ (x0.size : Int) then (if 1 + (x0.extract 0 (t113 : Int).toNat).size ≤ 9223372036854775807 then ((some (([x2] : List Int) : List Int)).bind fun y114 => (if ((⟨#[36]⟩ : ByteArray) ++ (x0.extract 0 (t113 : Int).toNat)).size + (strOfNums y114).size ≤ 9223372036854775807 then (if 0 ≤ (wrap64 (t113 + 1)) then (if (wrap64 (t113 + 1)) ≤ (x0.size : Int) then (if (((⟨#[36]⟩ : ByteArray) ++ (x0.extract 0 (t113 : Int).toNat)) ++ (strOfNums y114)).size + (x0.extract ((wrap64 (t113 + 1)) : Int).toNat x0.size).size ≤ 9223372036854775807 then ((ident_EventID.f ((((⟨#[36]⟩ : ByteArray) ++ (x0.extract 0 (t113 : Int).toNat)) ++ (strOfNums y114)) ++ (x0.extract ((wrap64 (t113 + 1)) : Int).toNat x0.size))).bind fun t117 => (some (t117 == x11))) else (none)) else (none)) else (none)) else (none))) else (none)) else (none)) else (none))
end
def outlawlaw04_IdentEvents.f (k : Nat) (a0 : ByteArray) (a1 : ByteArray) (a2 : Int) (a3 : Int) : Option (Bool) := (outlawlaw04_lives.f).bind fun t108 => (if t108 = true then (if (a0.size : Int) > 200 then (outlawlaw04_IdentEvents.j0 k a0 a1 a2 a3 true) else (outlawlaw04_IdentEvents.j0 k a0 a1 a2 a3 (decide ((a1.size : Int) > 200)))) else (some false))
theorem outlawlaw04_IdentEvents.mono_l : ∀ k, (∀ y0 y1 y2 y3 y4, LeO (outlawlaw04_IdentEvents.j0 k y0 y1 y2 y3 y4) (outlawlaw04_IdentEvents.j0 (k + 1) y0 y1 y2 y3 y4)) ∧ (∀ y0 y1 y2 y3 y4 y5, LeO (outlawlaw04_IdentEvents.j1 k y0 y1 y2 y3 y4 y5) (outlawlaw04_IdentEvents.j1 (k + 1) y0 y1 y2 y3 y4 y5)) ∧ (∀ y0 y1 y2 y3, LeO (outlawlaw04_IdentEvents.j2 k y0 y1 y2 y3) (outlawlaw04_IdentEvents.j2 (k + 1) y0 y1 y2 y3))
  | 0 => ⟨fun _ _ _ _ _ r h => by simp [outlawlaw04_IdentEvents.j0] at h, fun _ _ _ _ _ _ r h => by simp [outlawlaw04_IdentEvents.j1] at h, fun _ _ _ _ r h => by simp [outlawlaw04_IdentEvents.j2] at h⟩
  | k + 1 => by
    obtain ⟨ih0, ih1, ih2⟩ := outlawlaw04_IdentEvents.mono_l k
    refine ⟨?_, ?_, ?_⟩
    · intro y0 y1 y2 y3 y4
      unfold outlawlaw04_IdentEvents.j0
      repeat' first
      | (with_reducible exact ih0 _ _ _ _ _)
      | (with_reducible exact ih1 _ _ _ _ _ _)
      | (with_reducible exact ih2 _ _ _ _)
      | (with_reducible exact LeO.refl _)
      | (with_reducible exact LeO.none _)
      | (with_reducible refine LeO.ite ?_ ?_)
      | (with_reducible refine LeO.bind ?_ (fun _ => ?_))
      | exact ih0 _ _ _ _ _
      | exact ih1 _ _ _ _ _ _
      | exact ih2 _ _ _ _
      | exact LeO.none _
      | refine LeO.ite ?_ ?_
      | refine LeO.bind ?_ (fun _ => ?_)
    · intro y0 y1 y2 y3 y4 y5
      unfold outlawlaw04_IdentEvents.j1
      repeat' first
      | (with_reducible exact ih0 _ _ _ _ _)
      | (with_reducible exact ih1 _ _ _ _ _ _)
      | (with_reducible exact ih2 _ _ _ _)
      | (with_reducible exact LeO.refl _)
      | (with_reducible exact LeO.none _)
      | (with_reducible refine LeO.ite ?_ ?_)
      | (with_reducible refine LeO.bind ?_ (fun _ => ?_))
      | exact ih0 _ _ _ _ _
      | exact ih1 _ _ _ _ _ _
      | exact ih2 _ _ _ _
      | exact LeO.none _
      | refine LeO.ite ?_ ?_
      | refine LeO.bind ?_ (fun _ => ?_)
    · intro y0 y1 y2 y3
      unfold outlawlaw04_IdentEvents.j2
      repeat' first
      | (with_reducible exact ih0 _ _ _ _ _)
      | (with_reducible exact ih1 _ _ _ _ _ _)
      | (with_reducible exact ih2 _ _ _ _)
      | (with_reducible exact LeO.refl _)
      | (with_reducible exact LeO.none _)
      | (with_reducible refine LeO.ite ?_ ?_)
      | (with_reducible refine LeO.bind ?_ (fun _ => ?_))
      | exact ih0 _ _ _ _ _
      | exact ih1 _ _ _ _ _ _
      | exact ih2 _ _ _ _
      | exact LeO.none _
      | refine LeO.ite ?_ ?_
      | refine LeO.bind ?_ (fun _ => ?_)
theorem outlawlaw04_IdentEvents.mono : ∀ a0 a1 a2 a3 k, LeO (outlawlaw04_IdentEvents.f k a0 a1 a2 a3) (outlawlaw04_IdentEvents.f (k + 1) a0 a1 a2 a3) := by
  intro a0 a1 a2 a3 k
  obtain ⟨ih0, ih1, ih2⟩ := outlawlaw04_IdentEvents.mono_l k
  unfold outlawlaw04_IdentEvents.f
  repeat' first
      | (with_reducible exact ih0 _ _ _ _ _)
      | (with_reducible exact ih1 _ _ _ _ _ _)
      | (with_reducible exact ih2 _ _ _ _)
      | (with_reducible exact LeO.refl _)
      | (with_reducible exact LeO.none _)
      | (with_reducible refine LeO.ite ?_ ?_)
      | (with_reducible refine LeO.bind ?_ (fun _ => ?_))
      | exact ih0 _ _ _ _ _
      | exact ih1 _ _ _ _ _ _
      | exact ih2 _ _ _ _
      | exact LeO.none _
      | refine LeO.ite ?_ ?_
      | refine LeO.bind ?_ (fun _ => ?_)
def outlawlaw04_IdentEvents.T12 : Bool × List (List Nat × List Nat) := (true, [([], []), ([], []), ([0, 1], [0, 1]), ([2], [2]), ([], []), ([4], [4]), ([5], [5]), ([3, 6], [3, 6]), ([], []), ([], []), ([9], [9]), ([8, 10], [8, 10]), ([7, 11], [7, 11]), ([12], [12]), ([], []), ([13, 14], [13, 14]), ([15, 13, 0, 1, 2, 3, 4, 5, 6, 7, 8, 9, 10, 11, 12, 13, 14, 15], [15])])
def outlawlaw04_IdentEvents.B12 : List Nat := [0, 0, 3, 7, 0, 16, 48, 127, 0, 0, 512, 1792, 4095, 8191, 0, 32767, 65535]
theorem outlawlaw04_IdentEvents.tab12 : rtab .any (opsOf Try.f7 12) = outlawlaw04_IdentEvents.T12 := by kernel_rfl
theorem outlawlaw04_IdentEvents.bits12 : waitsOk outlawlaw04_IdentEvents.T12.2 outlawlaw04_IdentEvents.B12 = true := by kernel_rfl
set_option maxHeartbeats 8000000 in
set_option maxRecDepth 100000 in
theorem outlawlaw04_IdentEvents.calls (k : Nat) (a0 : ByteArray) (a1 : ByteArray) (a2 : Int) (a3 : Int) (r : Bool) (w : World) (h : outlawlaw04_IdentEvents.f k a0 a1 a2 a3 = some r) :
    Calls Try.prog 7 #[.string a0, .string a1, .int .u8 a2, .int .i64 a3] w fun e w' => e = .returned (.bool r) ∧ Below w.heap.size w w' := by
  have HB := Aside0.mk (Below.refl w.heap.size w)
  have H : ((outlawlaw04_lives.f).bind fun t108 => (if t108 = true then (if (a0.size : Int) > 200 then (outlawlaw04_IdentEvents.j0 k a0 a1 a2 a3 true) else (outlawlaw04_IdentEvents.j0 k a0 a1 a2 a3 (decide ((a1.size : Int) > 200)))) else (some false))) = some r := h
  clear h
  replace H := Option.bind_eq_some_iff.mp H
  obtain ⟨t108, A50, H⟩ := H
  replace H : (if t108 = true then (if (a0.size : Int) > 200 then (outlawlaw04_IdentEvents.j0 k a0 a1 a2 a3 true) else (outlawlaw04_IdentEvents.j0 k a0 a1 a2 a3 (decide ((a1.size : Int) > 200)))) else (some false)) = some r := H
  have A5 := Aside0.mk A50
  clear A50
  by_cases c6 : t108 = true
  · subst c6
    have H1 : (if (a0.size : Int) > 200 then (outlawlaw04_IdentEvents.j0 k a0 a1 a2 a3 true) else (outlawlaw04_IdentEvents.j0 k a0 a1 a2 a3 (decide ((a1.size : Int) > 200)))) = some r := by rw [if_pos rfl] at H; exact H
    clear H
    have H := H1
    clear H1
    have HC7 := Aside0.mk H
    clear H
    go_enter Try.func7, Try.ntmps7
    go_upto_region 3 with (first | ((with_reducible refine gate_callee (f := 8) rfl ?_); refine goesL_ (some 13) rfl rfl Try.func8 (by kernel_rfl) rfl #[] rfl (by (try simp only [List.map_toArray, List.map_cons, List.map_nil]); first | done | rfl | (simp only [List.length_drop, List.length_take]; rfl)) ?_; (with_reducible refine (outlawlaw04_lives.calls  true _ A5.out).mono ?_); rintro e w8 ⟨rfl, hb⟩; refine ⟨_, rfl, ?_⟩; have n0_ := Aside0.mk (below_step (by repeat (first | (with_reducible first | exact HB.out | apply below_alloc | apply pw_below_drewN | apply below_drew1) | exact HB.out)) hb); clear HB; have HB := n0_; clear n0_; (try clear hb); (try clear hb2); (try clear hk); (try clear hi)))
    (try simp only [Act.put, List.setIfInBounds_toArray, List.set_cons_zero, List.set_cons_succ])
    go_cut [22] (fun v22 wc => ∃ (kq : Nat) (x22_6 : Bool), v22 = .bool x22_6 ∧ Aside0 (outlawlaw04_IdentEvents.j0 kq a0 a1 a2 a3 x22_6 = some r) ∧ Aside0 (kq ≤ k) ∧ Aside0 (Below w.heap.size w wc))
    case first =>
      have H := HC7.out
      clear HC7
      by_cases c9 : (a0.size : Int) > 200
      · rw [if_pos c9] at H
        have c9b0 : decide (200 < (a0.size : Int)) = true := decide_eq_true c9
        have c9b1 : decide (200 < a0.size) = true := decide_eq_true (by omega)
        clear c9
        (first | rw [c9b0] | (simp only [i64_w, i32_w]; rw [c9b0]) | skip)
        have H' := Aside0.mk H
        clear H
        go_wp2
        go_meet
        case rel => exact ⟨_, (true), (by first | rfl | (simp; done) | (simp [*]; done) | (simp [bneNil_, beqNil_]; done) | (simp [bneNil_, beqNil_, *]; done)), H', ⟨by first | omega | exact Nat.le_refl _⟩, ⟨by repeat (first | (with_reducible first | exact HB.out | apply below_alloc | apply pw_below_drewN | apply below_drew1) | exact HB.out)⟩⟩
      · rw [if_neg c9] at H
        have c9b0 : decide (200 < (a0.size : Int)) = false := decide_eq_false c9
        have c9b1 : decide (200 < a0.size) = false := decide_eq_false (by omega)
        clear c9
        (first | rw [c9b0] | (simp only [i64_w, i32_w]; rw [c9b0]) | skip)
        have H' := Aside0.mk H
        clear H
        go_wp2
        go_meet
        case rel => exact ⟨_, (decide ((a1.size : Int) > 200)), (by first | rfl | (simp; done) | (simp [*]; done) | (simp [bneNil_, beqNil_]; done) | (simp [bneNil_, beqNil_, *]; done)), H', ⟨by first | omega | exact Nat.le_refl _⟩, ⟨by repeat (first | (with_reducible first | exact HB.out | apply below_alloc | apply pw_below_drewN | apply below_drew1) | exact HB.out)⟩⟩
    case rest =>
      clear HC7
      try clear p2
      try clear c6
      try clear c7
      try clear c8
      try clear c9
      try clear c9b0
      try clear c9b1
      obtain ⟨kq, x22_6, rfl, HA, HJ6, HB⟩ := hcut
      cases kq with
      | zero => exact absurd HA.out (by simp [outlawlaw04_IdentEvents.j0])
      | succ kj6 =>
        have H := HA.out
        clear HA
        simp only [outlawlaw04_IdentEvents.j0] at H
        by_cases c10 : x22_6 = true
        · subst c10
          have H1 : (some true) = some r := by rw [if_pos rfl] at H; exact H
          clear H
          have H := H1
          clear H1
          obtain rfl := Option.some.inj H
          go_wp2
          go_ret
          exact ⟨by first | rfl | (simp [errW_none, errW_some] <;> rfl) | (simp [*, errW_none, errW_some] <;> rfl), by repeat (first | (with_reducible first | exact HB.out | apply below_alloc | apply pw_below_drewN | apply below_drew1) | exact HB.out)⟩
        · replace c10 := Bool.eq_false_iff.mpr c10
          subst c10
          have H1 : (if 1 + a0.size ≤ 9223372036854775807 then ((ident_EventID.f ((⟨#[36]⟩ : ByteArray) ++ a0)).bind fun t109 => (if 1 + a1.size ≤ 9223372036854775807 then ((ident_EventID.f ((⟨#[36]⟩ : ByteArray) ++ a1)).bind fun t110 => (if t109 = true then (if t110 = true then (if ((⟨#[36]⟩ : ByteArray) ++ a0).size + a1.size ≤ 9223372036854775807 then ((ident_EventID.f (((⟨#[36]⟩ : ByteArray) ++ a0) ++ a1)).bind fun t111 => (outlawlaw04_IdentEvents.j1 kj6 a0 a1 a2 a3 t109 (t111 != (decide ((wrap64 ((a0.size : Int) + (a1.size : Int))) ≤ 64))))) else (none)) else (outlawlaw04_IdentEvents.j1 kj6 a0 a1 a2 a3 t109 false)) else (outlawlaw04_IdentEvents.j1 kj6 a0 a1 a2 a3 t109 false))) else (none))) else (none)) = some r := by rw [if_neg (show ¬ (false = true) by decide)] at H; exact H
          clear H
          have H := H1
          clear H1
          by_cases c11 : 1 + a0.size ≤ 9223372036854775807
          · rw [if_pos c11] at H
            have c11b0 := eq_true c11
            have c11b1 : decide (1 + a0.size ≤ 9223372036854775807) = true := decide_eq_true c11
            try have c11b2 : (9223372036854775807 < 1 + a0.size) = False := eq_false (Nat.not_lt.2 c11)
            replace H := Option.bind_eq_some_iff.mp H
            obtain ⟨t109, A120, H⟩ := H
            replace H : (if 1 + a1.size ≤ 9223372036854775807 then ((ident_EventID.f ((⟨#[36]⟩ : ByteArray) ++ a1)).bind fun t110 => (if t109 = true then (if t110 = true then (if ((⟨#[36]⟩ : ByteArray) ++ a0).size + a1.size ≤ 9223372036854775807 then ((ident_EventID.f (((⟨#[36]⟩ : ByteArray) ++ a0) ++ a1)).bind fun t111 => (outlawlaw04_IdentEvents.j1 kj6 a0 a1 a2 a3 t109 (t111 != (decide ((wrap64 ((a0.size : Int) + (a1.size : Int))) ≤ 64))))) else (none)) else (outlawlaw04_IdentEvents.j1 kj6 a0 a1 a2 a3 t109 false)) else (outlawlaw04_IdentEvents.j1 kj6 a0 a1 a2 a3 t109 false))) else (none)) = some r := H
            have A12 := Aside0.mk A120
            clear A120
            by_cases c13 : 1 + a1.size ≤ 9223372036854775807
            · rw [if_pos c13] at H
              have c13b0 := eq_true c13
              have c13b1 : decide (1 + a1.size ≤ 9223372036854775807) = true := decide_eq_true c13
              try have c13b2 : (9223372036854775807 < 1 + a1.size) = False := eq_false (Nat.not_lt.2 c13)
              replace H := Option.bind_eq_some_iff.mp H
              obtain ⟨t110, A140, H⟩ := H
              replace H : (if t109 = true then (if t110 = true then (if ((⟨#[36]⟩ : ByteArray) ++ a0).size + a1.size ≤ 9223372036854775807 then ((ident_EventID.f (((⟨#[36]⟩ : ByteArray) ++ a0) ++ a1)).bind fun t111 => (outlawlaw04_IdentEvents.j1 kj6 a0 a1 a2 a3 t109 (t111 != (decide ((wrap64 ((a0.size : Int) + (a1.size : Int))) ≤ 64))))) else (none)) else (outlawlaw04_IdentEvents.j1 kj6 a0 a1 a2 a3 t109 false)) else (outlawlaw04_IdentEvents.j1 kj6 a0 a1 a2 a3 t109 false)) = some r := H
              have A14 := Aside0.mk A140
              clear A140
              have HC15 := Aside0.mk H
              clear H
              go_upto_region 6 with (first | ((with_reducible refine gate_callee (f := 19) rfl ?_); refine goesL_ (some 25) rfl rfl Try.func19 (by kernel_rfl) rfl #[.string ((⟨#[36]⟩ : ByteArray) ++ a0)] rfl (by (try simp only [List.map_toArray, List.map_cons, List.map_nil]); first | done | rfl | (simp only [List.length_drop, List.length_take]; rfl)) ?_; (with_reducible refine (ident_EventID.calls ((⟨#[36]⟩ : ByteArray) ++ a0) t109 _ A12.out).mono ?_); rintro e w16 ⟨rfl, hb⟩; refine ⟨_, rfl, ?_⟩; have n0_ := Aside0.mk (below_step (by repeat (first | (with_reducible first | exact HB.out | apply below_alloc | apply pw_below_drewN | apply below_drew1) | exact HB.out)) hb); clear HB; have HB := n0_; clear n0_; (try clear hb); (try clear hb2); (try clear hk); (try clear hi)) | ((with_reducible refine gate_callee (f := 19) rfl ?_); refine goesL_ (some 28) rfl rfl Try.func19 (by kernel_rfl) rfl #[.string ((⟨#[36]⟩ : ByteArray) ++ a1)] rfl (by (try simp only [List.map_toArray, List.map_cons, List.map_nil]); first | done | rfl | (simp only [List.length_drop, List.length_take]; rfl)) ?_; (with_reducible refine (ident_EventID.calls ((⟨#[36]⟩ : ByteArray) ++ a1) t110 _ A14.out).mono ?_); rintro e w17 ⟨rfl, hb⟩; refine ⟨_, rfl, ?_⟩; have n0_ := Aside0.mk (below_step (by repeat (first | (with_reducible first | exact HB.out | apply below_alloc | apply pw_below_drewN | apply below_drew1) | exact HB.out)) hb); clear HB; have HB := n0_; clear n0_; (try clear hb); (try clear hb2); (try clear hk); (try clear hi)))
              (try simp only [Act.put, List.setIfInBounds_toArray, List.set_cons_zero, List.set_cons_succ])
              go_cut [46] (fun v46 wc => ∃ (kq : Nat) (x46_14 : Bool), v46 = .bool x46_14 ∧ Aside0 (outlawlaw04_IdentEvents.j1 kq a0 a1 a2 a3 t109 x46_14 = some r) ∧ Aside0 (kq ≤ kj6) ∧ Aside0 (Below w.heap.size w wc))
              case first =>
                have H := HC15.out
                clear HC15
                by_cases c18 : t109 = true
                · subst c18
                  have H1 : (if t110 = true then (if ((⟨#[36]⟩ : ByteArray) ++ a0).size + a1.size ≤ 9223372036854775807 then ((ident_EventID.f (((⟨#[36]⟩ : ByteArray) ++ a0) ++ a1)).bind fun t111 => (outlawlaw04_IdentEvents.j1 kj6 a0 a1 a2 a3 true (t111 != (decide ((wrap64 ((a0.size : Int) + (a1.size : Int))) ≤ 64))))) else (none)) else (outlawlaw04_IdentEvents.j1 kj6 a0 a1 a2 a3 true false)) = some r := by rw [if_pos rfl] at H; exact H
                  clear H
                  have H := H1
                  clear H1
                  by_cases c19 : t110 = true
                  · subst c19
                    have H1 : (if ((⟨#[36]⟩ : ByteArray) ++ a0).size + a1.size ≤ 9223372036854775807 then ((ident_EventID.f (((⟨#[36]⟩ : ByteArray) ++ a0) ++ a1)).bind fun t111 => (outlawlaw04_IdentEvents.j1 kj6 a0 a1 a2 a3 true (t111 != (decide ((wrap64 ((a0.size : Int) + (a1.size : Int))) ≤ 64))))) else (none)) = some r := by rw [if_pos rfl] at H; exact H
                    clear H
                    have H := H1
                    clear H1
                    by_cases c20 : ((⟨#[36]⟩ : ByteArray) ++ a0).size + a1.size ≤ 9223372036854775807
                    · rw [if_pos c20] at H
                      have c20b0 := eq_true c20
                      have c20b1 : decide (((⟨#[36]⟩ : ByteArray) ++ a0).size + a1.size ≤ 9223372036854775807) = true := decide_eq_true c20
                      try have c20b2 : (9223372036854775807 < ((⟨#[36]⟩ : ByteArray) ++ a0).size + a1.size) = False := eq_false (Nat.not_lt.2 c20)
                      replace H := Option.bind_eq_some_iff.mp H
                      obtain ⟨t111, A210, H⟩ := H
                      replace H : (outlawlaw04_IdentEvents.j1 kj6 a0 a1 a2 a3 true (t111 != (decide ((wrap64 ((a0.size : Int) + (a1.size : Int))) ≤ 64)))) = some r := H
                      have A21 := Aside0.mk A210
                      clear A210
                      have H' := Aside0.mk H
                      clear H
                      go_wp2_with (first | (go_at_call 19; (with_reducible refine (ident_EventID.calls (((⟨#[36]⟩ : ByteArray) ++ a0) ++ a1) t111 _ A21.out).mono ?_); rintro e w22 ⟨rfl, hb⟩; have n0_ := Aside0.mk (below_step (by repeat (first | (with_reducible first | exact HB.out | apply below_alloc | apply pw_below_drewN | apply below_drew1) | exact HB.out)) hb); clear HB; have HB := n0_; clear n0_; (try clear hb); (try clear hb2); (try clear hk); (try clear hi)))
                      go_meet
                      case rel => exact ⟨_, ((t111 != (decide ((wrap64 ((a0.size : Int) + (a1.size : Int))) ≤ 64)))), (by first | rfl | (simp; done) | (simp [*]; done) | (simp [bneNil_, beqNil_]; done) | (simp [bneNil_, beqNil_, *]; done)), H', ⟨by have := HJ6.out; first | omega | exact Nat.le_refl _⟩, ⟨by repeat (first | (with_reducible first | exact HB.out | apply below_alloc | apply pw_below_drewN | apply below_drew1) | exact HB.out)⟩⟩
                    · rw [if_neg c20] at H
                      exact absurd H (by simp)
                  · replace c19 := Bool.eq_false_iff.mpr c19
                    subst c19
                    have H1 : (outlawlaw04_IdentEvents.j1 kj6 a0 a1 a2 a3 true false) = some r := by rw [if_neg (show ¬ (false = true) by decide)] at H; exact H
                    clear H
                    have H := H1
                    clear H1
                    have H' := Aside0.mk H
                    clear H
                    go_wp2
                    go_meet
                    case rel => exact ⟨_, (false), (by first | rfl | (simp; done) | (simp [*]; done) | (simp [bneNil_, beqNil_]; done) | (simp [bneNil_, beqNil_, *]; done)), H', ⟨by have := HJ6.out; first | omega | exact Nat.le_refl _⟩, ⟨by repeat (first | (with_reducible first | exact HB.out | apply below_alloc | apply pw_below_drewN | apply below_drew1) | exact HB.out)⟩⟩
                · replace c18 := Bool.eq_false_iff.mpr c18
                  subst c18
                  have H1 : (outlawlaw04_IdentEvents.j1 kj6 a0 a1 a2 a3 false false) = some r := by rw [if_neg (show ¬ (false = true) by decide)] at H; exact H
                  clear H
                  have H := H1
                  clear H1
                  have H' := Aside0.mk H
                  clear H
                  go_wp2
                  go_meet
                  case rel => exact ⟨_, (false), (by first | rfl | (simp; done) | (simp [*]; done) | (simp [bneNil_, beqNil_]; done) | (simp [bneNil_, beqNil_, *]; done)), H', ⟨by have := HJ6.out; first | omega | exact Nat.le_refl _⟩, ⟨by repeat (first | (with_reducible first | exact HB.out | apply below_alloc | apply pw_below_drewN | apply below_drew1) | exact HB.out)⟩⟩
              case rest =>
                clear HC15
                try clear c1
                try clear c2
                try clear p2
                try clear c6
                try clear p6
                try clear c7
                try clear c8
                try clear c9
                try clear c9b0
                try clear c9b1
                try clear c10
                try clear c11
                try clear c11b0
                try clear c11b1
                try clear c11b2
                try clear c13
                try clear c13b0
                try clear c13b1
                try clear c13b2
                try clear c18
                try clear c19
                try clear c20
                try clear c20b0
                try clear c20b1
                try clear c20b2
                try clear p2
                obtain ⟨kq, x46_14, rfl, HA, HJ14, HB⟩ := hcut
                cases kq with
                | zero => exact absurd HA.out (by simp [outlawlaw04_IdentEvents.j1])
                | succ kj14 =>
                  have H := HA.out
                  clear HA
                  simp only [outlawlaw04_IdentEvents.j1] at H
                  by_cases c23 : x46_14 = true
                  · subst c23
                    have H1 : (some false) = some r := by rw [if_pos rfl] at H; exact H
                    clear H
                    have H := H1
                    clear H1
                    obtain rfl := Option.some.inj H
                    go_wp2
                    go_ret
                    exact ⟨by first | rfl | (simp [errW_none, errW_some] <;> rfl) | (simp [*, errW_none, errW_some] <;> rfl), by repeat (first | (with_reducible first | exact HB.out | apply below_alloc | apply pw_below_drewN | apply below_drew1) | exact HB.out)⟩
                  · replace c23 := Bool.eq_false_iff.mpr c23
                    subst c23
                    have H1 : (if t109 = true then (if a2 ≥ 97 then (if a2 ≤ 122 then (outlawlaw04_IdentEvents.j2 kj14 a0 a2 a3 true) else (if a2 ≥ 65 then (if a2 ≤ 90 then (outlawlaw04_IdentEvents.j2 kj14 a0 a2 a3 true) else (if a2 ≥ 48 then (if a2 ≤ 57 then (outlawlaw04_IdentEvents.j2 kj14 a0 a2 a3 true) else (if a2 = 95 then (outlawlaw04_IdentEvents.j2 kj14 a0 a2 a3 true) else (if a2 = 45 then (outlawlaw04_IdentEvents.j2 kj14 a0 a2 a3 true) else (if a2 = 46 then (outlawlaw04_IdentEvents.j2 kj14 a0 a2 a3 true) else (if a2 = 126 then (outlawlaw04_IdentEvents.j2 kj14 a0 a2 a3 true) else (outlawlaw04_IdentEvents.j2 kj14 a0 a2 a3 (a2 == 47))))))) else (if a2 = 95 then (outlawlaw04_IdentEvents.j2 kj14 a0 a2 a3 true) else (if a2 = 45 then (outlawlaw04_IdentEvents.j2 kj14 a0 a2 a3 true) else (if a2 = 46 then (outlawlaw04_IdentEvents.j2 kj14 a0 a2 a3 true) else (if a2 = 126 then (outlawlaw04_IdentEvents.j2 kj14 a0 a2 a3 true) else (outlawlaw04_IdentEvents.j2 kj14 a0 a2 a3 (a2 == 47)))))))) else (if a2 ≥ 48 then (if a2 ≤ 57 then (outlawlaw04_IdentEvents.j2 kj14 a0 a2 a3 true) else (if a2 = 95 then (outlawlaw04_IdentEvents.j2 kj14 a0 a2 a3 true) else (if a2 = 45 then (outlawlaw04_IdentEvents.j2 kj14 a0 a2 a3 true) else (if a2 = 46 then (outlawlaw04_IdentEvents.j2 kj14 a0 a2 a3 true) else (if a2 = 126 then (outlawlaw04_IdentEvents.j2 kj14 a0 a2 a3 true) else (outlawlaw04_IdentEvents.j2 kj14 a0 a2 a3 (a2 == 47))))))) else (if a2 = 95 then (outlawlaw04_IdentEvents.j2 kj14 a0 a2 a3 true) else (if a2 = 45 then (outlawlaw04_IdentEvents.j2 kj14 a0 a2 a3 true) else (if a2 = 46 then (outlawlaw04_IdentEvents.j2 kj14 a0 a2 a3 true) else (if a2 = 126 then (outlawlaw04_IdentEvents.j2 kj14 a0 a2 a3 true) else (outlawlaw04_IdentEvents.j2 kj14 a0 a2 a3 (a2 == 47))))))))) else (if a2 ≥ 65 then (if a2 ≤ 90 then (outlawlaw04_IdentEvents.j2 kj14 a0 a2 a3 true) else (if a2 ≥ 48 then (if a2 ≤ 57 then (outlawlaw04_IdentEvents.j2 kj14 a0 a2 a3 true) else (if a2 = 95 then (outlawlaw04_IdentEvents.j2 kj14 a0 a2 a3 true) else (if a2 = 45 then (outlawlaw04_IdentEvents.j2 kj14 a0 a2 a3 true) else (if a2 = 46 then (outlawlaw04_IdentEvents.j2 kj14 a0 a2 a3 true) else (if a2 = 126 then (outlawlaw04_IdentEvents.j2 kj14 a0 a2 a3 true) else (outlawlaw04_IdentEvents.j2 kj14 a0 a2 a3 (a2 == 47))))))) else (if a2 = 95 then (outlawlaw04_IdentEvents.j2 kj14 a0 a2 a3 true) else (if a2 = 45 then (outlawlaw04_IdentEvents.j2 kj14 a0 a2 a3 true) else (if a2 = 46 then (outlawlaw04_IdentEvents.j2 kj14 a0 a2 a3 true) else (if a2 = 126 then (outlawlaw04_IdentEvents.j2 kj14 a0 a2 a3 true) else (outlawlaw04_IdentEvents.j2 kj14 a0 a2 a3 (a2 == 47)))))))) else (if a2 ≥ 48 then (if a2 ≤ 57 then (outlawlaw04_IdentEvents.j2 kj14 a0 a2 a3 true) else (if a2 = 95 then (outlawlaw04_IdentEvents.j2 kj14 a0 a2 a3 true) else (if a2 = 45 then (outlawlaw04_IdentEvents.j2 kj14 a0 a2 a3 true) else (if a2 = 46 then (outlawlaw04_IdentEvents.j2 kj14 a0 a2 a3 true) else (if a2 = 126 then (outlawlaw04_IdentEvents.j2 kj14 a0 a2 a3 true) else (outlawlaw04_IdentEvents.j2 kj14 a0 a2 a3 (a2 == 47))))))) else (if a2 = 95 then (outlawlaw04_IdentEvents.j2 kj14 a0 a2 a3 true) else (if a2 = 45 then (outlawlaw04_IdentEvents.j2 kj14 a0 a2 a3 true) else (if a2 = 46 then (outlawlaw04_IdentEvents.j2 kj14 a0 a2 a3 true) else (if a2 = 126 then (outlawlaw04_IdentEvents.j2 kj14 a0 a2 a3 true) else (outlawlaw04_IdentEvents.j2 kj14 a0 a2 a3 (a2 == 47))))))))) else (if 1 + a0.size ≤ 9223372036854775807 then (if ((⟨#[36]⟩ : ByteArray) ++ a0).size + a1.size ≤ 9223372036854775807 then ((ident_EventID.f (((⟨#[36]⟩ : ByteArray) ++ a0) ++ a1)).bind fun t112 => (if t112 = true then (some (a0.toList == ([] : List UInt8))) else (some true))) else (none)) else (none))) = some r := by rw [if_neg (show ¬ (false = true) by decide)] at H; exact H
                    clear H
                    have H := H1
                    clear H1
                    by_cases c24 : t109 = true
                    · subst c24
                      have H1 : (if a2 ≥ 97 then (if a2 ≤ 122 then (outlawlaw04_IdentEvents.j2 kj14 a0 a2 a3 true) else (if a2 ≥ 65 then (if a2 ≤ 90 then (outlawlaw04_IdentEvents.j2 kj14 a0 a2 a3 true) else (if a2 ≥ 48 then (if a2 ≤ 57 then (outlawlaw04_IdentEvents.j2 kj14 a0 a2 a3 true) else (if a2 = 95 then (outlawlaw04_IdentEvents.j2 kj14 a0 a2 a3 true) else (if a2 = 45 then (outlawlaw04_IdentEvents.j2 kj14 a0 a2 a3 true) else (if a2 = 46 then (outlawlaw04_IdentEvents.j2 kj14 a0 a2 a3 true) else (if a2 = 126 then (outlawlaw04_IdentEvents.j2 kj14 a0 a2 a3 true) else (outlawlaw04_IdentEvents.j2 kj14 a0 a2 a3 (a2 == 47))))))) else (if a2 = 95 then (outlawlaw04_IdentEvents.j2 kj14 a0 a2 a3 true) else (if a2 = 45 then (outlawlaw04_IdentEvents.j2 kj14 a0 a2 a3 true) else (if a2 = 46 then (outlawlaw04_IdentEvents.j2 kj14 a0 a2 a3 true) else (if a2 = 126 then (outlawlaw04_IdentEvents.j2 kj14 a0 a2 a3 true) else (outlawlaw04_IdentEvents.j2 kj14 a0 a2 a3 (a2 == 47)))))))) else (if a2 ≥ 48 then (if a2 ≤ 57 then (outlawlaw04_IdentEvents.j2 kj14 a0 a2 a3 true) else (if a2 = 95 then (outlawlaw04_IdentEvents.j2 kj14 a0 a2 a3 true) else (if a2 = 45 then (outlawlaw04_IdentEvents.j2 kj14 a0 a2 a3 true) else (if a2 = 46 then (outlawlaw04_IdentEvents.j2 kj14 a0 a2 a3 true) else (if a2 = 126 then (outlawlaw04_IdentEvents.j2 kj14 a0 a2 a3 true) else (outlawlaw04_IdentEvents.j2 kj14 a0 a2 a3 (a2 == 47))))))) else (if a2 = 95 then (outlawlaw04_IdentEvents.j2 kj14 a0 a2 a3 true) else (if a2 = 45 then (outlawlaw04_IdentEvents.j2 kj14 a0 a2 a3 true) else (if a2 = 46 then (outlawlaw04_IdentEvents.j2 kj14 a0 a2 a3 true) else (if a2 = 126 then (outlawlaw04_IdentEvents.j2 kj14 a0 a2 a3 true) else (outlawlaw04_IdentEvents.j2 kj14 a0 a2 a3 (a2 == 47))))))))) else (if a2 ≥ 65 then (if a2 ≤ 90 then (outlawlaw04_IdentEvents.j2 kj14 a0 a2 a3 true) else (if a2 ≥ 48 then (if a2 ≤ 57 then (outlawlaw04_IdentEvents.j2 kj14 a0 a2 a3 true) else (if a2 = 95 then (outlawlaw04_IdentEvents.j2 kj14 a0 a2 a3 true) else (if a2 = 45 then (outlawlaw04_IdentEvents.j2 kj14 a0 a2 a3 true) else (if a2 = 46 then (outlawlaw04_IdentEvents.j2 kj14 a0 a2 a3 true) else (if a2 = 126 then (outlawlaw04_IdentEvents.j2 kj14 a0 a2 a3 true) else (outlawlaw04_IdentEvents.j2 kj14 a0 a2 a3 (a2 == 47))))))) else (if a2 = 95 then (outlawlaw04_IdentEvents.j2 kj14 a0 a2 a3 true) else (if a2 = 45 then (outlawlaw04_IdentEvents.j2 kj14 a0 a2 a3 true) else (if a2 = 46 then (outlawlaw04_IdentEvents.j2 kj14 a0 a2 a3 true) else (if a2 = 126 then (outlawlaw04_IdentEvents.j2 kj14 a0 a2 a3 true) else (outlawlaw04_IdentEvents.j2 kj14 a0 a2 a3 (a2 == 47)))))))) else (if a2 ≥ 48 then (if a2 ≤ 57 then (outlawlaw04_IdentEvents.j2 kj14 a0 a2 a3 true) else (if a2 = 95 then (outlawlaw04_IdentEvents.j2 kj14 a0 a2 a3 true) else (if a2 = 45 then (outlawlaw04_IdentEvents.j2 kj14 a0 a2 a3 true) else (if a2 = 46 then (outlawlaw04_IdentEvents.j2 kj14 a0 a2 a3 true) else (if a2 = 126 then (outlawlaw04_IdentEvents.j2 kj14 a0 a2 a3 true) else (outlawlaw04_IdentEvents.j2 kj14 a0 a2 a3 (a2 == 47))))))) else (if a2 = 95 then (outlawlaw04_IdentEvents.j2 kj14 a0 a2 a3 true) else (if a2 = 45 then (outlawlaw04_IdentEvents.j2 kj14 a0 a2 a3 true) else (if a2 = 46 then (outlawlaw04_IdentEvents.j2 kj14 a0 a2 a3 true) else (if a2 = 126 then (outlawlaw04_IdentEvents.j2 kj14 a0 a2 a3 true) else (outlawlaw04_IdentEvents.j2 kj14 a0 a2 a3 (a2 == 47))))))))) = some r := by rw [if_pos rfl] at H; exact H
                      clear H
                      have H := H1
                      clear H1
                      have HC25 := Aside0.mk H
                      clear H
                      go_upto_region 10 with (fail)
                      go_cut [11] (fun v11 wc => ∃ (kq : Nat) (x11_24 : Bool), v11 = .bool x11_24 ∧ Aside0 (outlawlaw04_IdentEvents.j2 kq a0 a2 a3 x11_24 = some r) ∧ Aside0 (kq ≤ kj14) ∧ Aside0 (Below w.heap.size w wc))
                      case first =>
                        have H := HC25.out
                        clear HC25
                        by_cases c26 : a2 ≥ 97
                        · rw [if_pos c26] at H
                          have c26b0 : decide (97 ≤ a2) = true := decide_eq_true c26
                          clear c26
                          (first | rw [c26b0] | (simp only [i64_w, i32_w]; rw [c26b0]) | skip)
                          by_cases c27 : a2 ≤ 122
                          · rw [if_pos c27] at H
                            have c27b0 : decide (a2 ≤ 122) = true := decide_eq_true c27
                            clear c27
                            have H' := Aside0.mk H
                            clear H
                            go_wp2
                            go_meet
                            case rel => exact ⟨_, (true), (by first | rfl | (simp; done) | (simp [*]; done) | (simp [bneNil_, beqNil_]; done) | (simp [bneNil_, beqNil_, *]; done)), H', ⟨by have := HJ6.out; have := HJ14.out; first | omega | exact Nat.le_refl _⟩, ⟨by repeat (first | (with_reducible first | exact HB.out | apply below_alloc | apply pw_below_drewN | apply below_drew1) | exact HB.out)⟩⟩
                          · rw [if_neg c27] at H
                            have c27b0 : decide (a2 ≤ 122) = false := decide_eq_false c27
                            clear c27
                            by_cases c28 : a2 ≥ 65
                            · rw [if_pos c28] at H
                              have c28b0 : decide (65 ≤ a2) = true := decide_eq_true c28
                              clear c28
                              by_cases c29 : a2 ≤ 90
                              · rw [if_pos c29] at H
                                have c29b0 : decide (a2 ≤ 90) = true := decide_eq_true c29
                                clear c29
                                have H' := Aside0.mk H
                                clear H
                                go_wp2
                                go_meet
                                case rel => exact ⟨_, (true), (by first | rfl | (simp; done) | (simp [*]; done) | (simp [bneNil_, beqNil_]; done) | (simp [bneNil_, beqNil_, *]; done)), H', ⟨by have := HJ6.out; have := HJ14.out; first | omega | exact Nat.le_refl _⟩, ⟨by repeat (first | (with_reducible first | exact HB.out | apply below_alloc | apply pw_below_drewN | apply below_drew1) | exact HB.out)⟩⟩
                              · rw [if_neg c29] at H
                                have c29b0 : decide (a2 ≤ 90) = false := decide_eq_false c29
                                clear c29
                                by_cases c30 : a2 ≥ 48
                                · rw [if_pos c30] at H
                                  have c30b0 : decide (48 ≤ a2) = true := decide_eq_true c30
                                  clear c30
                                  by_cases c31 : a2 ≤ 57
                                  · rw [if_pos c31] at H
                                    have c31b0 : decide (a2 ≤ 57) = true := decide_eq_true c31
                                    clear c31
                                    have H' := Aside0.mk H
                                    clear H
                                    go_wp2
                                    go_meet
                                    case rel => exact ⟨_, (true), (by first | rfl | (simp; done) | (simp [*]; done) | (simp [bneNil_, beqNil_]; done) | (simp [bneNil_, beqNil_, *]; done)), H', ⟨by have := HJ6.out; have := HJ14.out; first | omega | exact Nat.le_refl _⟩, ⟨by repeat (first | (with_reducible first | exact HB.out | apply below_alloc | apply pw_below_drewN | apply below_drew1) | exact HB.out)⟩⟩
                                  · rw [if_neg c31] at H
                                    have c31b0 : decide (a2 ≤ 57) = false := decide_eq_false c31
                                    clear c31
                                    by_cases c32 : a2 = 95
                                    · rw [if_pos c32] at H
                                      have c32b0 : (a2 == 95) = true := beq_iff_eq.mpr c32
                                      have c32b1 : (a2 != 95) = false := bne_eq_false_iff_eq.mpr c32
                                      clear c32
                                      have H' := Aside0.mk H
                                      clear H
                                      go_wp2
                                      go_meet
                                      case rel => exact ⟨_, (true), (by first | rfl | (simp; done) | (simp [*]; done) | (simp [bneNil_, beqNil_]; done) | (simp [bneNil_, beqNil_, *]; done)), H', ⟨by have := HJ6.out; have := HJ14.out; first | omega | exact Nat.le_refl _⟩, ⟨by repeat (first | (with_reducible first | exact HB.out | apply below_alloc | apply pw_below_drewN | apply below_drew1) | exact HB.out)⟩⟩
                                    · rw [if_neg c32] at H
                                      have c32b0 : (a2 == 95) = false := beq_eq_false_iff_ne.mpr c32
                                      have c32b1 : (a2 != 95) = true := bne_iff_ne.mpr c32
                                      by_cases c33 : a2 = 45
                                      · rw [if_pos c33] at H
                                        have c33b0 : (a2 == 45) = true := beq_iff_eq.mpr c33
                                        have c33b1 : (a2 != 45) = false := bne_eq_false_iff_eq.mpr c33
                                        clear c33
                                        have H' := Aside0.mk H
                                        clear H
                                        go_wp2
                                        go_meet
                                        case rel => exact ⟨_, (true), (by first | rfl | (simp; done) | (simp [*]; done) | (simp [bneNil_, beqNil_]; done) | (simp [bneNil_, beqNil_, *]; done)), H', ⟨by have := HJ6.out; have := HJ14.out; first | omega | exact Nat.le_refl _⟩, ⟨by repeat (first | (with_reducible first | exact HB.out | apply below_alloc | apply pw_below_drewN | apply below_drew1) | exact HB.out)⟩⟩
                                      · rw [if_neg c33] at H
                                        have c33b0 : (a2 == 45) = false := beq_eq_false_iff_ne.mpr c33
                                        have c33b1 : (a2 != 45) = true := bne_iff_ne.mpr c33
                                        by_cases c34 : a2 = 46
                                        · rw [if_pos c34] at H
                                          have c34b0 : (a2 == 46) = true := beq_iff_eq.mpr c34
                                          have c34b1 : (a2 != 46) = false := bne_eq_false_iff_eq.mpr c34
                                          clear c34
                                          have H' := Aside0.mk H
                                          clear H
                                          go_wp2
                                          go_meet
                                          case rel => exact ⟨_, (true), (by first | rfl | (simp; done) | (simp [*]; done) | (simp [bneNil_, beqNil_]; done) | (simp [bneNil_, beqNil_, *]; done)), H', ⟨by have := HJ6.out; have := HJ14.out; first | omega | exact Nat.le_refl _⟩, ⟨by repeat (first | (with_reducible first | exact HB.out | apply below_alloc | apply pw_below_drewN | apply below_drew1) | exact HB.out)⟩⟩
                                        · rw [if_neg c34] at H
                                          have c34b0 : (a2 == 46) = false := beq_eq_false_iff_ne.mpr c34
                                          have c34b1 : (a2 != 46) = true := bne_iff_ne.mpr c34
                                          by_cases c35 : a2 = 126
                                          · rw [if_pos c35] at H
                                            have c35b0 : (a2 == 126) = true := beq_iff_eq.mpr c35
                                            have c35b1 : (a2 != 126) = false := bne_eq_false_iff_eq.mpr c35
                                            clear c35
                                            have H' := Aside0.mk H
                                            clear H
                                            go_wp2
                                            go_meet
                                            case rel => exact ⟨_, (true), (by first | rfl | (simp; done) | (simp [*]; done) | (simp [bneNil_, beqNil_]; done) | (simp [bneNil_, beqNil_, *]; done)), H', ⟨by have := HJ6.out; have := HJ14.out; first | omega | exact Nat.le_refl _⟩, ⟨by repeat (first | (with_reducible first | exact HB.out | apply below_alloc | apply pw_below_drewN | apply below_drew1) | exact HB.out)⟩⟩
                                          · rw [if_neg c35] at H
                                            have c35b0 : (a2 == 126) = false := beq_eq_false_iff_ne.mpr c35
                                            have c35b1 : (a2 != 126) = true := bne_iff_ne.mpr c35
                                            have H' := Aside0.mk H
                                            clear H
                                            go_wp2
                                            go_meet
                                            case rel => exact ⟨_, ((a2 == 47)), (by first | rfl | (simp; done) | (simp [*]; done) | (simp [bneNil_, beqNil_]; done) | (simp [bneNil_, beqNil_, *]; done)), H', ⟨by have := HJ6.out; have := HJ14.out; first | omega | exact Nat.le_refl _⟩, ⟨by repeat (first | (with_reducible first | exact HB.out | apply below_alloc | apply pw_below_drewN | apply below_drew1) | exact HB.out)⟩⟩
                                · rw [if_neg c30] at H
                                  have c30b0 : decide (48 ≤ a2) = false := decide_eq_false c30
                                  clear c30
                                  by_cases c36 : a2 = 95
                                  · rw [if_pos c36] at H
                                    have c36b0 : (a2 == 95) = true := beq_iff_eq.mpr c36
                                    have c36b1 : (a2 != 95) = false := bne_eq_false_iff_eq.mpr c36
                                    clear c36
                                    have H' := Aside0.mk H
                                    clear H
                                    go_wp2
                                    go_meet
                                    case rel => exact ⟨_, (true), (by first | rfl | (simp; done) | (simp [*]; done) | (simp [bneNil_, beqNil_]; done) | (simp [bneNil_, beqNil_, *]; done)), H', ⟨by have := HJ6.out; have := HJ14.out; first | omega | exact Nat.le_refl _⟩, ⟨by repeat (first | (with_reducible first | exact HB.out | apply below_alloc | apply pw_below_drewN | apply below_drew1) | exact HB.out)⟩⟩
                                  · rw [if_neg c36] at H
                                    have c36b0 : (a2 == 95) = false := beq_eq_false_iff_ne.mpr c36
                                    have c36b1 : (a2 != 95) = true := bne_iff_ne.mpr c36
                                    by_cases c37 : a2 = 45
                                    · rw [if_pos c37] at H
                                      have c37b0 : (a2 == 45) = true := beq_iff_eq.mpr c37
                                      have c37b1 : (a2 != 45) = false := bne_eq_false_iff_eq.mpr c37
                                      clear c37
                                      have H' := Aside0.mk H
                                      clear H
                                      go_wp2
                                      go_meet
                                      case rel => exact ⟨_, (true), (by first | rfl | (simp; done) | (simp [*]; done) | (simp [bneNil_, beqNil_]; done) | (simp [bneNil_, beqNil_, *]; done)), H', ⟨by have := HJ6.out; have := HJ14.out; first | omega | exact Nat.le_refl _⟩, ⟨by repeat (first | (with_reducible first | exact HB.out | apply below_alloc | apply pw_below_drewN | apply below_drew1) | exact HB.out)⟩⟩
                                    · rw [if_neg c37] at H
                                      have c37b0 : (a2 == 45) = false := beq_eq_false_iff_ne.mpr c37
                                      have c37b1 : (a2 != 45) = true := bne_iff_ne.mpr c37
                                      by_cases c38 : a2 = 46
                                      · rw [if_pos c38] at H
                                        have c38b0 : (a2 == 46) = true := beq_iff_eq.mpr c38
                                        have c38b1 : (a2 != 46) = false := bne_eq_false_iff_eq.mpr c38
                                        clear c38
                                        have H' := Aside0.mk H
                                        clear H
                                        go_wp2
                                        go_meet
                                        case rel => exact ⟨_, (true), (by first | rfl | (simp; done) | (simp [*]; done) | (simp [bneNil_, beqNil_]; done) | (simp [bneNil_, beqNil_, *]; done)), H', ⟨by have := HJ6.out; have := HJ14.out; first | omega | exact Nat.le_refl _⟩, ⟨by repeat (first | (with_reducible first | exact HB.out | apply below_alloc | apply pw_below_drewN | apply below_drew1) | exact HB.out)⟩⟩
                                      · rw [if_neg c38] at H
                                        have c38b0 : (a2 == 46) = false := beq_eq_false_iff_ne.mpr c38
                                        have c38b1 : (a2 != 46) = true := bne_iff_ne.mpr c38
                                        by_cases c39 : a2 = 126
                                        · rw [if_pos c39] at H
                                          have c39b0 : (a2 == 126) = true := beq_iff_eq.mpr c39
                                          have c39b1 : (a2 != 126) = false := bne_eq_false_iff_eq.mpr c39
                                          clear c39
                                          have H' := Aside0.mk H
                                          clear H
                                          go_wp2
                                          go_meet
                                          case rel => exact ⟨_, (true), (by first | rfl | (simp; done) | (simp [*]; done) | (simp [bneNil_, beqNil_]; done) | (simp [bneNil_, beqNil_, *]; done)), H', ⟨by have := HJ6.out; have := HJ14.out; first | omega | exact Nat.le_refl _⟩, ⟨by repeat (first | (with_reducible first | exact HB.out | apply below_alloc | apply pw_below_drewN | apply below_drew1) | exact HB.out)⟩⟩
                                        · rw [if_neg c39] at H
                                          have c39b0 : (a2 == 126) = false := beq_eq_false_iff_ne.mpr c39
                                          have c39b1 : (a2 != 126) = true := bne_iff_ne.mpr c39
                                          have H' := Aside0.mk H
                                          clear H
                                          go_wp2
                                          go_meet
                                          case rel => exact ⟨_, ((a2 == 47)), (by first | rfl | (simp; done) | (simp [*]; done) | (simp [bneNil_, beqNil_]; done) | (simp [bneNil_, beqNil_, *]; done)), H', ⟨by have := HJ6.out; have := HJ14.out; first | omega | exact Nat.le_refl _⟩, ⟨by repeat (first | (with_reducible first | exact HB.out | apply below_alloc | apply pw_below_drewN | apply below_drew1) | exact HB.out)⟩⟩
                            · rw [if_neg c28] at H
                              have c28b0 : decide (65 ≤ a2) = false := decide_eq_false c28
                              clear c28
                              by_cases c40 : a2 ≥ 48
                              · rw [if_pos c40] at H
                                have c40b0 : decide (48 ≤ a2) = true := decide_eq_true c40
                                clear c40
                                by_cases c41 : a2 ≤ 57
                                · rw [if_pos c41] at H
                                  have c41b0 : decide (a2 ≤ 57) = true := decide_eq_true c41
                                  clear c41
                                  have H' := Aside0.mk H
                                  clear H
                                  go_wp2
                                  go_meet
                                  case rel => exact ⟨_, (true), (by first | rfl | (simp; done) | (simp [*]; done) | (simp [bneNil_, beqNil_]; done) | (simp [bneNil_, beqNil_, *]; done)), H', ⟨by have := HJ6.out; have := HJ14.out; first | omega | exact Nat.le_refl _⟩, ⟨by repeat (first | (with_reducible first | exact HB.out | apply below_alloc | apply pw_below_drewN | apply below_drew1) | exact HB.out)⟩⟩
                                · rw [if_neg c41] at H
                                  have c41b0 : decide (a2 ≤ 57) = false := decide_eq_false c41
                                  clear c41
                                  by_cases c42 : a2 = 95
                                  · rw [if_pos c42] at H
                                    have c42b0 : (a2 == 95) = true := beq_iff_eq.mpr c42
                                    have c42b1 : (a2 != 95) = false := bne_eq_false_iff_eq.mpr c42
                                    clear c42
                                    have H' := Aside0.mk H
                                    clear H
                                    go_wp2
                                    go_meet
                                    case rel => exact ⟨_, (true), (by first | rfl | (simp; done) | (simp [*]; done) | (simp [bneNil_, beqNil_]; done) | (simp [bneNil_, beqNil_, *]; done)), H', ⟨by have := HJ6.out; have := HJ14.out; first | omega | exact Nat.le_refl _⟩, ⟨by repeat (first | (with_reducible first | exact HB.out | apply below_alloc | apply pw_below_drewN | apply below_drew1) | exact HB.out)⟩⟩
                                  · rw [if_neg c42] at H
                                    have c42b0 : (a2 == 95) = false := beq_eq_false_iff_ne.mpr c42
                                    have c42b1 : (a2 != 95) = true := bne_iff_ne.mpr c42
                                    by_cases c43 : a2 = 45
                                    · rw [if_pos c43] at H
                                      have c43b0 : (a2 == 45) = true := beq_iff_eq.mpr c43
                                      have c43b1 : (a2 != 45) = false := bne_eq_false_iff_eq.mpr c43
                                      clear c43
                                      have H' := Aside0.mk H
                                      clear H
                                      go_wp2
                                      go_meet
                                      case rel => exact ⟨_, (true), (by first | rfl | (simp; done) | (simp [*]; done) | (simp [bneNil_, beqNil_]; done) | (simp [bneNil_, beqNil_, *]; done)), H', ⟨by have := HJ6.out; have := HJ14.out; first | omega | exact Nat.le_refl _⟩, ⟨by repeat (first | (with_reducible first | exact HB.out | apply below_alloc | apply pw_below_drewN | apply below_drew1) | exact HB.out)⟩⟩
                                    · rw [if_neg c43] at H
                                      have c43b0 : (a2 == 45) = false := beq_eq_false_iff_ne.mpr c43
                                      have c43b1 : (a2 != 45) = true := bne_iff_ne.mpr c43
                                      by_cases c44 : a2 = 46
                                      · rw [if_pos c44] at H
                                        have c44b0 : (a2 == 46) = true := beq_iff_eq.mpr c44
                                        have c44b1 : (a2 != 46) = false := bne_eq_false_iff_eq.mpr c44
                                        clear c44
                                        have H' := Aside0.mk H
                                        clear H
                                        go_wp2
                                        go_meet
                                        case rel => exact ⟨_, (true), (by first | rfl | (simp; done) | (simp [*]; done) | (simp [bneNil_, beqNil_]; done) | (simp [bneNil_, beqNil_, *]; done)), H', ⟨by have := HJ6.out; have := HJ14.out; first | omega | exact Nat.le_refl _⟩, ⟨by repeat (first | (with_reducible first | exact HB.out | apply below_alloc | apply pw_below_drewN | apply below_drew1) | exact HB.out)⟩⟩
                                      · rw [if_neg c44] at H
                                        have c44b0 : (a2 == 46) = false := beq_eq_false_iff_ne.mpr c44
                                        have c44b1 : (a2 != 46) = true := bne_iff_ne.mpr c44
                                        by_cases c45 : a2 = 126
                                        · rw [if_pos c45] at H
                                          have c45b0 : (a2 == 126) = true := beq_iff_eq.mpr c45
                                          have c45b1 : (a2 != 126) = false := bne_eq_false_iff_eq.mpr c45
                                          clear c45
                                          have H' := Aside0.mk H
                                          clear H
                                          go_wp2
                                          go_meet
                                          case rel => exact ⟨_, (true), (by first | rfl | (simp; done) | (simp [*]; done) | (simp [bneNil_, beqNil_]; done) | (simp [bneNil_, beqNil_, *]; done)), H', ⟨by have := HJ6.out; have := HJ14.out; first | omega | exact Nat.le_refl _⟩, ⟨by repeat (first | (with_reducible first | exact HB.out | apply below_alloc | apply pw_below_drewN | apply below_drew1) | exact HB.out)⟩⟩
                                        · rw [if_neg c45] at H
                                          have c45b0 : (a2 == 126) = false := beq_eq_false_iff_ne.mpr c45
                                          have c45b1 : (a2 != 126) = true := bne_iff_ne.mpr c45
                                          have H' := Aside0.mk H
                                          clear H
                                          go_wp2
                                          go_meet
                                          case rel => exact ⟨_, ((a2 == 47)), (by first | rfl | (simp; done) | (simp [*]; done) | (simp [bneNil_, beqNil_]; done) | (simp [bneNil_, beqNil_, *]; done)), H', ⟨by have := HJ6.out; have := HJ14.out; first | omega | exact Nat.le_refl _⟩, ⟨by repeat (first | (with_reducible first | exact HB.out | apply below_alloc | apply pw_below_drewN | apply below_drew1) | exact HB.out)⟩⟩
                              · rw [if_neg c40] at H
                                have c40b0 : decide (48 ≤ a2) = false := decide_eq_false c40
                                clear c40
                                by_cases c46 : a2 = 95
                                · rw [if_pos c46] at H
                                  have c46b0 : (a2 == 95) = true := beq_iff_eq.mpr c46
                                  have c46b1 : (a2 != 95) = false := bne_eq_false_iff_eq.mpr c46
                                  clear c46
                                  have H' := Aside0.mk H
                                  clear H
                                  go_wp2
                                  go_meet
                                  case rel => exact ⟨_, (true), (by first | rfl | (simp; done) | (simp [*]; done) | (simp [bneNil_, beqNil_]; done) | (simp [bneNil_, beqNil_, *]; done)), H', ⟨by have := HJ6.out; have := HJ14.out; first | omega | exact Nat.le_refl _⟩, ⟨by repeat (first | (with_reducible first | exact HB.out | apply below_alloc | apply pw_below_drewN | apply below_drew1) | exact HB.out)⟩⟩
                                · rw [if_neg c46] at H
                                  have c46b0 : (a2 == 95) = false := beq_eq_false_iff_ne.mpr c46
                                  have c46b1 : (a2 != 95) = true := bne_iff_ne.mpr c46
                                  by_cases c47 : a2 = 45
                                  · rw [if_pos c47] at H
                                    have c47b0 : (a2 == 45) = true := beq_iff_eq.mpr c47
                                    have c47b1 : (a2 != 45) = false := bne_eq_false_iff_eq.mpr c47
                                    clear c47
                                    have H' := Aside0.mk H
                                    clear H
                                    go_wp2
                                    go_meet
                                    case rel => exact ⟨_, (true), (by first | rfl | (simp; done) | (simp [*]; done) | (simp [bneNil_, beqNil_]; done) | (simp [bneNil_, beqNil_, *]; done)), H', ⟨by have := HJ6.out; have := HJ14.out; first | omega | exact Nat.le_refl _⟩, ⟨by repeat (first | (with_reducible first | exact HB.out | apply below_alloc | apply pw_below_drewN | apply below_drew1) | exact HB.out)⟩⟩
                                  · rw [if_neg c47] at H
                                    have c47b0 : (a2 == 45) = false := beq_eq_false_iff_ne.mpr c47
                                    have c47b1 : (a2 != 45) = true := bne_iff_ne.mpr c47
                                    by_cases c48 : a2 = 46
                                    · rw [if_pos c48] at H
                                      have c48b0 : (a2 == 46) = true := beq_iff_eq.mpr c48
                                      have c48b1 : (a2 != 46) = false := bne_eq_false_iff_eq.mpr c48
                                      clear c48
                                      have H' := Aside0.mk H
                                      clear H
                                      go_wp2
                                      go_meet
                                      case rel => exact ⟨_, (true), (by first | rfl | (simp; done) | (simp [*]; done) | (simp [bneNil_, beqNil_]; done) | (simp [bneNil_, beqNil_, *]; done)), H', ⟨by have := HJ6.out; have := HJ14.out; first | omega | exact Nat.le_refl _⟩, ⟨by repeat (first | (with_reducible first | exact HB.out | apply below_alloc | apply pw_below_drewN | apply below_drew1) | exact HB.out)⟩⟩
                                    · rw [if_neg c48] at H
                                      have c48b0 : (a2 == 46) = false := beq_eq_false_iff_ne.mpr c48
                                      have c48b1 : (a2 != 46) = true := bne_iff_ne.mpr c48
                                      by_cases c49 : a2 = 126
                                      · rw [if_pos c49] at H
                                        have c49b0 : (a2 == 126) = true := beq_iff_eq.mpr c49
                                        have c49b1 : (a2 != 126) = false := bne_eq_false_iff_eq.mpr c49
                                        clear c49
                                        have H' := Aside0.mk H
                                        clear H
                                        go_wp2
                                        go_meet
                                        case rel => exact ⟨_, (true), (by first | rfl | (simp; done) | (simp [*]; done) | (simp [bneNil_, beqNil_]; done) | (simp [bneNil_, beqNil_, *]; done)), H', ⟨by have := HJ6.out; have := HJ14.out; first | omega | exact Nat.le_refl _⟩, ⟨by repeat (first | (with_reducible first | exact HB.out | apply below_alloc | apply pw_below_drewN | apply below_drew1) | exact HB.out)⟩⟩
                                      · rw [if_neg c49] at H
                                        have c49b0 : (a2 == 126) = false := beq_eq_false_iff_ne.mpr c49
                                        have c49b1 : (a2 != 126) = true := bne_iff_ne.mpr c49
                                        have H' := Aside0.mk H
                                        clear H
                                        go_wp2
                                        go_meet
                                        case rel => exact ⟨_, ((a2 == 47)), (by first | rfl | (simp; done) | (simp [*]; done) | (simp [bneNil_, beqNil_]; done) | (simp [bneNil_, beqNil_, *]; done)), H', ⟨by have := HJ6.out; have := HJ14.out; first | omega | exact Nat.le_refl _⟩, ⟨by repeat (first | (with_reducible first | exact HB.out | apply below_alloc | apply pw_below_drewN | apply below_drew1) | exact HB.out)⟩⟩
                        · rw [if_neg c26] at H
                          have c26b0 : decide (97 ≤ a2) = false := decide_eq_false c26
                          clear c26
                          (first | rw [c26b0] | (simp only [i64_w, i32_w]; rw [c26b0]) | skip)
                          by_cases c50 : a2 ≥ 65
                          · rw [if_pos c50] at H
                            have c50b0 : decide (65 ≤ a2) = true := decide_eq_true c50
                            clear c50
                            by_cases c51 : a2 ≤ 90
                            · rw [if_pos c51] at H
                              have c51b0 : decide (a2 ≤ 90) = true := decide_eq_true c51
                              clear c51
                              have H' := Aside0.mk H
                              clear H
                              go_wp2
                              go_meet
                              case rel => exact ⟨_, (true), (by first | rfl | (simp; done) | (simp [*]; done) | (simp [bneNil_, beqNil_]; done) | (simp [bneNil_, beqNil_, *]; done)), H', ⟨by have := HJ6.out; have := HJ14.out; first | omega | exact Nat.le_refl _⟩, ⟨by repeat (first | (with_reducible first | exact HB.out | apply below_alloc | apply pw_below_drewN | apply below_drew1) | exact HB.out)⟩⟩
                            · rw [if_neg c51] at H
                              have c51b0 : decide (a2 ≤ 90) = false := decide_eq_false c51
                              clear c51
                              by_cases c52 : a2 ≥ 48
                              · rw [if_pos c52] at H
                                have c52b0 : decide (48 ≤ a2) = true := decide_eq_true c52
                                clear c52
                                by_cases c53 : a2 ≤ 57
                                · rw [if_pos c53] at H
                                  have c53b0 : decide (a2 ≤ 57) = true := decide_eq_true c53
                                  clear c53
                                  have H' := Aside0.mk H
                                  clear H
                                  go_wp2
                                  go_meet
                                  case rel => exact ⟨_, (true), (by first | rfl | (simp; done) | (simp [*]; done) | (simp [bneNil_, beqNil_]; done) | (simp [bneNil_, beqNil_, *]; done)), H', ⟨by have := HJ6.out; have := HJ14.out; first | omega | exact Nat.le_refl _⟩, ⟨by repeat (first | (with_reducible first | exact HB.out | apply below_alloc | apply pw_below_drewN | apply below_drew1) | exact HB.out)⟩⟩
                                · rw [if_neg c53] at H
                                  have c53b0 : decide (a2 ≤ 57) = false := decide_eq_false c53
                                  clear c53
                                  by_cases c54 : a2 = 95
                                  · rw [if_pos c54] at H
                                    have c54b0 : (a2 == 95) = true := beq_iff_eq.mpr c54
                                    have c54b1 : (a2 != 95) = false := bne_eq_false_iff_eq.mpr c54
                                    clear c54
                                    have H' := Aside0.mk H
                                    clear H
                                    go_wp2
                                    go_meet
                                    case rel => exact ⟨_, (true), (by first | rfl | (simp; done) | (simp [*]; done) | (simp [bneNil_, beqNil_]; done) | (simp [bneNil_, beqNil_, *]; done)), H', ⟨by have := HJ6.out; have := HJ14.out; first | omega | exact Nat.le_refl _⟩, ⟨by repeat (first | (with_reducible first | exact HB.out | apply below_alloc | apply pw_below_drewN | apply below_drew1) | exact HB.out)⟩⟩
                                  · rw [if_neg c54] at H
                                    have c54b0 : (a2 == 95) = false := beq_eq_false_iff_ne.mpr c54
                                    have c54b1 : (a2 != 95) = true := bne_iff_ne.mpr c54
                                    by_cases c55 : a2 = 45
                                    · rw [if_pos c55] at H
                                      have c55b0 : (a2 == 45) = true := beq_iff_eq.mpr c55
                                      have c55b1 : (a2 != 45) = false := bne_eq_false_iff_eq.mpr c55
                                      clear c55
                                      have H' := Aside0.mk H
                                      clear H
                                      go_wp2
                                      go_meet
                                      case rel => exact ⟨_, (true), (by first | rfl | (simp; done) | (simp [*]; done) | (simp [bneNil_, beqNil_]; done) | (simp [bneNil_, beqNil_, *]; done)), H', ⟨by have := HJ6.out; have := HJ14.out; first | omega | exact Nat.le_refl _⟩, ⟨by repeat (first | (with_reducible first | exact HB.out | apply below_alloc | apply pw_below_drewN | apply below_drew1) | exact HB.out)⟩⟩
                                    · rw [if_neg c55] at H
                                      have c55b0 : (a2 == 45) = false := beq_eq_false_iff_ne.mpr c55
                                      have c55b1 : (a2 != 45) = true := bne_iff_ne.mpr c55
                                      by_cases c56 : a2 = 46
                                      · rw [if_pos c56] at H
                                        have c56b0 : (a2 == 46) = true := beq_iff_eq.mpr c56
                                        have c56b1 : (a2 != 46) = false := bne_eq_false_iff_eq.mpr c56
                                        clear c56
                                        have H' := Aside0.mk H
                                        clear H
                                        go_wp2
                                        go_meet
                                        case rel => exact ⟨_, (true), (by first | rfl | (simp; done) | (simp [*]; done) | (simp [bneNil_, beqNil_]; done) | (simp [bneNil_, beqNil_, *]; done)), H', ⟨by have := HJ6.out; have := HJ14.out; first | omega | exact Nat.le_refl _⟩, ⟨by repeat (first | (with_reducible first | exact HB.out | apply below_alloc | apply pw_below_drewN | apply below_drew1) | exact HB.out)⟩⟩
                                      · rw [if_neg c56] at H
                                        have c56b0 : (a2 == 46) = false := beq_eq_false_iff_ne.mpr c56
                                        have c56b1 : (a2 != 46) = true := bne_iff_ne.mpr c56
                                        by_cases c57 : a2 = 126
                                        · rw [if_pos c57] at H
                                          have c57b0 : (a2 == 126) = true := beq_iff_eq.mpr c57
                                          have c57b1 : (a2 != 126) = false := bne_eq_false_iff_eq.mpr c57
                                          clear c57
                                          have H' := Aside0.mk H
                                          clear H
                                          go_wp2
                                          go_meet
                                          case rel => exact ⟨_, (true), (by first | rfl | (simp; done) | (simp [*]; done) | (simp [bneNil_, beqNil_]; done) | (simp [bneNil_, beqNil_, *]; done)), H', ⟨by have := HJ6.out; have := HJ14.out; first | omega | exact Nat.le_refl _⟩, ⟨by repeat (first | (with_reducible first | exact HB.out | apply below_alloc | apply pw_below_drewN | apply below_drew1) | exact HB.out)⟩⟩
                                        · rw [if_neg c57] at H
                                          have c57b0 : (a2 == 126) = false := beq_eq_false_iff_ne.mpr c57
                                          have c57b1 : (a2 != 126) = true := bne_iff_ne.mpr c57
                                          have H' := Aside0.mk H
                                          clear H
                                          go_wp2
                                          go_meet
                                          case rel => exact ⟨_, ((a2 == 47)), (by first | rfl | (simp; done) | (simp [*]; done) | (simp [bneNil_, beqNil_]; done) | (simp [bneNil_, beqNil_, *]; done)), H', ⟨by have := HJ6.out; have := HJ14.out; first | omega | exact Nat.le_refl _⟩, ⟨by repeat (first | (with_reducible first | exact HB.out | apply below_alloc | apply pw_below_drewN | apply below_drew1) | exact HB.out)⟩⟩
                              · rw [if_neg c52] at H
                                have c52b0 : decide (48 ≤ a2) = false := decide_eq_false c52
                                clear c52
                                by_cases c58 : a2 = 95
                                · rw [if_pos c58] at H
                                  have c58b0 : (a2 == 95) = true := beq_iff_eq.mpr c58
                                  have c58b1 : (a2 != 95) = false := bne_eq_false_iff_eq.mpr c58
                                  clear c58
                                  have H' := Aside0.mk H
                                  clear H
                                  go_wp2
                                  go_meet
                                  case rel => exact ⟨_, (true), (by first | rfl | (simp; done) | (simp [*]; done) | (simp [bneNil_, beqNil_]; done) | (simp [bneNil_, beqNil_, *]; done)), H', ⟨by have := HJ6.out; have := HJ14.out; first | omega | exact Nat.le_refl _⟩, ⟨by repeat (first | (with_reducible first | exact HB.out | apply below_alloc | apply pw_below_drewN | apply below_drew1) | exact HB.out)⟩⟩
                                · rw [if_neg c58] at H
                                  have c58b0 : (a2 == 95) = false := beq_eq_false_iff_ne.mpr c58
                                  have c58b1 : (a2 != 95) = true := bne_iff_ne.mpr c58
                                  by_cases c59 : a2 = 45
                                  · rw [if_pos c59] at H
                                    have c59b0 : (a2 == 45) = true := beq_iff_eq.mpr c59
                                    have c59b1 : (a2 != 45) = false := bne_eq_false_iff_eq.mpr c59
                                    clear c59
                                    have H' := Aside0.mk H
                                    clear H
                                    go_wp2
                                    go_meet
                                    case rel => exact ⟨_, (true), (by first | rfl | (simp; done) | (simp [*]; done) | (simp [bneNil_, beqNil_]; done) | (simp [bneNil_, beqNil_, *]; done)), H', ⟨by have := HJ6.out; have := HJ14.out; first | omega | exact Nat.le_refl _⟩, ⟨by repeat (first | (with_reducible first | exact HB.out | apply below_alloc | apply pw_below_drewN | apply below_drew1) | exact HB.out)⟩⟩
                                  · rw [if_neg c59] at H
                                    have c59b0 : (a2 == 45) = false := beq_eq_false_iff_ne.mpr c59
                                    have c59b1 : (a2 != 45) = true := bne_iff_ne.mpr c59
                                    by_cases c60 : a2 = 46
                                    · rw [if_pos c60] at H
                                      have c60b0 : (a2 == 46) = true := beq_iff_eq.mpr c60
                                      have c60b1 : (a2 != 46) = false := bne_eq_false_iff_eq.mpr c60
                                      clear c60
                                      have H' := Aside0.mk H
                                      clear H
                                      go_wp2
                                      go_meet
                                      case rel => exact ⟨_, (true), (by first | rfl | (simp; done) | (simp [*]; done) | (simp [bneNil_, beqNil_]; done) | (simp [bneNil_, beqNil_, *]; done)), H', ⟨by have := HJ6.out; have := HJ14.out; first | omega | exact Nat.le_refl _⟩, ⟨by repeat (first | (with_reducible first | exact HB.out | apply below_alloc | apply pw_below_drewN | apply below_drew1) | exact HB.out)⟩⟩
                                    · rw [if_neg c60] at H
                                      have c60b0 : (a2 == 46) = false := beq_eq_false_iff_ne.mpr c60
                                      have c60b1 : (a2 != 46) = true := bne_iff_ne.mpr c60
                                      by_cases c61 : a2 = 126
                                      · rw [if_pos c61] at H
                                        have c61b0 : (a2 == 126) = true := beq_iff_eq.mpr c61
                                        have c61b1 : (a2 != 126) = false := bne_eq_false_iff_eq.mpr c61
                                        clear c61
                                        have H' := Aside0.mk H
                                        clear H
                                        go_wp2
                                        go_meet
                                        case rel => exact ⟨_, (true), (by first | rfl | (simp; done) | (simp [*]; done) | (simp [bneNil_, beqNil_]; done) | (simp [bneNil_, beqNil_, *]; done)), H', ⟨by have := HJ6.out; have := HJ14.out; first | omega | exact Nat.le_refl _⟩, ⟨by repeat (first | (with_reducible first | exact HB.out | apply below_alloc | apply pw_below_drewN | apply below_drew1) | exact HB.out)⟩⟩
                                      · rw [if_neg c61] at H
                                        have c61b0 : (a2 == 126) = false := beq_eq_false_iff_ne.mpr c61
                                        have c61b1 : (a2 != 126) = true := bne_iff_ne.mpr c61
                                        have H' := Aside0.mk H
                                        clear H
                                        go_wp2
                                        go_meet
                                        case rel => exact ⟨_, ((a2 == 47)), (by first | rfl | (simp; done) | (simp [*]; done) | (simp [bneNil_, beqNil_]; done) | (simp [bneNil_, beqNil_, *]; done)), H', ⟨by have := HJ6.out; have := HJ14.out; first | omega | exact Nat.le_refl _⟩, ⟨by repeat (first | (with_reducible first | exact HB.out | apply below_alloc | apply pw_below_drewN | apply below_drew1) | exact HB.out)⟩⟩
                          · rw [if_neg c50] at H
                            have c50b0 : decide (65 ≤ a2) = false := decide_eq_false c50
                            clear c50
                            by_cases c62 : a2 ≥ 48
                            · rw [if_pos c62] at H
                              have c62b0 : decide (48 ≤ a2) = true := decide_eq_true c62
                              clear c62
                              by_cases c63 : a2 ≤ 57
                              · rw [if_pos c63] at H
                                have c63b0 : decide (a2 ≤ 57) = true := decide_eq_true c63
                                clear c63
                                have H' := Aside0.mk H
                                clear H
                                go_wp2
                                go_meet
                                case rel => exact ⟨_, (true), (by first | rfl | (simp; done) | (simp [*]; done) | (simp [bneNil_, beqNil_]; done) | (simp [bneNil_, beqNil_, *]; done)), H', ⟨by have := HJ6.out; have := HJ14.out; first | omega | exact Nat.le_refl _⟩, ⟨by repeat (first | (with_reducible first | exact HB.out | apply below_alloc | apply pw_below_drewN | apply below_drew1) | exact HB.out)⟩⟩
                              · rw [if_neg c63] at H
                                have c63b0 : decide (a2 ≤ 57) = false := decide_eq_false c63
                                clear c63
                                by_cases c64 : a2 = 95
                                · rw [if_pos c64] at H
                                  have c64b0 : (a2 == 95) = true := beq_iff_eq.mpr c64
                                  have c64b1 : (a2 != 95) = false := bne_eq_false_iff_eq.mpr c64
                                  clear c64
                                  have H' := Aside0.mk H
                                  clear H
                                  go_wp2
                                  go_meet
                                  case rel => exact ⟨_, (true), (by first | rfl | (simp; done) | (simp [*]; done) | (simp [bneNil_, beqNil_]; done) | (simp [bneNil_, beqNil_, *]; done)), H', ⟨by have := HJ6.out; have := HJ14.out; first | omega | exact Nat.le_refl _⟩, ⟨by repeat (first | (with_reducible first | exact HB.out | apply below_alloc | apply pw_below_drewN | apply below_drew1) | exact HB.out)⟩⟩
                                · rw [if_neg c64] at H
                                  have c64b0 : (a2 == 95) = false := beq_eq_false_iff_ne.mpr c64
                                  have c64b1 : (a2 != 95) = true := bne_iff_ne.mpr c64
                                  by_cases c65 : a2 = 45
                                  · rw [if_pos c65] at H
                                    have c65b0 : (a2 == 45) = true := beq_iff_eq.mpr c65
                                    have c65b1 : (a2 != 45) = false := bne_eq_false_iff_eq.mpr c65
                                    clear c65
                                    have H' := Aside0.mk H
                                    clear H
                                    go_wp2
                                    go_meet
                                    case rel => exact ⟨_, (true), (by first | rfl | (simp; done) | (simp [*]; done) | (simp [bneNil_, beqNil_]; done) | (simp [bneNil_, beqNil_, *]; done)), H', ⟨by have := HJ6.out; have := HJ14.out; first | omega | exact Nat.le_refl _⟩, ⟨by repeat (first | (with_reducible first | exact HB.out | apply below_alloc | apply pw_below_drewN | apply below_drew1) | exact HB.out)⟩⟩
                                  · rw [if_neg c65] at H
                                    have c65b0 : (a2 == 45) = false := beq_eq_false_iff_ne.mpr c65
                                    have c65b1 : (a2 != 45) = true := bne_iff_ne.mpr c65
                                    by_cases c66 : a2 = 46
                                    · rw [if_pos c66] at H
                                      have c66b0 : (a2 == 46) = true := beq_iff_eq.mpr c66
                                      have c66b1 : (a2 != 46) = false := bne_eq_false_iff_eq.mpr c66
                                      clear c66
                                      have H' := Aside0.mk H
                                      clear H
                                      go_wp2
                                      go_meet
                                      case rel => exact ⟨_, (true), (by first | rfl | (simp; done) | (simp [*]; done) | (simp [bneNil_, beqNil_]; done) | (simp [bneNil_, beqNil_, *]; done)), H', ⟨by have := HJ6.out; have := HJ14.out; first | omega | exact Nat.le_refl _⟩, ⟨by repeat (first | (with_reducible first | exact HB.out | apply below_alloc | apply pw_below_drewN | apply below_drew1) | exact HB.out)⟩⟩
                                    · rw [if_neg c66] at H
                                      have c66b0 : (a2 == 46) = false := beq_eq_false_iff_ne.mpr c66
                                      have c66b1 : (a2 != 46) = true := bne_iff_ne.mpr c66
                                      by_cases c67 : a2 = 126
                                      · rw [if_pos c67] at H
                                        have c67b0 : (a2 == 126) = true := beq_iff_eq.mpr c67
                                        have c67b1 : (a2 != 126) = false := bne_eq_false_iff_eq.mpr c67
                                        clear c67
                                        have H' := Aside0.mk H
                                        clear H
                                        go_wp2
                                        go_meet
                                        case rel => exact ⟨_, (true), (by first | rfl | (simp; done) | (simp [*]; done) | (simp [bneNil_, beqNil_]; done) | (simp [bneNil_, beqNil_, *]; done)), H', ⟨by have := HJ6.out; have := HJ14.out; first | omega | exact Nat.le_refl _⟩, ⟨by repeat (first | (with_reducible first | exact HB.out | apply below_alloc | apply pw_below_drewN | apply below_drew1) | exact HB.out)⟩⟩
                                      · rw [if_neg c67] at H
                                        have c67b0 : (a2 == 126) = false := beq_eq_false_iff_ne.mpr c67
                                        have c67b1 : (a2 != 126) = true := bne_iff_ne.mpr c67
                                        have H' := Aside0.mk H
                                        clear H
                                        go_wp2
                                        go_meet
                                        case rel => exact ⟨_, ((a2 == 47)), (by first | rfl | (simp; done) | (simp [*]; done) | (simp [bneNil_, beqNil_]; done) | (simp [bneNil_, beqNil_, *]; done)), H', ⟨by have := HJ6.out; have := HJ14.out; first | omega | exact Nat.le_refl _⟩, ⟨by repeat (first | (with_reducible first | exact HB.out | apply below_alloc | apply pw_below_drewN | apply below_drew1) | exact HB.out)⟩⟩
                            · rw [if_neg c62] at H
                              have c62b0 : decide (48 ≤ a2) = false := decide_eq_false c62
                              clear c62
                              by_cases c68 : a2 = 95
                              · rw [if_pos c68] at H
                                have c68b0 : (a2 == 95) = true := beq_iff_eq.mpr c68
                                have c68b1 : (a2 != 95) = false := bne_eq_false_iff_eq.mpr c68
                                clear c68
                                have H' := Aside0.mk H
                                clear H
                                go_wp2
                                go_meet
                                case rel => exact ⟨_, (true), (by first | rfl | (simp; done) | (simp [*]; done) | (simp [bneNil_, beqNil_]; done) | (simp [bneNil_, beqNil_, *]; done)), H', ⟨by have := HJ6.out; have := HJ14.out; first | omega | exact Nat.le_refl _⟩, ⟨by repeat (first | (with_reducible first | exact HB.out | apply below_alloc | apply pw_below_drewN | apply below_drew1) | exact HB.out)⟩⟩
                              · rw [if_neg c68] at H
                                have c68b0 : (a2 == 95) = false := beq_eq_false_iff_ne.mpr c68
                                have c68b1 : (a2 != 95) = true := bne_iff_ne.mpr c68
                                by_cases c69 : a2 = 45
                                · rw [if_pos c69] at H
                                  have c69b0 : (a2 == 45) = true := beq_iff_eq.mpr c69
                                  have c69b1 : (a2 != 45) = false := bne_eq_false_iff_eq.mpr c69
                                  clear c69
                                  have H' := Aside0.mk H
                                  clear H
                                  go_wp2
                                  go_meet
                                  case rel => exact ⟨_, (true), (by first | rfl | (simp; done) | (simp [*]; done) | (simp [bneNil_, beqNil_]; done) | (simp [bneNil_, beqNil_, *]; done)), H', ⟨by have := HJ6.out; have := HJ14.out; first | omega | exact Nat.le_refl _⟩, ⟨by repeat (first | (with_reducible first | exact HB.out | apply below_alloc | apply pw_below_drewN | apply below_drew1) | exact HB.out)⟩⟩
                                · rw [if_neg c69] at H
                                  have c69b0 : (a2 == 45) = false := beq_eq_false_iff_ne.mpr c69
                                  have c69b1 : (a2 != 45) = true := bne_iff_ne.mpr c69
                                  by_cases c70 : a2 = 46
                                  · rw [if_pos c70] at H
                                    have c70b0 : (a2 == 46) = true := beq_iff_eq.mpr c70
                                    have c70b1 : (a2 != 46) = false := bne_eq_false_iff_eq.mpr c70
                                    clear c70
                                    have H' := Aside0.mk H
                                    clear H
                                    go_wp2
                                    go_meet
                                    case rel => exact ⟨_, (true), (by first | rfl | (simp; done) | (simp [*]; done) | (simp [bneNil_, beqNil_]; done) | (simp [bneNil_, beqNil_, *]; done)), H', ⟨by have := HJ6.out; have := HJ14.out; first | omega | exact Nat.le_refl _⟩, ⟨by repeat (first | (with_reducible first | exact HB.out | apply below_alloc | apply pw_below_drewN | apply below_drew1) | exact HB.out)⟩⟩
                                  · rw [if_neg c70] at H
                                    have c70b0 : (a2 == 46) = false := beq_eq_false_iff_ne.mpr c70
                                    have c70b1 : (a2 != 46) = true := bne_iff_ne.mpr c70
                                    by_cases c71 : a2 = 126
                                    · rw [if_pos c71] at H
                                      have c71b0 : (a2 == 126) = true := beq_iff_eq.mpr c71
                                      have c71b1 : (a2 != 126) = false := bne_eq_false_iff_eq.mpr c71
                                      clear c71
                                      have H' := Aside0.mk H
                                      clear H
                                      go_wp2
                                      go_meet
                                      case rel => exact ⟨_, (true), (by first | rfl | (simp; done) | (simp [*]; done) | (simp [bneNil_, beqNil_]; done) | (simp [bneNil_, beqNil_, *]; done)), H', ⟨by have := HJ6.out; have := HJ14.out; first | omega | exact Nat.le_refl _⟩, ⟨by repeat (first | (with_reducible first | exact HB.out | apply below_alloc | apply pw_below_drewN | apply below_drew1) | exact HB.out)⟩⟩
                                    · rw [if_neg c71] at H
                                      have c71b0 : (a2 == 126) = false := beq_eq_false_iff_ne.mpr c71
                                      have c71b1 : (a2 != 126) = true := bne_iff_ne.mpr c71
                                      have H' := Aside0.mk H
                                      clear H
                                      go_wp2
                                      go_meet
                                      case rel => exact ⟨_, ((a2 == 47)), (by first | rfl | (simp; done) | (simp [*]; done) | (simp [bneNil_, beqNil_]; done) | (simp [bneNil_, beqNil_, *]; done)), H', ⟨by have := HJ6.out; have := HJ14.out; first | omega | exact Nat.le_refl _⟩, ⟨by repeat (first | (with_reducible first | exact HB.out | apply below_alloc | apply pw_below_drewN | apply below_drew1) | exact HB.out)⟩⟩
                      case rest =>
                        clear HC25
                        try clear c2
                        try clear p2
                        try clear c3
                        try clear c4
                        try clear c5
                        try clear c6
                        try clear c7
                        try clear c26
                        try clear c26b0
                        try clear c27
                        try clear c27b0
                        try clear c28
                        try clear c28b0
                        try clear c29
                        try clear c29b0
                        try clear c30
                        try clear c30b0
                        try clear c31
                        try clear c31b0
                        try clear c32
                        try clear c32b0
                        try clear c32b1
                        try clear c33
                        try clear c33b0
                        try clear c33b1
                        try clear c34
                        try clear c34b0
                        try clear c34b1
                        try clear c35
                        try clear c35b0
                        try clear c35b1
                        try clear c36
                        try clear c36b0
                        try clear c36b1
                        try clear c37
                        try clear c37b0
                        try clear c37b1
                        try clear c38
                        try clear c38b0
                        try clear c38b1
                        try clear c39
                        try clear c39b0
                        try clear c39b1
                        try clear c40
                        try clear c40b0
                        try clear c41
                        try clear c41b0
                        try clear c42
                        try clear c42b0
                        try clear c42b1
                        try clear c43
                        try clear c43b0
                        try clear c43b1
                        try clear c44
                        try clear c44b0
                        try clear c44b1
                        try clear c45
                        try clear c45b0
                        try clear c45b1
                        try clear c46
                        try clear c46b0
                        try clear c46b1
                        try clear c47
                        try clear c47b0
                        try clear c47b1
                        try clear c48
                        try clear c48b0
                        try clear c48b1
                        try clear c49
                        try clear c49b0
                        try clear c49b1
                        try clear c50
                        try clear c50b0
                        try clear c51
                        try clear c51b0
                        try clear c52
                        try clear c52b0
                        try clear c53
                        try clear c53b0
                        try clear c54
                        try clear c54b0
                        try clear c54b1
                        try clear c55
                        try clear c55b0
                        try clear c55b1
                        try clear c56
                        try clear c56b0
                        try clear c56b1
                        try clear c57
                        try clear c57b0
                        try clear c57b1
                        try clear c58
                        try clear c58b0
                        try clear c58b1
                        try clear c59
                        try clear c59b0
                        try clear c59b1
                        try clear c60
                        try clear c60b0
                        try clear c60b1
                        try clear c61
                        try clear c61b0
                        try clear c61b1
                        try clear c62
                        try clear c62b0
                        try clear c63
                        try clear c63b0
                        try clear c64
                        try clear c64b0
                        try clear c64b1
                        try clear c65
                        try clear c65b0
                        try clear c65b1
                        try clear c66
                        try clear c66b0
                        try clear c66b1
                        try clear c67
                        try clear c67b0
                        try clear c67b1
                        try clear c68
                        try clear c68b0
                        try clear c68b1
                        try clear c69
                        try clear c69b0
                        try clear c69b1
                        try clear c70
                        try clear c70b0
                        try clear c70b1
                        try clear c71
                        try clear c71b0
                        try clear c71b1
                        obtain ⟨kq, x11_24, rfl, HA, HJ24, HB⟩ := hcut
                        cases kq with
                        | zero => exact absurd HA.out (by simp [outlawlaw04_IdentEvents.j2])
                        | succ kj24 =>
                          have H := HA.out
                          clear HA
                          simp only [outlawlaw04_IdentEvents.j2] at H
                          replace H := Option.bind_eq_some_iff.mp H
                          obtain ⟨t113, A720, H⟩ := H
                          replace H : (if 0 ≤ t113 then (if t113 ≤ (a0.size : Int) then (if 1 + (a0.extract 0 (t113 : Int).toNat).size ≤ 9223372036854775807 then ((some (([a2] : List Int) : List Int)).bind fun y114 => (if ((⟨#[36]⟩ : ByteArray) ++ (a0.extract 0 (t113 : Int).toNat)).size + (strOfNums y114).size ≤ 9223372036854775807 then (if 0 ≤ (wrap64 (t113 + 1)) then (if (wrap64 (t113 + 1)) ≤ (a0.size : Int) then (if (((⟨#[36]⟩ : ByteArray) ++ (a0.extract 0 (t113 : Int).toNat)) ++ (strOfNums y114)).size + (a0.extract ((wrap64 (t113 + 1)) : Int).toNat a0.size).size ≤ 9223372036854775807 then ((ident_EventID.f ((((⟨#[36]⟩ : ByteArray) ++ (a0.extract 0 (t113 : Int).toNat)) ++ (strOfNums y114)) ++ (a0.extract ((wrap64 (t113 + 1)) : Int).toNat a0.size))).bind fun t117 => (some (t117 == x11_24))) else (none)) else (none)) else (none)) else (none))) else (none)) else (none)) else (none)) = some r := H
                          have A72 := Aside0.mk A720
                          clear A720
                          by_cases c73 : 0 ≤ t113
                          · rw [if_pos c73] at H
                            have c73b0 := eq_true c73
                            have c73b1 : decide (0 ≤ t113) = true := decide_eq_true c73
                            clear c73
                            by_cases c74 : t113 ≤ (a0.size : Int)
                            · rw [if_pos c74] at H
                              have c74b0 := eq_true c74
                              have c74b1 : decide (t113 ≤ (a0.size : Int)) = true := decide_eq_true c74
                              clear c74
                              by_cases c75 : 1 + (a0.extract 0 (t113 : Int).toNat).size ≤ 9223372036854775807
                              · rw [if_pos c75] at H
                                have c75b0 := eq_true c75
                                have c75b1 : decide (1 + (a0.extract 0 (t113 : Int).toNat).size ≤ 9223372036854775807) = true := decide_eq_true c75
                                try have c75b2 : (9223372036854775807 < 1 + (a0.extract 0 (t113 : Int).toNat).size) = False := eq_false (Nat.not_lt.2 c75)
                                obtain ⟨y114, hy114⟩ : ∃ y_ : List Int, y_ = (([a2] : List Int)) := ⟨_, rfl⟩
                                replace H : (if ((⟨#[36]⟩ : ByteArray) ++ (a0.extract 0 (t113 : Int).toNat)).size + (strOfNums y114).size ≤ 9223372036854775807 then (if 0 ≤ (wrap64 (t113 + 1)) then (if (wrap64 (t113 + 1)) ≤ (a0.size : Int) then (if (((⟨#[36]⟩ : ByteArray) ++ (a0.extract 0 (t113 : Int).toNat)) ++ (strOfNums y114)).size + (a0.extract ((wrap64 (t113 + 1)) : Int).toNat a0.size).size ≤ 9223372036854775807 then ((ident_EventID.f ((((⟨#[36]⟩ : ByteArray) ++ (a0.extract 0 (t113 : Int).toNat)) ++ (strOfNums y114)) ++ (a0.extract ((wrap64 (t113 + 1)) : Int).toNat a0.size))).bind fun t117 => (some (t117 == x11_24))) else (none)) else (none)) else (none)) else (none)) = some r := by first | (rw [hy114]; with_reducible exact H) | (have H2_ := (Option.bind_some _ _).symm.trans H; rw [hy114]; with_reducible exact H2_) | (have H2_ := (Option.bind_some _ _).symm.trans H; with_reducible exact H2_) | with_reducible exact H | (rw [hy114]; exact H) | exact H
                                have Ny114 := Aside0.mk hy114
                                clear hy114
                                by_cases c76 : ((⟨#[36]⟩ : ByteArray) ++ (a0.extract 0 (t113 : Int).toNat)).size + (strOfNums y114).size ≤ 9223372036854775807
                                · rw [if_pos c76] at H
                                  have c76b0 := eq_true c76
                                  have c76b1 : decide (((⟨#[36]⟩ : ByteArray) ++ (a0.extract 0 (t113 : Int).toNat)).size + (strOfNums y114).size ≤ 9223372036854775807) = true := decide_eq_true c76
                                  try have c76b2 : (9223372036854775807 < ((⟨#[36]⟩ : ByteArray) ++ (a0.extract 0 (t113 : Int).toNat)).size + (strOfNums y114).size) = False := eq_false (Nat.not_lt.2 c76)
                                  obtain ⟨ji77, hji77⟩ : ∃ j_ : Int, (wrap64 (t113 + 1)) = j_ := ⟨_, rfl⟩
                                  replace H : (if 0 ≤ (ji77) then (if (ji77) ≤ (a0.size : Int) then (if (((⟨#[36]⟩ : ByteArray) ++ (a0.extract 0 (t113 : Int).toNat)) ++ (strOfNums y114)).size + (a0.extract ((ji77) : Int).toNat a0.size).size ≤ 9223372036854775807 then ((ident_EventID.f ((((⟨#[36]⟩ : ByteArray) ++ (a0.extract 0 (t113 : Int).toNat)) ++ (strOfNums y114)) ++ (a0.extract ((ji77) : Int).toNat a0.size))).bind fun t117 => (some (t117 == x11_24))) else (none)) else (none)) else (none)) = some r := by first | (rw [hji77] at H; exact H) | (simp only [hji77] at H ⊢; exact H)
                                  (try rw [hji77] at A72)
                                  have hji77w : (IntKind.i64.wrap (t113 + 1)) = ji77 := (i64_w _).trans hji77
                                  by_cases c78 : 0 ≤ (ji77)
                                  · rw [if_pos c78] at H
                                    have c78b0 := eq_true c78
                                    have c78b1 : decide (0 ≤ (ji77)) = true := decide_eq_true c78
                                    clear c78
                                    by_cases c79 : (ji77) ≤ (a0.size : Int)
                                    · rw [if_pos c79] at H
                                      have c79b0 := eq_true c79
                                      have c79b1 : decide ((ji77) ≤ (a0.size : Int)) = true := decide_eq_true c79
                                      clear c79
                                      by_cases c80 : (((⟨#[36]⟩ : ByteArray) ++ (a0.extract 0 (t113 : Int).toNat)) ++ (strOfNums y114)).size + (a0.extract ((ji77) : Int).toNat a0.size).size ≤ 9223372036854775807
                                      · rw [if_pos c80] at H
                                        have c80b0 := eq_true c80
                                        have c80b1 : decide ((((⟨#[36]⟩ : ByteArray) ++ (a0.extract 0 (t113 : Int).toNat)) ++ (strOfNums y114)).size + (a0.extract ((ji77) : Int).toNat a0.size).size ≤ 9223372036854775807) = true := decide_eq_true c80
                                        try have c80b2 : (9223372036854775807 < (((⟨#[36]⟩ : ByteArray) ++ (a0.extract 0 (t113 : Int).toNat)) ++ (strOfNums y114)).size + (a0.extract ((ji77) : Int).toNat a0.size).size) = False := eq_false (Nat.not_lt.2 c80)
                                        replace H := Option.bind_eq_some_iff.mp H
                                        obtain ⟨t117, A810, H⟩ := H
                                        replace H : (some (t117 == x11_24)) = some r := H
                                        have A81 := Aside0.mk A810
                                        clear A810
                                        obtain rfl := Option.some.inj H
                                        try go_wp2_with (first | ((with_reducible refine gate_callee (f := 25) rfl ?_); refine goesL_ (some 104) rfl rfl Try.func25 (by kernel_rfl) rfl #[.int .i64 a3, .int .i64 (a0.size : Int)] rfl (by (try simp only [List.map_toArray, List.map_cons, List.map_nil]); first | done | rfl | (simp only [List.length_drop, List.length_take]; rfl)) ?_; (with_reducible refine (outlawkit_Pick.calls a3 (a0.size : Int) t113 _ A72.out).mono ?_); rintro e w' ⟨rfl, ⟨nd, rfl⟩⟩; refine ⟨_, rfl, ?_⟩))
                                        (try (rw [drewN_self wc]; generalize hq_ : World.drewN wc _ = wc; have n0_ : Aside0 (Below w.heap.size w wc) := ⟨by rw [← hq_]; exact (by repeat (first | (with_reducible first | exact HB.out | apply below_alloc | apply pw_below_drewN | apply below_drew1) | exact HB.out))⟩; clear HB hq_; have HB := n0_; clear n0_))
                                        have n0_ := Aside0.mk (below_drew1 HB.out)
                                        clear HB
                                        have HB := n0_
                                        clear n0_
                                        refine start_ (n := 17) (S := fun w' => True) (ds := []) #[false, false, false, false, false, false, false, false, false, false, false, false, false, false, false, false, false] (by kernel_rfl) rfl rfl trivial (fun hHeld => ?_); refine with_tabW outlawlaw04_IdentEvents.tab12 outlawlaw04_IdentEvents.bits12 (fun HT_ HW_ => ?_)
                                        generalize wc.drew = w82 at HB hHeld ⊢
                                        refine pure_ (i := 0) (N := some 105) (v := ?_) (a' := ?_) #[true, false, false, false, false, false, false, false, false, false, false, false, false, false, false, false, false] rfl rfl (any_of HT_.out (by kernel_rfl)) (fun _ _ _ h => h) (Or.inl ⟨by rfl, ?_⟩) ?_ ?_
                                        rotate_left
                                        · intro w'
                                          go_simp
                                          first | with_reducible rfl | (rw [if_neg (by have hm_ : ∀ x : UInt8, (⟨#[x]⟩ : ByteArray).size = 1 := fun _ => rfl; have hm2_ : ∀ x y : UInt8, (⟨#[x, y]⟩ : ByteArray).size = 2 := fun _ _ => rfl; have hm3_ : ∀ x y z : UInt8, (⟨#[x, y, z]⟩ : ByteArray).size = 3 := fun _ _ _ => rfl; (try simp only [ByteArray.size_append, ByteArray.size_extract, hm_, hm2_, hm3_, strOfNums_size]); (try have h_c11b0 := of_eq_true c11b0); (try have h_c13b0 := of_eq_true c13b0); (try have h_c20b0 := of_eq_true c20b0); (try have h_c73b0 := of_eq_true c73b0); (try have h_c74b0 := of_eq_true c74b0); (try have h_c75b0 := of_eq_true c75b0); (try have h_c76b0 := of_eq_true c76b0); (try have h_c78b0 := of_eq_true c78b0); (try have h_c79b0 := of_eq_true c79b0); (try have h_c80b0 := of_eq_true c80b0); (try have h_c87b0 := of_eq_true c87b0); (try have h_c88b0 := of_eq_true c88b0); (try have h_c11 := c11); (try have h_c13 := c13); (try have h_c20 := c20); (try have h_c75 := c75); (try have h_c76 := c76); (try have h_c80 := c80); (try have h_c87 := c87); (try have h_c88 := c88); (try simp only [ByteArray.size_append, ByteArray.size_extract, hm_, hm2_, hm3_, strOfNums_size, List.size_toArray, List.length_cons, List.length_nil, Nat.zero_add] at h_c11); (try simp only [ByteArray.size_append, ByteArray.size_extract, hm_, hm2_, hm3_, strOfNums_size, List.size_toArray, List.length_cons, List.length_nil, Nat.zero_add] at h_c13); (try simp only [ByteArray.size_append, ByteArray.size_extract, hm_, hm2_, hm3_, strOfNums_size, List.size_toArray, List.length_cons, List.length_nil, Nat.zero_add] at h_c20); (try simp only [ByteArray.size_append, ByteArray.size_extract, hm_, hm2_, hm3_, strOfNums_size, List.size_toArray, List.length_cons, List.length_nil, Nat.zero_add] at h_c75); (try simp only [ByteArray.size_append, ByteArray.size_extract, hm_, hm2_, hm3_, strOfNums_size, List.size_toArray, List.length_cons, List.length_nil, Nat.zero_add] at h_c76); (try simp only [ByteArray.size_append, ByteArray.size_extract, hm_, hm2_, hm3_, strOfNums_size, List.size_toArray, List.length_cons, List.length_nil, Nat.zero_add] at h_c80); (try simp only [ByteArray.size_append, ByteArray.size_extract, hm_, hm2_, hm3_, strOfNums_size, List.size_toArray, List.length_cons, List.length_nil, Nat.zero_add] at h_c87); (try simp only [ByteArray.size_append, ByteArray.size_extract, hm_, hm2_, hm3_, strOfNums_size, List.size_toArray, List.length_cons, List.length_nil, Nat.zero_add] at h_c88); omega)]; try with_reducible rfl)
                                        rotate_left
                                        · simp only [Act.put, List.setIfInBounds_toArray, List.set_cons_zero, List.set_cons_succ, i64_w, i32_w]
                                          rfl
                                        refine pure_ (i := 1) (N := some 106) (v := ?_) (a' := ?_) #[true, true, false, false, false, false, false, false, false, false, false, false, false, false, false, false, false] rfl rfl (any_of HT_.out (by kernel_rfl)) (fun _ _ _ h => h) (Or.inl ⟨by rfl, ?_⟩) ?_ ?_
                                        rotate_left
                                        · intro w'
                                          go_simp
                                          first | with_reducible rfl | (rw [if_neg (by have hm_ : ∀ x : UInt8, (⟨#[x]⟩ : ByteArray).size = 1 := fun _ => rfl; have hm2_ : ∀ x y : UInt8, (⟨#[x, y]⟩ : ByteArray).size = 2 := fun _ _ => rfl; have hm3_ : ∀ x y z : UInt8, (⟨#[x, y, z]⟩ : ByteArray).size = 3 := fun _ _ _ => rfl; (try simp only [ByteArray.size_append, ByteArray.size_extract, hm_, hm2_, hm3_, strOfNums_size]); (try have h_c11b0 := of_eq_true c11b0); (try have h_c13b0 := of_eq_true c13b0); (try have h_c20b0 := of_eq_true c20b0); (try have h_c73b0 := of_eq_true c73b0); (try have h_c74b0 := of_eq_true c74b0); (try have h_c75b0 := of_eq_true c75b0); (try have h_c76b0 := of_eq_true c76b0); (try have h_c78b0 := of_eq_true c78b0); (try have h_c79b0 := of_eq_true c79b0); (try have h_c80b0 := of_eq_true c80b0); (try have h_c87b0 := of_eq_true c87b0); (try have h_c88b0 := of_eq_true c88b0); (try have h_c11 := c11); (try have h_c13 := c13); (try have h_c20 := c20); (try have h_c75 := c75); (try have h_c76 := c76); (try have h_c80 := c80); (try have h_c87 := c87); (try have h_c88 := c88); (try simp only [ByteArray.size_append, ByteArray.size_extract, hm_, hm2_, hm3_, strOfNums_size, List.size_toArray, List.length_cons, List.length_nil, Nat.zero_add] at h_c11); (try simp only [ByteArray.size_append, ByteArray.size_extract, hm_, hm2_, hm3_, strOfNums_size, List.size_toArray, List.length_cons, List.length_nil, Nat.zero_add] at h_c13); (try simp only [ByteArray.size_append, ByteArray.size_extract, hm_, hm2_, hm3_, strOfNums_size, List.size_toArray, List.length_cons, List.length_nil, Nat.zero_add] at h_c20); (try simp only [ByteArray.size_append, ByteArray.size_extract, hm_, hm2_, hm3_, strOfNums_size, List.size_toArray, List.length_cons, List.length_nil, Nat.zero_add] at h_c75); (try simp only [ByteArray.size_append, ByteArray.size_extract, hm_, hm2_, hm3_, strOfNums_size, List.size_toArray, List.length_cons, List.length_nil, Nat.zero_add] at h_c76); (try simp only [ByteArray.size_append, ByteArray.size_extract, hm_, hm2_, hm3_, strOfNums_size, List.size_toArray, List.length_cons, List.length_nil, Nat.zero_add] at h_c80); (try simp only [ByteArray.size_append, ByteArray.size_extract, hm_, hm2_, hm3_, strOfNums_size, List.size_toArray, List.length_cons, List.length_nil, Nat.zero_add] at h_c87); (try simp only [ByteArray.size_append, ByteArray.size_extract, hm_, hm2_, hm3_, strOfNums_size, List.size_toArray, List.length_cons, List.length_nil, Nat.zero_add] at h_c88); omega)]; try with_reducible rfl)
                                        rotate_left
                                        · simp only [Act.put, List.setIfInBounds_toArray, List.set_cons_zero, List.set_cons_succ, i64_w, i32_w]
                                          rfl
                                        refine pure_ (i := 2) (N := some 107) (v := ?_) (a' := ?_) #[true, true, true, false, false, false, false, false, false, false, false, false, false, false, false, false, false] rfl rfl (any_of HT_.out (by kernel_rfl)) (fun _ _ _ h => h) (Or.inl ⟨by rfl, ?_⟩) ?_ ?_
                                        rotate_left
                                        · intro w'
                                          go_simp
                                          first | with_reducible rfl | (rw [if_neg (by have hm_ : ∀ x : UInt8, (⟨#[x]⟩ : ByteArray).size = 1 := fun _ => rfl; have hm2_ : ∀ x y : UInt8, (⟨#[x, y]⟩ : ByteArray).size = 2 := fun _ _ => rfl; have hm3_ : ∀ x y z : UInt8, (⟨#[x, y, z]⟩ : ByteArray).size = 3 := fun _ _ _ => rfl; (try simp only [ByteArray.size_append, ByteArray.size_extract, hm_, hm2_, hm3_, strOfNums_size]); (try have h_c11b0 := of_eq_true c11b0); (try have h_c13b0 := of_eq_true c13b0); (try have h_c20b0 := of_eq_true c20b0); (try have h_c73b0 := of_eq_true c73b0); (try have h_c74b0 := of_eq_true c74b0); (try have h_c75b0 := of_eq_true c75b0); (try have h_c76b0 := of_eq_true c76b0); (try have h_c78b0 := of_eq_true c78b0); (try have h_c79b0 := of_eq_true c79b0); (try have h_c80b0 := of_eq_true c80b0); (try have h_c87b0 := of_eq_true c87b0); (try have h_c88b0 := of_eq_true c88b0); (try have h_c11 := c11); (try have h_c13 := c13); (try have h_c20 := c20); (try have h_c75 := c75); (try have h_c76 := c76); (try have h_c80 := c80); (try have h_c87 := c87); (try have h_c88 := c88); (try simp only [ByteArray.size_append, ByteArray.size_extract, hm_, hm2_, hm3_, strOfNums_size, List.size_toArray, List.length_cons, List.length_nil, Nat.zero_add] at h_c11); (try simp only [ByteArray.size_append, ByteArray.size_extract, hm_, hm2_, hm3_, strOfNums_size, List.size_toArray, List.length_cons, List.length_nil, Nat.zero_add] at h_c13); (try simp only [ByteArray.size_append, ByteArray.size_extract, hm_, hm2_, hm3_, strOfNums_size, List.size_toArray, List.length_cons, List.length_nil, Nat.zero_add] at h_c20); (try simp only [ByteArray.size_append, ByteArray.size_extract, hm_, hm2_, hm3_, strOfNums_size, List.size_toArray, List.length_cons, List.length_nil, Nat.zero_add] at h_c75); (try simp only [ByteArray.size_append, ByteArray.size_extract, hm_, hm2_, hm3_, strOfNums_size, List.size_toArray, List.length_cons, List.length_nil, Nat.zero_add] at h_c76); (try simp only [ByteArray.size_append, ByteArray.size_extract, hm_, hm2_, hm3_, strOfNums_size, List.size_toArray, List.length_cons, List.length_nil, Nat.zero_add] at h_c80); (try simp only [ByteArray.size_append, ByteArray.size_extract, hm_, hm2_, hm3_, strOfNums_size, List.size_toArray, List.length_cons, List.length_nil, Nat.zero_add] at h_c87); (try simp only [ByteArray.size_append, ByteArray.size_extract, hm_, hm2_, hm3_, strOfNums_size, List.size_toArray, List.length_cons, List.length_nil, Nat.zero_add] at h_c88); omega)]; try with_reducible rfl)
                                        rotate_left
                                        · simp only [Act.put, List.setIfInBounds_toArray, List.set_cons_zero, List.set_cons_succ, i64_w, i32_w]
                                          rfl
                                        refine pure_ (i := 3) (N := some 108) (v := ?_) (a' := ?_) #[true, true, true, true, false, false, false, false, false, false, false, false, false, false, false, false, false] rfl rfl (any_of HT_.out (by kernel_rfl)) (fun _ _ _ h => h) (Or.inl ⟨by rfl, ?_⟩) ?_ ?_
                                        rotate_left
                                        · intro w'
                                          go_simp
                                          first | with_reducible rfl | (rw [if_neg (by have hm_ : ∀ x : UInt8, (⟨#[x]⟩ : ByteArray).size = 1 := fun _ => rfl; have hm2_ : ∀ x y : UInt8, (⟨#[x, y]⟩ : ByteArray).size = 2 := fun _ _ => rfl; have hm3_ : ∀ x y z : UInt8, (⟨#[x, y, z]⟩ : ByteArray).size = 3 := fun _ _ _ => rfl; (try simp only [ByteArray.size_append, ByteArray.size_extract, hm_, hm2_, hm3_, strOfNums_size]); (try have h_c11b0 := of_eq_true c11b0); (try have h_c13b0 := of_eq_true c13b0); (try have h_c20b0 := of_eq_true c20b0); (try have h_c73b0 := of_eq_true c73b0); (try have h_c74b0 := of_eq_true c74b0); (try have h_c75b0 := of_eq_true c75b0); (try have h_c76b0 := of_eq_true c76b0); (try have h_c78b0 := of_eq_true c78b0); (try have h_c79b0 := of_eq_true c79b0); (try have h_c80b0 := of_eq_true c80b0); (try have h_c87b0 := of_eq_true c87b0); (try have h_c88b0 := of_eq_true c88b0); (try have h_c11 := c11); (try have h_c13 := c13); (try have h_c20 := c20); (try have h_c75 := c75); (try have h_c76 := c76); (try have h_c80 := c80); (try have h_c87 := c87); (try have h_c88 := c88); (try simp only [ByteArray.size_append, ByteArray.size_extract, hm_, hm2_, hm3_, strOfNums_size, List.size_toArray, List.length_cons, List.length_nil, Nat.zero_add] at h_c11); (try simp only [ByteArray.size_append, ByteArray.size_extract, hm_, hm2_, hm3_, strOfNums_size, List.size_toArray, List.length_cons, List.length_nil, Nat.zero_add] at h_c13); (try simp only [ByteArray.size_append, ByteArray.size_extract, hm_, hm2_, hm3_, strOfNums_size, List.size_toArray, List.length_cons, List.length_nil, Nat.zero_add] at h_c20); (try simp only [ByteArray.size_append, ByteArray.size_extract, hm_, hm2_, hm3_, strOfNums_size, List.size_toArray, List.length_cons, List.length_nil, Nat.zero_add] at h_c75); (try simp only [ByteArray.size_append, ByteArray.size_extract, hm_, hm2_, hm3_, strOfNums_size, List.size_toArray, List.length_cons, List.length_nil, Nat.zero_add] at h_c76); (try simp only [ByteArray.size_append, ByteArray.size_extract, hm_, hm2_, hm3_, strOfNums_size, List.size_toArray, List.length_cons, List.length_nil, Nat.zero_add] at h_c80); (try simp only [ByteArray.size_append, ByteArray.size_extract, hm_, hm2_, hm3_, strOfNums_size, List.size_toArray, List.length_cons, List.length_nil, Nat.zero_add] at h_c87); (try simp only [ByteArray.size_append, ByteArray.size_extract, hm_, hm2_, hm3_, strOfNums_size, List.size_toArray, List.length_cons, List.length_nil, Nat.zero_add] at h_c88); omega)]; try with_reducible rfl)
                                        rotate_left
                                        · simp only [Act.put, List.setIfInBounds_toArray, List.set_cons_zero, List.set_cons_succ, i64_w, i32_w]
                                          rfl
                                        refine pure_ (i := 4) (N := some 109) (v := ?_) (a' := ?_) #[true, true, true, true, true, false, false, false, false, false, false, false, false, false, false, false, false] rfl rfl (any_of HT_.out (by kernel_rfl)) (fun _ _ _ h => h) (Or.inl ⟨by rfl, ?_⟩) ?_ ?_
                                        rotate_left
                                        · intro w'
                                          go_simp
                                          first | with_reducible rfl | (rw [if_neg (by have hm_ : ∀ x : UInt8, (⟨#[x]⟩ : ByteArray).size = 1 := fun _ => rfl; have hm2_ : ∀ x y : UInt8, (⟨#[x, y]⟩ : ByteArray).size = 2 := fun _ _ => rfl; have hm3_ : ∀ x y z : UInt8, (⟨#[x, y, z]⟩ : ByteArray).size = 3 := fun _ _ _ => rfl; (try simp only [ByteArray.size_append, ByteArray.size_extract, hm_, hm2_, hm3_, strOfNums_size]); (try have h_c11b0 := of_eq_true c11b0); (try have h_c13b0 := of_eq_true c13b0); (try have h_c20b0 := of_eq_true c20b0); (try have h_c73b0 := of_eq_true c73b0); (try have h_c74b0 := of_eq_true c74b0); (try have h_c75b0 := of_eq_true c75b0); (try have h_c76b0 := of_eq_true c76b0); (try have h_c78b0 := of_eq_true c78b0); (try have h_c79b0 := of_eq_true c79b0); (try have h_c80b0 := of_eq_true c80b0); (try have h_c87b0 := of_eq_true c87b0); (try have h_c88b0 := of_eq_true c88b0); (try have h_c11 := c11); (try have h_c13 := c13); (try have h_c20 := c20); (try have h_c75 := c75); (try have h_c76 := c76); (try have h_c80 := c80); (try have h_c87 := c87); (try have h_c88 := c88); (try simp only [ByteArray.size_append, ByteArray.size_extract, hm_, hm2_, hm3_, strOfNums_size, List.size_toArray, List.length_cons, List.length_nil, Nat.zero_add] at h_c11); (try simp only [ByteArray.size_append, ByteArray.size_extract, hm_, hm2_, hm3_, strOfNums_size, List.size_toArray, List.length_cons, List.length_nil, Nat.zero_add] at h_c13); (try simp only [ByteArray.size_append, ByteArray.size_extract, hm_, hm2_, hm3_, strOfNums_size, List.size_toArray, List.length_cons, List.length_nil, Nat.zero_add] at h_c20); (try simp only [ByteArray.size_append, ByteArray.size_extract, hm_, hm2_, hm3_, strOfNums_size, List.size_toArray, List.length_cons, List.length_nil, Nat.zero_add] at h_c75); (try simp only [ByteArray.size_append, ByteArray.size_extract, hm_, hm2_, hm3_, strOfNums_size, List.size_toArray, List.length_cons, List.length_nil, Nat.zero_add] at h_c76); (try simp only [ByteArray.size_append, ByteArray.size_extract, hm_, hm2_, hm3_, strOfNums_size, List.size_toArray, List.length_cons, List.length_nil, Nat.zero_add] at h_c80); (try simp only [ByteArray.size_append, ByteArray.size_extract, hm_, hm2_, hm3_, strOfNums_size, List.size_toArray, List.length_cons, List.length_nil, Nat.zero_add] at h_c87); (try simp only [ByteArray.size_append, ByteArray.size_extract, hm_, hm2_, hm3_, strOfNums_size, List.size_toArray, List.length_cons, List.length_nil, Nat.zero_add] at h_c88); omega)]; try with_reducible rfl)
                                        rotate_left
                                        · simp only [Act.put, List.setIfInBounds_toArray, List.set_cons_zero, List.set_cons_succ, i64_w, i32_w]
                                          rfl
                                        refine pure_ (i := 8) (N := some 113) (v := ?_) (a' := ?_) #[true, true, true, true, true, false, false, false, true, false, false, false, false, false, false, false, false] rfl rfl (any_of HT_.out (by kernel_rfl)) (fun _ _ _ h => h) (Or.inl ⟨by rfl, ?_⟩) ?_ ?_
                                        rotate_left
                                        · intro w'
                                          go_simp
                                          first | with_reducible rfl | (rw [if_neg (by have hm_ : ∀ x : UInt8, (⟨#[x]⟩ : ByteArray).size = 1 := fun _ => rfl; have hm2_ : ∀ x y : UInt8, (⟨#[x, y]⟩ : ByteArray).size = 2 := fun _ _ => rfl; have hm3_ : ∀ x y z : UInt8, (⟨#[x, y, z]⟩ : ByteArray).size = 3 := fun _ _ _ => rfl; (try simp only [ByteArray.size_append, ByteArray.size_extract, hm_, hm2_, hm3_, strOfNums_size]); (try have h_c11b0 := of_eq_true c11b0); (try have h_c13b0 := of_eq_true c13b0); (try have h_c20b0 := of_eq_true c20b0); (try have h_c73b0 := of_eq_true c73b0); (try have h_c74b0 := of_eq_true c74b0); (try have h_c75b0 := of_eq_true c75b0); (try have h_c76b0 := of_eq_true c76b0); (try have h_c78b0 := of_eq_true c78b0); (try have h_c79b0 := of_eq_true c79b0); (try have h_c80b0 := of_eq_true c80b0); (try have h_c87b0 := of_eq_true c87b0); (try have h_c88b0 := of_eq_true c88b0); (try have h_c11 := c11); (try have h_c13 := c13); (try have h_c20 := c20); (try have h_c75 := c75); (try have h_c76 := c76); (try have h_c80 := c80); (try have h_c87 := c87); (try have h_c88 := c88); (try simp only [ByteArray.size_append, ByteArray.size_extract, hm_, hm2_, hm3_, strOfNums_size, List.size_toArray, List.length_cons, List.length_nil, Nat.zero_add] at h_c11); (try simp only [ByteArray.size_append, ByteArray.size_extract, hm_, hm2_, hm3_, strOfNums_size, List.size_toArray, List.length_cons, List.length_nil, Nat.zero_add] at h_c13); (try simp only [ByteArray.size_append, ByteArray.size_extract, hm_, hm2_, hm3_, strOfNums_size, List.size_toArray, List.length_cons, List.length_nil, Nat.zero_add] at h_c20); (try simp only [ByteArray.size_append, ByteArray.size_extract, hm_, hm2_, hm3_, strOfNums_size, List.size_toArray, List.length_cons, List.length_nil, Nat.zero_add] at h_c75); (try simp only [ByteArray.size_append, ByteArray.size_extract, hm_, hm2_, hm3_, strOfNums_size, List.size_toArray, List.length_cons, List.length_nil, Nat.zero_add] at h_c76); (try simp only [ByteArray.size_append, ByteArray.size_extract, hm_, hm2_, hm3_, strOfNums_size, List.size_toArray, List.length_cons, List.length_nil, Nat.zero_add] at h_c80); (try simp only [ByteArray.size_append, ByteArray.size_extract, hm_, hm2_, hm3_, strOfNums_size, List.size_toArray, List.length_cons, List.length_nil, Nat.zero_add] at h_c87); (try simp only [ByteArray.size_append, ByteArray.size_extract, hm_, hm2_, hm3_, strOfNums_size, List.size_toArray, List.length_cons, List.length_nil, Nat.zero_add] at h_c88); omega)]; try with_reducible rfl)
                                        rotate_left
                                        · simp only [Act.put, List.setIfInBounds_toArray, List.set_cons_zero, List.set_cons_succ, i64_w, i32_w]
                                          rfl
                                        refine pure_ (i := 9) (N := some 114) (v := ?_) (a' := ?_) #[true, true, true, true, true, false, false, false, true, true, false, false, false, false, false, false, false] rfl rfl (any_of HT_.out (by kernel_rfl)) (fun _ _ _ h => h) (Or.inl ⟨by rfl, ?_⟩) ?_ ?_
                                        rotate_left
                                        · intro w'
                                          go_simp
                                          first | with_reducible rfl | (rw [if_neg (by have hm_ : ∀ x : UInt8, (⟨#[x]⟩ : ByteArray).size = 1 := fun _ => rfl; have hm2_ : ∀ x y : UInt8, (⟨#[x, y]⟩ : ByteArray).size = 2 := fun _ _ => rfl; have hm3_ : ∀ x y z : UInt8, (⟨#[x, y, z]⟩ : ByteArray).size = 3 := fun _ _ _ => rfl; (try simp only [ByteArray.size_append, ByteArray.size_extract, hm_, hm2_, hm3_, strOfNums_size]); (try have h_c11b0 := of_eq_true c11b0); (try have h_c13b0 := of_eq_true c13b0); (try have h_c20b0 := of_eq_true c20b0); (try have h_c73b0 := of_eq_true c73b0); (try have h_c74b0 := of_eq_true c74b0); (try have h_c75b0 := of_eq_true c75b0); (try have h_c76b0 := of_eq_true c76b0); (try have h_c78b0 := of_eq_true c78b0); (try have h_c79b0 := of_eq_true c79b0); (try have h_c80b0 := of_eq_true c80b0); (try have h_c87b0 := of_eq_true c87b0); (try have h_c88b0 := of_eq_true c88b0); (try have h_c11 := c11); (try have h_c13 := c13); (try have h_c20 := c20); (try have h_c75 := c75); (try have h_c76 := c76); (try have h_c80 := c80); (try have h_c87 := c87); (try have h_c88 := c88); (try simp only [ByteArray.size_append, ByteArray.size_extract, hm_, hm2_, hm3_, strOfNums_size, List.size_toArray, List.length_cons, List.length_nil, Nat.zero_add] at h_c11); (try simp only [ByteArray.size_append, ByteArray.size_extract, hm_, hm2_, hm3_, strOfNums_size, List.size_toArray, List.length_cons, List.length_nil, Nat.zero_add] at h_c13); (try simp only [ByteArray.size_append, ByteArray.size_extract, hm_, hm2_, hm3_, strOfNums_size, List.size_toArray, List.length_cons, List.length_nil, Nat.zero_add] at h_c20); (try simp only [ByteArray.size_append, ByteArray.size_extract, hm_, hm2_, hm3_, strOfNums_size, List.size_toArray, List.length_cons, List.length_nil, Nat.zero_add] at h_c75); (try simp only [ByteArray.size_append, ByteArray.size_extract, hm_, hm2_, hm3_, strOfNums_size, List.size_toArray, List.length_cons, List.length_nil, Nat.zero_add] at h_c76); (try simp only [ByteArray.size_append, ByteArray.size_extract, hm_, hm2_, hm3_, strOfNums_size, List.size_toArray, List.length_cons, List.length_nil, Nat.zero_add] at h_c80); (try simp only [ByteArray.size_append, ByteArray.size_extract, hm_, hm2_, hm3_, strOfNums_size, List.size_toArray, List.length_cons, List.length_nil, Nat.zero_add] at h_c87); (try simp only [ByteArray.size_append, ByteArray.size_extract, hm_, hm2_, hm3_, strOfNums_size, List.size_toArray, List.length_cons, List.length_nil, Nat.zero_add] at h_c88); omega)]; try with_reducible rfl)
                                        rotate_left
                                        · simp only [Act.put, List.setIfInBounds_toArray, List.set_cons_zero, List.set_cons_succ, i64_w, i32_w]
                                          rfl
                                        refine pure_ (i := 10) (N := some 115) (v := ?_) (a' := ?_) #[true, true, true, true, true, false, false, false, true, true, true, false, false, false, false, false, false] rfl rfl (any_of HT_.out (by kernel_rfl)) (fun _ _ _ h => h) (Or.inl ⟨by rfl, ?_⟩) ?_ ?_
                                        rotate_left
                                        · intro w'
                                          go_simp
                                          first | with_reducible rfl | (rw [if_neg (by have hm_ : ∀ x : UInt8, (⟨#[x]⟩ : ByteArray).size = 1 := fun _ => rfl; have hm2_ : ∀ x y : UInt8, (⟨#[x, y]⟩ : ByteArray).size = 2 := fun _ _ => rfl; have hm3_ : ∀ x y z : UInt8, (⟨#[x, y, z]⟩ : ByteArray).size = 3 := fun _ _ _ => rfl; (try simp only [ByteArray.size_append, ByteArray.size_extract, hm_, hm2_, hm3_, strOfNums_size]); (try have h_c11b0 := of_eq_true c11b0); (try have h_c13b0 := of_eq_true c13b0); (try have h_c20b0 := of_eq_true c20b0); (try have h_c73b0 := of_eq_true c73b0); (try have h_c74b0 := of_eq_true c74b0); (try have h_c75b0 := of_eq_true c75b0); (try have h_c76b0 := of_eq_true c76b0); (try have h_c78b0 := of_eq_true c78b0); (try have h_c79b0 := of_eq_true c79b0); (try have h_c80b0 := of_eq_true c80b0); (try have h_c87b0 := of_eq_true c87b0); (try have h_c88b0 := of_eq_true c88b0); (try have h_c11 := c11); (try have h_c13 := c13); (try have h_c20 := c20); (try have h_c75 := c75); (try have h_c76 := c76); (try have h_c80 := c80); (try have h_c87 := c87); (try have h_c88 := c88); (try simp only [ByteArray.size_append, ByteArray.size_extract, hm_, hm2_, hm3_, strOfNums_size, List.size_toArray, List.length_cons, List.length_nil, Nat.zero_add] at h_c11); (try simp only [ByteArray.size_append, ByteArray.size_extract, hm_, hm2_, hm3_, strOfNums_size, List.size_toArray, List.length_cons, List.length_nil, Nat.zero_add] at h_c13); (try simp only [ByteArray.size_append, ByteArray.size_extract, hm_, hm2_, hm3_, strOfNums_size, List.size_toArray, List.length_cons, List.length_nil, Nat.zero_add] at h_c20); (try simp only [ByteArray.size_append, ByteArray.size_extract, hm_, hm2_, hm3_, strOfNums_size, List.size_toArray, List.length_cons, List.length_nil, Nat.zero_add] at h_c75); (try simp only [ByteArray.size_append, ByteArray.size_extract, hm_, hm2_, hm3_, strOfNums_size, List.size_toArray, List.length_cons, List.length_nil, Nat.zero_add] at h_c76); (try simp only [ByteArray.size_append, ByteArray.size_extract, hm_, hm2_, hm3_, strOfNums_size, List.size_toArray, List.length_cons, List.length_nil, Nat.zero_add] at h_c80); (try simp only [ByteArray.size_append, ByteArray.size_extract, hm_, hm2_, hm3_, strOfNums_size, List.size_toArray, List.length_cons, List.length_nil, Nat.zero_add] at h_c87); (try simp only [ByteArray.size_append, ByteArray.size_extract, hm_, hm2_, hm3_, strOfNums_size, List.size_toArray, List.length_cons, List.length_nil, Nat.zero_add] at h_c88); omega)]; try with_reducible rfl)
                                        rotate_left
                                        · simp only [Act.put, List.setIfInBounds_toArray, List.set_cons_zero, List.set_cons_succ, i64_w, i32_w]
                                          rfl
                                        refine pure_ (i := 11) (N := some 116) (v := ?_) (a' := ?_) #[true, true, true, true, true, false, false, false, true, true, true, true, false, false, false, false, false] rfl rfl (any_of HT_.out (by kernel_rfl)) (fun _ _ _ h => h) (Or.inl ⟨by rfl, ?_⟩) ?_ ?_
                                        rotate_left
                                        · intro w'
                                          go_simp
                                          first | with_reducible rfl | (rw [if_neg (by have hm_ : ∀ x : UInt8, (⟨#[x]⟩ : ByteArray).size = 1 := fun _ => rfl; have hm2_ : ∀ x y : UInt8, (⟨#[x, y]⟩ : ByteArray).size = 2 := fun _ _ => rfl; have hm3_ : ∀ x y z : UInt8, (⟨#[x, y, z]⟩ : ByteArray).size = 3 := fun _ _ _ => rfl; (try simp only [ByteArray.size_append, ByteArray.size_extract, hm_, hm2_, hm3_, strOfNums_size]); (try have h_c11b0 := of_eq_true c11b0); (try have h_c13b0 := of_eq_true c13b0); (try have h_c20b0 := of_eq_true c20b0); (try have h_c73b0 := of_eq_true c73b0); (try have h_c74b0 := of_eq_true c74b0); (try have h_c75b0 := of_eq_true c75b0); (try have h_c76b0 := of_eq_true c76b0); (try have h_c78b0 := of_eq_true c78b0); (try have h_c79b0 := of_eq_true c79b0); (try have h_c80b0 := of_eq_true c80b0); (try have h_c87b0 := of_eq_true c87b0); (try have h_c88b0 := of_eq_true c88b0); (try have h_c11 := c11); (try have h_c13 := c13); (try have h_c20 := c20); (try have h_c75 := c75); (try have h_c76 := c76); (try have h_c80 := c80); (try have h_c87 := c87); (try have h_c88 := c88); (try simp only [ByteArray.size_append, ByteArray.size_extract, hm_, hm2_, hm3_, strOfNums_size, List.size_toArray, List.length_cons, List.length_nil, Nat.zero_add] at h_c11); (try simp only [ByteArray.size_append, ByteArray.size_extract, hm_, hm2_, hm3_, strOfNums_size, List.size_toArray, List.length_cons, List.length_nil, Nat.zero_add] at h_c13); (try simp only [ByteArray.size_append, ByteArray.size_extract, hm_, hm2_, hm3_, strOfNums_size, List.size_toArray, List.length_cons, List.length_nil, Nat.zero_add] at h_c20); (try simp only [ByteArray.size_append, ByteArray.size_extract, hm_, hm2_, hm3_, strOfNums_size, List.size_toArray, List.length_cons, List.length_nil, Nat.zero_add] at h_c75); (try simp only [ByteArray.size_append, ByteArray.size_extract, hm_, hm2_, hm3_, strOfNums_size, List.size_toArray, List.length_cons, List.length_nil, Nat.zero_add] at h_c76); (try simp only [ByteArray.size_append, ByteArray.size_extract, hm_, hm2_, hm3_, strOfNums_size, List.size_toArray, List.length_cons, List.length_nil, Nat.zero_add] at h_c80); (try simp only [ByteArray.size_append, ByteArray.size_extract, hm_, hm2_, hm3_, strOfNums_size, List.size_toArray, List.length_cons, List.length_nil, Nat.zero_add] at h_c87); (try simp only [ByteArray.size_append, ByteArray.size_extract, hm_, hm2_, hm3_, strOfNums_size, List.size_toArray, List.length_cons, List.length_nil, Nat.zero_add] at h_c88); omega)]; try with_reducible rfl)
                                        rotate_left
                                        · simp only [Act.put, List.setIfInBounds_toArray, List.set_cons_zero, List.set_cons_succ, i64_w, i32_w]
                                          rfl
                                        refine pure_ (i := 14) (N := some 119) (v := ?_) (a' := ?_) #[true, true, true, true, true, false, false, false, true, true, true, true, false, false, true, false, false] rfl rfl (any_of HT_.out (by kernel_rfl)) (fun _ _ _ h => h) (Or.inl ⟨by rfl, ?_⟩) ?_ ?_
                                        rotate_left
                                        · intro w'
                                          go_simp
                                          first | with_reducible rfl | (rw [if_neg (by have hm_ : ∀ x : UInt8, (⟨#[x]⟩ : ByteArray).size = 1 := fun _ => rfl; have hm2_ : ∀ x y : UInt8, (⟨#[x, y]⟩ : ByteArray).size = 2 := fun _ _ => rfl; have hm3_ : ∀ x y z : UInt8, (⟨#[x, y, z]⟩ : ByteArray).size = 3 := fun _ _ _ => rfl; (try simp only [ByteArray.size_append, ByteArray.size_extract, hm_, hm2_, hm3_, strOfNums_size]); (try have h_c11b0 := of_eq_true c11b0); (try have h_c13b0 := of_eq_true c13b0); (try have h_c20b0 := of_eq_true c20b0); (try have h_c73b0 := of_eq_true c73b0); (try have h_c74b0 := of_eq_true c74b0); (try have h_c75b0 := of_eq_true c75b0); (try have h_c76b0 := of_eq_true c76b0); (try have h_c78b0 := of_eq_true c78b0); (try have h_c79b0 := of_eq_true c79b0); (try have h_c80b0 := of_eq_true c80b0); (try have h_c87b0 := of_eq_true c87b0); (try have h_c88b0 := of_eq_true c88b0); (try have h_c11 := c11); (try have h_c13 := c13); (try have h_c20 := c20); (try have h_c75 := c75); (try have h_c76 := c76); (try have h_c80 := c80); (try have h_c87 := c87); (try have h_c88 := c88); (try simp only [ByteArray.size_append, ByteArray.size_extract, hm_, hm2_, hm3_, strOfNums_size, List.size_toArray, List.length_cons, List.length_nil, Nat.zero_add] at h_c11); (try simp only [ByteArray.size_append, ByteArray.size_extract, hm_, hm2_, hm3_, strOfNums_size, List.size_toArray, List.length_cons, List.length_nil, Nat.zero_add] at h_c13); (try simp only [ByteArray.size_append, ByteArray.size_extract, hm_, hm2_, hm3_, strOfNums_size, List.size_toArray, List.length_cons, List.length_nil, Nat.zero_add] at h_c20); (try simp only [ByteArray.size_append, ByteArray.size_extract, hm_, hm2_, hm3_, strOfNums_size, List.size_toArray, List.length_cons, List.length_nil, Nat.zero_add] at h_c75); (try simp only [ByteArray.size_append, ByteArray.size_extract, hm_, hm2_, hm3_, strOfNums_size, List.size_toArray, List.length_cons, List.length_nil, Nat.zero_add] at h_c76); (try simp only [ByteArray.size_append, ByteArray.size_extract, hm_, hm2_, hm3_, strOfNums_size, List.size_toArray, List.length_cons, List.length_nil, Nat.zero_add] at h_c80); (try simp only [ByteArray.size_append, ByteArray.size_extract, hm_, hm2_, hm3_, strOfNums_size, List.size_toArray, List.length_cons, List.length_nil, Nat.zero_add] at h_c87); (try simp only [ByteArray.size_append, ByteArray.size_extract, hm_, hm2_, hm3_, strOfNums_size, List.size_toArray, List.length_cons, List.length_nil, Nat.zero_add] at h_c88); omega)]; try with_reducible rfl)
                                        rotate_left
                                        · simp only [Act.put, List.setIfInBounds_toArray, List.set_cons_zero, List.set_cons_succ, i64_w, i32_w]
                                          rfl
                                        refine one_ (i := 5) (N := some 110) #[true, true, true, true, true, true, false, false, true, true, true, true, false, false, true, false, false] rfl rfl (one_of HT_.out (by kernel_rfl)) (by decide) (fun K hK => ?_)
                                        refine Kd.R_lit_step (Kd.int .u8) _ 5 ?hg (N := 110) ?hd (xs := ([a2] : List Int)) (inner := [.int .u8 a2]) (ok := fun _ => True) (okp := fun _ => True) ?hr ?hp (fun _ hk => hk) trivial (Below.refl _ _) (Nat.le_refl _) (by simp) ?_; (case hd => rfl); (case hg => rfl); (case hr => first | (go_simp; done) | (go_simp; rfl)); (case hp => exact (Reps.one (show Kd.M (Kd.int .u8) _ _ _ a2 [.int .u8 a2] from rfl) (Reps.none _ _)))
                                        intro v115 w83 ho84 hb hg_ hnew_
                                        clear hg_ hnew_
                                        (first | rw [← Ny114.out] at ho84 | (simp only [Int.reduceToNat] at ho84; rw [← Ny114.out] at ho84))
                                        have n0_ := Aside0.mk (Kd.R_lower ho84 (below_size (by repeat (first | (with_reducible first | exact HB.out | apply below_alloc | apply pw_below_drewN | apply below_drew1) | exact HB.out))))
                                        have n1_ := Aside0.mk (below_step (by repeat (first | (with_reducible first | exact HB.out | apply below_alloc | apply pw_below_drewN | apply below_drew1) | exact HB.out)) hb)
                                        clear HB
                                        have HO116 := n0_
                                        have HB := n1_
                                        clear n0_ n1_
                                        clear hb ho84
                                        refine hK.out _ _ trivial (fun hHeld => ?_)
                                        clear hK K
                                        refine norm_ (a' := ?_) ?_ ?_
                                        rotate_left
                                        · show Act.put _ (some 110) _ = _
                                          simp only [Act.put, List.setIfInBounds_toArray, List.set_cons_zero, List.set_cons_succ, i64_w, i32_w]
                                          rfl
                                        refine one_ (i := 6) (N := some 111) #[true, true, true, true, true, true, true, false, true, true, true, true, false, false, true, false, false] rfl rfl (one_of HT_.out (by kernel_rfl)) (by decide) (fun K hK => ?_)
                                        have hcv85 := own_string (P := Try.prog) Try.underlying31 Try.underlying5 Try.underlying9 (Kd.own_of_R HO116.out)
                                        refine value_ (w1 := ?_) (v := ?_) (by rfl) rfl ?_ ?_
                                        rotate_left 2
                                        · go_simp
                                          constructor
                                          · rfl
                                          · rfl
                                        clear hcv85
                                        refine hK.out _ _ trivial (fun hHeld => ?_)
                                        clear hK K
                                        refine norm_ (a' := ?_) ?_ ?_
                                        rotate_left
                                        · show Act.put _ (some 111) _ = _
                                          simp only [Act.put, List.setIfInBounds_toArray, List.set_cons_zero, List.set_cons_succ, i64_w, i32_w]
                                          rfl
                                        refine pure_ (i := 7) (N := some 112) (v := ?_) (a' := ?_) #[true, true, true, true, true, true, true, true, true, true, true, true, false, false, true, false, false] rfl rfl (any_of HT_.out (by kernel_rfl)) (fun _ _ _ h => h) (Or.inl ⟨by rfl, ?_⟩) ?_ ?_
                                        rotate_left
                                        · intro w'
                                          go_simp
                                          first | with_reducible rfl | (rw [if_neg (by have hm_ : ∀ x : UInt8, (⟨#[x]⟩ : ByteArray).size = 1 := fun _ => rfl; have hm2_ : ∀ x y : UInt8, (⟨#[x, y]⟩ : ByteArray).size = 2 := fun _ _ => rfl; have hm3_ : ∀ x y z : UInt8, (⟨#[x, y, z]⟩ : ByteArray).size = 3 := fun _ _ _ => rfl; (try simp only [ByteArray.size_append, ByteArray.size_extract, hm_, hm2_, hm3_, strOfNums_size]); (try have h_c11b0 := of_eq_true c11b0); (try have h_c13b0 := of_eq_true c13b0); (try have h_c20b0 := of_eq_true c20b0); (try have h_c73b0 := of_eq_true c73b0); (try have h_c74b0 := of_eq_true c74b0); (try have h_c75b0 := of_eq_true c75b0); (try have h_c76b0 := of_eq_true c76b0); (try have h_c78b0 := of_eq_true c78b0); (try have h_c79b0 := of_eq_true c79b0); (try have h_c80b0 := of_eq_true c80b0); (try have h_c87b0 := of_eq_true c87b0); (try have h_c88b0 := of_eq_true c88b0); (try have h_c11 := c11); (try have h_c13 := c13); (try have h_c20 := c20); (try have h_c75 := c75); (try have h_c76 := c76); (try have h_c80 := c80); (try have h_c87 := c87); (try have h_c88 := c88); (try simp only [ByteArray.size_append, ByteArray.size_extract, hm_, hm2_, hm3_, strOfNums_size, List.size_toArray, List.length_cons, List.length_nil, Nat.zero_add] at h_c11); (try simp only [ByteArray.size_append, ByteArray.size_extract, hm_, hm2_, hm3_, strOfNums_size, List.size_toArray, List.length_cons, List.length_nil, Nat.zero_add] at h_c13); (try simp only [ByteArray.size_append, ByteArray.size_extract, hm_, hm2_, hm3_, strOfNums_size, List.size_toArray, List.length_cons, List.length_nil, Nat.zero_add] at h_c20); (try simp only [ByteArray.size_append, ByteArray.size_extract, hm_, hm2_, hm3_, strOfNums_size, List.size_toArray, List.length_cons, List.length_nil, Nat.zero_add] at h_c75); (try simp only [ByteArray.size_append, ByteArray.size_extract, hm_, hm2_, hm3_, strOfNums_size, List.size_toArray, List.length_cons, List.length_nil, Nat.zero_add] at h_c76); (try simp only [ByteArray.size_append, ByteArray.size_extract, hm_, hm2_, hm3_, strOfNums_size, List.size_toArray, List.length_cons, List.length_nil, Nat.zero_add] at h_c80); (try simp only [ByteArray.size_append, ByteArray.size_extract, hm_, hm2_, hm3_, strOfNums_size, List.size_toArray, List.length_cons, List.length_nil, Nat.zero_add] at h_c87); (try simp only [ByteArray.size_append, ByteArray.size_extract, hm_, hm2_, hm3_, strOfNums_size, List.size_toArray, List.length_cons, List.length_nil, Nat.zero_add] at h_c88); omega)]; try with_reducible rfl)
                                        rotate_left
                                        · simp only [Act.put, List.setIfInBounds_toArray, List.set_cons_zero, List.set_cons_succ, i64_w, i32_w]
                                          rfl
                                        refine pure_ (i := 12) (N := some 117) (v := ?_) (a' := ?_) #[true, true, true, true, true, true, true, true, true, true, true, true, true, false, true, false, false] rfl rfl (any_of HT_.out (by kernel_rfl)) (fun _ _ _ h => h) (Or.inl ⟨by rfl, ?_⟩) ?_ ?_
                                        rotate_left
                                        · intro w'
                                          go_simp
                                          first | with_reducible rfl | (rw [if_neg (by have hm_ : ∀ x : UInt8, (⟨#[x]⟩ : ByteArray).size = 1 := fun _ => rfl; have hm2_ : ∀ x y : UInt8, (⟨#[x, y]⟩ : ByteArray).size = 2 := fun _ _ => rfl; have hm3_ : ∀ x y z : UInt8, (⟨#[x, y, z]⟩ : ByteArray).size = 3 := fun _ _ _ => rfl; (try simp only [ByteArray.size_append, ByteArray.size_extract, hm_, hm2_, hm3_, strOfNums_size]); (try have h_c11b0 := of_eq_true c11b0); (try have h_c13b0 := of_eq_true c13b0); (try have h_c20b0 := of_eq_true c20b0); (try have h_c73b0 := of_eq_true c73b0); (try have h_c74b0 := of_eq_true c74b0); (try have h_c75b0 := of_eq_true c75b0); (try have h_c76b0 := of_eq_true c76b0); (try have h_c78b0 := of_eq_true c78b0); (try have h_c79b0 := of_eq_true c79b0); (try have h_c80b0 := of_eq_true c80b0); (try have h_c87b0 := of_eq_true c87b0); (try have h_c88b0 := of_eq_true c88b0); (try have h_c11 := c11); (try have h_c13 := c13); (try have h_c20 := c20); (try have h_c75 := c75); (try have h_c76 := c76); (try have h_c80 := c80); (try have h_c87 := c87); (try have h_c88 := c88); (try simp only [ByteArray.size_append, ByteArray.size_extract, hm_, hm2_, hm3_, strOfNums_size, List.size_toArray, List.length_cons, List.length_nil, Nat.zero_add] at h_c11); (try simp only [ByteArray.size_append, ByteArray.size_extract, hm_, hm2_, hm3_, strOfNums_size, List.size_toArray, List.length_cons, List.length_nil, Nat.zero_add] at h_c13); (try simp only [ByteArray.size_append, ByteArray.size_extract, hm_, hm2_, hm3_, strOfNums_size, List.size_toArray, List.length_cons, List.length_nil, Nat.zero_add] at h_c20); (try simp only [ByteArray.size_append, ByteArray.size_extract, hm_, hm2_, hm3_, strOfNums_size, List.size_toArray, List.length_cons, List.length_nil, Nat.zero_add] at h_c75); (try simp only [ByteArray.size_append, ByteArray.size_extract, hm_, hm2_, hm3_, strOfNums_size, List.size_toArray, List.length_cons, List.length_nil, Nat.zero_add] at h_c76); (try simp only [ByteArray.size_append, ByteArray.size_extract, hm_, hm2_, hm3_, strOfNums_size, List.size_toArray, List.length_cons, List.length_nil, Nat.zero_add] at h_c80); (try simp only [ByteArray.size_append, ByteArray.size_extract, hm_, hm2_, hm3_, strOfNums_size, List.size_toArray, List.length_cons, List.length_nil, Nat.zero_add] at h_c87); (try simp only [ByteArray.size_append, ByteArray.size_extract, hm_, hm2_, hm3_, strOfNums_size, List.size_toArray, List.length_cons, List.length_nil, Nat.zero_add] at h_c88); omega)]; try with_reducible rfl)
                                        rotate_left
                                        · simp only [Act.put, List.setIfInBounds_toArray, List.set_cons_zero, List.set_cons_succ, i64_w, i32_w]
                                          rfl
                                        refine one_ (i := 13) (N := some 118) #[true, true, true, true, true, true, true, true, true, true, true, true, true, true, true, false, false] rfl rfl (one_of HT_.out (by kernel_rfl)) (by decide) (fun K hK => ?_)
                                        refine goes_ Try.func19 (by kernel_rfl) rfl #[.string ((((⟨#[36]⟩ : ByteArray) ++ (a0.extract 0 (t113 : Int).toNat)) ++ (strOfNums y114)) ++ (a0.extract ((ji77) : Int).toNat a0.size))] (by rfl) rfl rfl (by (try simp only [List.map_toArray, List.map_cons, List.map_nil]); first | done | (simp only [hji77]; rfl) | rfl | (simp only [List.length_drop, List.length_take]; rfl)) ?_
                                        with_reducible refine (ident_EventID.calls ((((⟨#[36]⟩ : ByteArray) ++ (a0.extract 0 (t113 : Int).toNat)) ++ (strOfNums y114)) ++ (a0.extract ((ji77) : Int).toNat a0.size)) t117 _ A81.out).mono ?_
                                        rintro e w86 ⟨rfl, hb⟩
                                        refine ⟨_, rfl, ?_⟩
                                        have n0_ := Aside0.mk (Kd.R_below (by (with_reducible repeat (first | apply Kd.R_alloc | apply Kd.R_drewN | apply Kd.R_drew)); exact HO116.out) hb)
                                        have n1_ := Aside0.mk (below_step (by repeat (first | (with_reducible first | exact HB.out | apply below_alloc | apply pw_below_drewN | apply below_drew1) | exact HB.out)) hb)
                                        clear HO116
                                        clear HB
                                        have HO116 := n0_
                                        have HB := n1_
                                        clear n0_ n1_
                                        (try clear hb)
                                        (try clear hb2)
                                        (try clear hk)
                                        (try clear hi)
                                        refine hK.out _ _ trivial (fun hHeld => ?_)
                                        clear hK K
                                        refine norm_ (a' := ?_) ?_ ?_
                                        rotate_left
                                        · show Act.put _ (some 118) _ = _
                                          simp only [Act.put, List.setIfInBounds_toArray, List.set_cons_zero, List.set_cons_succ, i64_w, i32_w]
                                          rfl
                                        refine pure_ (i := 15) (N := some 120) (v := ?_) (a' := ?_) #[true, true, true, true, true, true, true, true, true, true, true, true, true, true, true, true, false] rfl rfl (any_of HT_.out (by kernel_rfl)) (fun _ _ _ h => h) (Or.inl ⟨by rfl, ?_⟩) ?_ ?_
                                        rotate_left
                                        · intro w'
                                          go_simp
                                          first | with_reducible rfl | (rw [if_neg (by have hm_ : ∀ x : UInt8, (⟨#[x]⟩ : ByteArray).size = 1 := fun _ => rfl; have hm2_ : ∀ x y : UInt8, (⟨#[x, y]⟩ : ByteArray).size = 2 := fun _ _ => rfl; have hm3_ : ∀ x y z : UInt8, (⟨#[x, y, z]⟩ : ByteArray).size = 3 := fun _ _ _ => rfl; (try simp only [ByteArray.size_append, ByteArray.size_extract, hm_, hm2_, hm3_, strOfNums_size]); (try have h_c11b0 := of_eq_true c11b0); (try have h_c13b0 := of_eq_true c13b0); (try have h_c20b0 := of_eq_true c20b0); (try have h_c73b0 := of_eq_true c73b0); (try have h_c74b0 := of_eq_true c74b0); (try have h_c75b0 := of_eq_true c75b0); (try have h_c76b0 := of_eq_true c76b0); (try have h_c78b0 := of_eq_true c78b0); (try have h_c79b0 := of_eq_true c79b0); (try have h_c80b0 := of_eq_true c80b0); (try have h_c87b0 := of_eq_true c87b0); (try have h_c88b0 := of_eq_true c88b0); (try have h_c11 := c11); (try have h_c13 := c13); (try have h_c20 := c20); (try have h_c75 := c75); (try have h_c76 := c76); (try have h_c80 := c80); (try have h_c87 := c87); (try have h_c88 := c88); (try simp only [ByteArray.size_append, ByteArray.size_extract, hm_, hm2_, hm3_, strOfNums_size, List.size_toArray, List.length_cons, List.length_nil, Nat.zero_add] at h_c11); (try simp only [ByteArray.size_append, ByteArray.size_extract, hm_, hm2_, hm3_, strOfNums_size, List.size_toArray, List.length_cons, List.length_nil, Nat.zero_add] at h_c13); (try simp only [ByteArray.size_append, ByteArray.size_extract, hm_, hm2_, hm3_, strOfNums_size, List.size_toArray, List.length_cons, List.length_nil, Nat.zero_add] at h_c20); (try simp only [ByteArray.size_append, ByteArray.size_extract, hm_, hm2_, hm3_, strOfNums_size, List.size_toArray, List.length_cons, List.length_nil, Nat.zero_add] at h_c75); (try simp only [ByteArray.size_append, ByteArray.size_extract, hm_, hm2_, hm3_, strOfNums_size, List.size_toArray, List.length_cons, List.length_nil, Nat.zero_add] at h_c76); (try simp only [ByteArray.size_append, ByteArray.size_extract, hm_, hm2_, hm3_, strOfNums_size, List.size_toArray, List.length_cons, List.length_nil, Nat.zero_add] at h_c80); (try simp only [ByteArray.size_append, ByteArray.size_extract, hm_, hm2_, hm3_, strOfNums_size, List.size_toArray, List.length_cons, List.length_nil, Nat.zero_add] at h_c87); (try simp only [ByteArray.size_append, ByteArray.size_extract, hm_, hm2_, hm3_, strOfNums_size, List.size_toArray, List.length_cons, List.length_nil, Nat.zero_add] at h_c88); omega)]; try with_reducible rfl)
                                        rotate_left
                                        · simp only [Act.put, List.setIfInBounds_toArray, List.set_cons_zero, List.set_cons_succ, i64_w, i32_w]
                                          rfl
                                        refine pure_ (i := 16) (N := some 8) (v := ?_) (a' := ?_) #[true, true, true, true, true, true, true, true, true, true, true, true, true, true, true, true, true] rfl rfl (any_of HT_.out (by kernel_rfl)) (fun _ _ _ h => h) (Or.inl ⟨by rfl, ?_⟩) ?_ ?_
                                        rotate_left
                                        · intro w'
                                          go_simp
                                          first | with_reducible rfl | (rw [if_neg (by have hm_ : ∀ x : UInt8, (⟨#[x]⟩ : ByteArray).size = 1 := fun _ => rfl; have hm2_ : ∀ x y : UInt8, (⟨#[x, y]⟩ : ByteArray).size = 2 := fun _ _ => rfl; have hm3_ : ∀ x y z : UInt8, (⟨#[x, y, z]⟩ : ByteArray).size = 3 := fun _ _ _ => rfl; (try simp only [ByteArray.size_append, ByteArray.size_extract, hm_, hm2_, hm3_, strOfNums_size]); (try have h_c11b0 := of_eq_true c11b0); (try have h_c13b0 := of_eq_true c13b0); (try have h_c20b0 := of_eq_true c20b0); (try have h_c73b0 := of_eq_true c73b0); (try have h_c74b0 := of_eq_true c74b0); (try have h_c75b0 := of_eq_true c75b0); (try have h_c76b0 := of_eq_true c76b0); (try have h_c78b0 := of_eq_true c78b0); (try have h_c79b0 := of_eq_true c79b0); (try have h_c80b0 := of_eq_true c80b0); (try have h_c87b0 := of_eq_true c87b0); (try have h_c88b0 := of_eq_true c88b0); (try have h_c11 := c11); (try have h_c13 := c13); (try have h_c20 := c20); (try have h_c75 := c75); (try have h_c76 := c76); (try have h_c80 := c80); (try have h_c87 := c87); (try have h_c88 := c88); (try simp only [ByteArray.size_append, ByteArray.size_extract, hm_, hm2_, hm3_, strOfNums_size, List.size_toArray, List.length_cons, List.length_nil, Nat.zero_add] at h_c11); (try simp only [ByteArray.size_append, ByteArray.size_extract, hm_, hm2_, hm3_, strOfNums_size, List.size_toArray, List.length_cons, List.length_nil, Nat.zero_add] at h_c13); (try simp only [ByteArray.size_append, ByteArray.size_extract, hm_, hm2_, hm3_, strOfNums_size, List.size_toArray, List.length_cons, List.length_nil, Nat.zero_add] at h_c20); (try simp only [ByteArray.size_append, ByteArray.size_extract, hm_, hm2_, hm3_, strOfNums_size, List.size_toArray, List.length_cons, List.length_nil, Nat.zero_add] at h_c75); (try simp only [ByteArray.size_append, ByteArray.size_extract, hm_, hm2_, hm3_, strOfNums_size, List.size_toArray, List.length_cons, List.length_nil, Nat.zero_add] at h_c76); (try simp only [ByteArray.size_append, ByteArray.size_extract, hm_, hm2_, hm3_, strOfNums_size, List.size_toArray, List.length_cons, List.length_nil, Nat.zero_add] at h_c80); (try simp only [ByteArray.size_append, ByteArray.size_extract, hm_, hm2_, hm3_, strOfNums_size, List.size_toArray, List.length_cons, List.length_nil, Nat.zero_add] at h_c87); (try simp only [ByteArray.size_append, ByteArray.size_extract, hm_, hm2_, hm3_, strOfNums_size, List.size_toArray, List.length_cons, List.length_nil, Nat.zero_add] at h_c88); omega)]; try with_reducible rfl)
                                        rotate_left
                                        · simp only [Act.put, List.setIfInBounds_toArray, List.set_cons_zero, List.set_cons_succ, i64_w, i32_w]
                                          rfl
                                        refine done_ (done_of HT_.out (by kernel_rfl)) ?_
                                        try go_wp2
                                        go_ret
                                        exact ⟨by first | rfl | (simp [errW_none, errW_some] <;> rfl) | (simp only [← hji77]; first | rfl | (simp [errW_none, errW_some] <;> rfl)) | (simp [*, errW_none, errW_some] <;> rfl), by repeat (first | (with_reducible first | exact HB.out | apply below_alloc | apply pw_below_drewN | apply below_drew1) | exact HB.out)⟩
                                      · rw [if_neg c80] at H
                                        exact absurd H (by simp)
                                    · rw [if_neg c79] at H
                                      exact absurd H (by simp)
                                  · rw [if_neg c78] at H
                                    exact absurd H (by simp)
                                · rw [if_neg c76] at H
                                  exact absurd H (by simp)
                              · rw [if_neg c75] at H
                                exact absurd H (by simp)
                            · rw [if_neg c74] at H
                              exact absurd H (by simp)
                          · rw [if_neg c73] at H
                            exact absurd H (by simp)
                    · replace c24 := Bool.eq_false_iff.mpr c24
                      subst c24
                      have H1 : (if 1 + a0.size ≤ 9223372036854775807 then (if ((⟨#[36]⟩ : ByteArray) ++ a0).size + a1.size ≤ 9223372036854775807 then ((ident_EventID.f (((⟨#[36]⟩ : ByteArray) ++ a0) ++ a1)).bind fun t112 => (if t112 = true then (some (a0.toList == ([] : List UInt8))) else (some true))) else (none)) else (none)) = some r := by rw [if_neg (show ¬ (false = true) by decide)] at H; exact H
                      clear H
                      have H := H1
                      clear H1
                      by_cases c87 : 1 + a0.size ≤ 9223372036854775807
                      · rw [if_pos c87] at H
                        have c87b0 := eq_true c87
                        have c87b1 : decide (1 + a0.size ≤ 9223372036854775807) = true := decide_eq_true c87
                        try have c87b2 : (9223372036854775807 < 1 + a0.size) = False := eq_false (Nat.not_lt.2 c87)
                        by_cases c88 : ((⟨#[36]⟩ : ByteArray) ++ a0).size + a1.size ≤ 9223372036854775807
                        · rw [if_pos c88] at H
                          have c88b0 := eq_true c88
                          have c88b1 : decide (((⟨#[36]⟩ : ByteArray) ++ a0).size + a1.size ≤ 9223372036854775807) = true := decide_eq_true c88
                          try have c88b2 : (9223372036854775807 < ((⟨#[36]⟩ : ByteArray) ++ a0).size + a1.size) = False := eq_false (Nat.not_lt.2 c88)
                          replace H := Option.bind_eq_some_iff.mp H
                          obtain ⟨t112, A890, H⟩ := H
                          replace H : (if t112 = true then (some (a0.toList == ([] : List UInt8))) else (some true)) = some r := H
                          have A89 := Aside0.mk A890
                          clear A890
                          by_cases c90 : t112 = true
                          · subst c90
                            have H1 : (some (a0.toList == ([] : List UInt8))) = some r := by rw [if_pos rfl] at H; exact H
                            clear H
                            have H := H1
                            clear H1
                            obtain rfl := Option.some.inj H
                            go_wp2_with (first | ((with_reducible refine gate_callee (f := 19) rfl ?_); refine goesL_ (some 53) rfl rfl Try.func19 (by kernel_rfl) rfl #[.string (((⟨#[36]⟩ : ByteArray) ++ a0) ++ a1)] rfl (by (try simp only [List.map_toArray, List.map_cons, List.map_nil]); first | done | rfl | (simp only [List.length_drop, List.length_take]; rfl)) ?_; (with_reducible refine (ident_EventID.calls (((⟨#[36]⟩ : ByteArray) ++ a0) ++ a1) true _ A89.out).mono ?_); rintro e w91 ⟨rfl, hb⟩; refine ⟨_, rfl, ?_⟩; have n0_ := Aside0.mk (below_step (by repeat (first | (with_reducible first | exact HB.out | apply below_alloc | apply pw_below_drewN | apply below_drew1) | exact HB.out)) hb); clear HB; have HB := n0_; clear n0_; (try clear hb); (try clear hb2); (try clear hk); (try clear hi)))
                            go_ret
                            exact ⟨by first | rfl | (simp [errW_none, errW_some] <;> rfl) | (simp [*, errW_none, errW_some] <;> rfl), by repeat (first | (with_reducible first | exact HB.out | apply below_alloc | apply pw_below_drewN | apply below_drew1) | exact HB.out)⟩
                          · replace c90 := Bool.eq_false_iff.mpr c90
                            subst c90
                            have H1 : (some true) = some r := by rw [if_neg (show ¬ (false = true) by decide)] at H; exact H
                            clear H
                            have H := H1
                            clear H1
                            obtain rfl := Option.some.inj H
                            go_wp2_with (first | ((with_reducible refine gate_callee (f := 19) rfl ?_); refine goesL_ (some 53) rfl rfl Try.func19 (by kernel_rfl) rfl #[.string (((⟨#[36]⟩ : ByteArray) ++ a0) ++ a1)] rfl (by (try simp only [List.map_toArray, List.map_cons, List.map_nil]); first | done | rfl | (simp only [List.length_drop, List.length_take]; rfl)) ?_; (with_reducible refine (ident_EventID.calls (((⟨#[36]⟩ : ByteArray) ++ a0) ++ a1) false _ A89.out).mono ?_); rintro e w92 ⟨rfl, hb⟩; refine ⟨_, rfl, ?_⟩; have n0_ := Aside0.mk (below_step (by repeat (first | (with_reducible first | exact HB.out | apply below_alloc | apply pw_below_drewN | apply below_drew1) | exact HB.out)) hb); clear HB; have HB := n0_; clear n0_; (try clear hb); (try clear hb2); (try clear hk); (try clear hi)))
                            go_ret
                            exact ⟨by first | rfl | (simp [errW_none, errW_some] <;> rfl) | (simp [*, errW_none, errW_some] <;> rfl), by repeat (first | (with_reducible first | exact HB.out | apply below_alloc | apply pw_below_drewN | apply below_drew1) | exact HB.out)⟩
                        · rw [if_neg c88] at H
                          exact absurd H (by simp)
                      · rw [if_neg c87] at H
                        exact absurd H (by simp)
            · rw [if_neg c13] at H
              exact absurd H (by simp)
          · rw [if_neg c11] at H
            exact absurd H (by simp)
  · replace c6 := Bool.eq_false_iff.mpr c6
    subst c6
    have H1 : (some false) = some r := by rw [if_neg (show ¬ (false = true) by decide)] at H; exact H
    clear H
    have H := H1
    clear H1
    obtain rfl := Option.some.inj H
    go_enter Try.func7, Try.ntmps7
    go_wp2_with (first | ((with_reducible refine gate_callee (f := 8) rfl ?_); refine goesL_ (some 13) rfl rfl Try.func8 (by kernel_rfl) rfl #[] rfl (by (try simp only [List.map_toArray, List.map_cons, List.map_nil]); first | done | rfl | (simp only [List.length_drop, List.length_take]; rfl)) ?_; (with_reducible refine (outlawlaw04_lives.calls  false _ A5.out).mono ?_); rintro e w93 ⟨rfl, hb⟩; refine ⟨_, rfl, ?_⟩; have n0_ := Aside0.mk (below_step (by repeat (first | (with_reducible first | exact HB.out | apply below_alloc | apply pw_below_drewN | apply below_drew1) | exact HB.out)) hb); clear HB; have HB := n0_; clear n0_; (try clear hb); (try clear hb2); (try clear hk); (try clear hi)))
    go_ret
    exact ⟨by first | rfl | (simp [errW_none, errW_some] <;> rfl) | (simp [*, errW_none, errW_some] <;> rfl), by repeat (first | (with_reducible first | exact HB.out | apply below_alloc | apply pw_below_drewN | apply below_drew1) | exact HB.out)⟩

/-- THE ONE PURE STATEMENT of outlawlaw04_IdentEvents: yours. -/
def outlawlaw04_IdentEvents.Pure : Prop := ∀ (a0 : ByteArray) (a1 : ByteArray) (a2 : Int) (a3 : Int), a0.size ≤ 140737488351232 → a1.size ≤ 140737488351232 → (Lit.int .u8 a2).wf = true → (Lit.int .i64 a3).wf = true → ∃ k, outlawlaw04_IdentEvents.f k a0 a1 a2 a3 = some true
theorem outlawlaw04_IdentEvents.walk (P : outlawlaw04_IdentEvents.Pure) (a0 : ByteArray) (a1 : ByteArray) (a2 : Int) (a3 : Int) (w : World) (w0 : a0.size ≤ 140737488351232) (w1 : a1.size ≤ 140737488351232) (w2 : (Lit.int .u8 a2).wf = true) (w3 : (Lit.int .i64 a3).wf = true) :
    Calls Try.prog 7 #[.string a0, .string a1, .int .u8 a2, .int .i64 a3] w fun e w' => e = .returned (.bool true) ∧ Below w.heap.size w w' := by
  obtain ⟨k, h⟩ := P a0 a1 a2 a3 w0 w1 w2 w3
  refine (outlawlaw04_IdentEvents.calls k a0 a1 a2 a3 true w h).mono ?_
  rintro e w' ⟨rfl, hd⟩
  exact ⟨rfl, hd⟩

end Go.Proofs.Ytppgoppkciakgaa.PE
