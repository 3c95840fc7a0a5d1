-- Written by a program of this session (gprint.py, a turned print with given contracts); Lean checks it.
import Derived.Test.YtppgoppkciakgaaPAx0
import Derived.Test.YtppgoppkciakgaaPAx1
namespace Go.Proofs.Ytppgoppkciakgaa.PA
open Go.RowKit Go.Proofs.YtppgoppkciakgaaW.PrintWords Go.Proofs.YtppgoppkciakgaaW.PrintLast Go.Proofs.YtppgoppkciakgaaW.PrintMore Go.Proofs.YtppgoppkciakgaaG Go.Proofs.YtppgoppkciakgaaX
attribute [local go_sem] max2_int min2_int max_two min_two max_three min_three max_four min_four   -- for this text's walks alone
set_option linter.unusedVariables false
set_option linter.unusedSimpArgs false

/-! ### outlawlaw04_IdentKinds: function 6 -/
mutual
def outlawlaw04_IdentKinds.j0 : Nat → ByteArray → List Bool → Option (Bool)
  | 0, _, _ => none
  | k + 1, x0, x3 => outlawlaw04_IdentKinds.l0 k x0 x3 0 0
def outlawlaw04_IdentKinds.l0 : Nat → ByteArray → List Bool → Int → Int → Option (Bool)
  | 0, _, _, _, _ => none
  | k + 1, x0, x3, x4, x5 => if x5 < (x3.length : Int) then (if 0 ≤ x5 then (if rdOf false x3 x5 = true then ((ident_Kind.f x0).bind fun t223 => (if ((rdOf false x3 x5) != (t223 == x5)) = true then (some false) else (outlawlaw04_IdentKinds.l0 k x0 x3 (wrap64 (x4 + 1)) (wrap64 (x5 + 1))))) else ((ident_Kind.f x0).bind fun t225 => (if ((rdOf false x3 x5) != (t225 == x5)) = true then (some false) else (outlawlaw04_IdentKinds.l0 k x0 x3 x4 (wrap64 (x5 + 1)))))) else (none)) else ((ident_Lower.f x0).bind fun t226 => (if x4 = 1 then (if (t226.size : Int) = (x0.size : Int) then ((ident_Lower.f t226).bind fun t227 => (if t227.toList = t226.toList then ((ident_Server.f t226).bind fun t228 => ((ident_Server.f x0).bind fun t229 => (if (t228 == t229) = true then ((ident_Room.f t226).bind fun t230 => ((ident_Room.f x0).bind fun t231 => (if (t230 == t231) = true then ((ident_EventID.f t226).bind fun t232 => ((ident_EventID.f x0).bind fun t233 => (if (t232 == t233) = true then ((ident_User.f x0).bind fun t234 => (if t234 = true then ((ident_User.f t226).bind fun t235 => (some t235)) else (some true))) else (some false)))) else (some false)))) else (some false)))) else (some false))) else (some false)) else (some false)))
end
def outlawlaw04_IdentKinds.f (k : Nat) (a0 : ByteArray) : Option (Bool) := (outlawlaw04_lives.f).bind fun t174 => (if t174 = true then (if (a0.size : Int) > 600 then (some true) else (if a0.toList = ([] : List UInt8) then ((ident_User.f a0).bind fun t175 => ((ident_Room.f a0).bind fun t176 => ((ident_EventID.f a0).bind fun t177 => ((ident_Server.f a0).bind fun t178 => (outlawlaw04_IdentKinds.j0 k a0 (([(a0.toList == ([] : List UInt8)), t175, t176, t177, t178] : List Bool))))))) else ((ident_User.f a0).bind fun t182 => (if t182 = true then ((ident_User.f a0).bind fun t183 => ((ident_Room.f a0).bind fun t184 => ((ident_EventID.f a0).bind fun t185 => ((ident_Server.f a0).bind fun t186 => (outlawlaw04_IdentKinds.j0 k a0 (([(a0.toList == ([] : List UInt8)), t183, t184, t185, t186] : List Bool))))))) else ((ident_Room.f a0).bind fun t190 => (if t190 = true then ((ident_User.f a0).bind fun t191 => ((ident_Room.f a0).bind fun t192 => ((ident_EventID.f a0).bind fun t193 => ((ident_Server.f a0).bind fun t194 => (outlawlaw04_IdentKinds.j0 k a0 (([(a0.toList == ([] : List UInt8)), t191, t192, t193, t194] : List Bool))))))) else ((ident_EventID.f a0).bind fun t198 => (if t198 = true then ((ident_User.f a0).bind fun t199 => ((ident_Room.f a0).bind fun t200 => ((ident_EventID.f a0).bind fun t201 => ((ident_Server.f a0).bind fun t202 => (outlawlaw04_IdentKinds.j0 k a0 (([(a0.toList == ([] : List UInt8)), t199, t200, t201, t202] : List Bool))))))) else ((ident_Server.f a0).bind fun t206 => (if t206 = true then ((ident_User.f a0).bind fun t207 => ((ident_Room.f a0).bind fun t208 => ((ident_EventID.f a0).bind fun t209 => ((ident_Server.f a0).bind fun t210 => (outlawlaw04_IdentKinds.j0 k a0 (([(a0.toList == ([] : List UInt8)), t207, t208, t209, t210] : List Bool))))))) else ((ident_User.f a0).bind fun t214 => ((ident_Room.f a0).bind fun t215 => ((ident_EventID.f a0).bind fun t216 => ((ident_Server.f a0).bind fun t217 => (outlawlaw04_IdentKinds.j0 k a0 (([true, t214, t215, t216, t217] : List Bool))))))))))))))))) else (some false))
theorem outlawlaw04_IdentKinds.mono_l : ∀ k, (∀ y0 y1, LeO (outlawlaw04_IdentKinds.j0 k y0 y1) (outlawlaw04_IdentKinds.j0 (k + 1) y0 y1)) ∧ (∀ y0 y1 y2 y3, LeO (outlawlaw04_IdentKinds.l0 k y0 y1 y2 y3) (outlawlaw04_IdentKinds.l0 (k + 1) y0 y1 y2 y3))
  | 0 => ⟨fun _ _ r h => by simp [outlawlaw04_IdentKinds.j0] at h, fun _ _ _ _ r h => by simp [outlawlaw04_IdentKinds.l0] at h⟩
  | k + 1 => by
    obtain ⟨ih0, ih1⟩ := outlawlaw04_IdentKinds.mono_l k
    refine ⟨?_, ?_⟩
    · intro y0 y1
      unfold outlawlaw04_IdentKinds.j0
      repeat' first
      | (with_reducible exact ih0 _ _)
      | (with_reducible exact ih1 _ _ _ _)
      | (with_reducible exact LeO.refl _)
      | (with_reducible exact LeO.none _)
      | (with_reducible refine LeO.ite ?_ ?_)
      | (with_reducible refine LeO.bind ?_ (fun _ => ?_))
      | exact ih0 _ _
      | exact ih1 _ _ _ _
      | exact LeO.none _
      | refine LeO.ite ?_ ?_
      | refine LeO.bind ?_ (fun _ => ?_)
    · intro y0 y1 y2 y3
      unfold outlawlaw04_IdentKinds.l0
      repeat' first
      | (with_reducible exact ih0 _ _)
      | (with_reducible exact ih1 _ _ _ _)
      | (with_reducible exact LeO.refl _)
      | (with_reducible exact LeO.none _)
      | (with_reducible refine LeO.ite ?_ ?_)
      | (with_reducible refine LeO.bind ?_ (fun _ => ?_))
      | exact ih0 _ _
      | exact ih1 _ _ _ _
      | exact LeO.none _
      | refine LeO.ite ?_ ?_
      | refine LeO.bind ?_ (fun _ => ?_)
theorem outlawlaw04_IdentKinds.mono : ∀ a0 k, LeO (outlawlaw04_IdentKinds.f k a0) (outlawlaw04_IdentKinds.f (k + 1) a0) := by
  intro a0 k
  obtain ⟨ih0, ih1⟩ := outlawlaw04_IdentKinds.mono_l k
  unfold outlawlaw04_IdentKinds.f
  repeat' first
      | (with_reducible exact ih0 _ _)
      | (with_reducible exact ih1 _ _ _ _)
      | (with_reducible exact LeO.refl _)
      | (with_reducible exact LeO.none _)
      | (with_reducible refine LeO.ite ?_ ?_)
      | (with_reducible refine LeO.bind ?_ (fun _ => ?_))
      | exact ih0 _ _
      | exact ih1 _ _ _ _
      | exact LeO.none _
      | refine LeO.ite ?_ ?_
      | refine LeO.bind ?_ (fun _ => ?_)
def outlawlaw04_IdentKinds.T12 : Bool × List (List Nat × List Nat) := (true, [([], []), ([], []), ([0, 1], [0, 1]), ([2], [2]), ([], []), ([4], [4]), ([], []), ([5, 6], [5, 6]), ([3, 7], [3, 7])])
def outlawlaw04_IdentKinds.B12 : List Nat := [0, 0, 3, 7, 0, 16, 0, 112, 255]
theorem outlawlaw04_IdentKinds.tab12 : rtab .any (opsOf Try.f6 12) = outlawlaw04_IdentKinds.T12 := by kernel_rfl
theorem outlawlaw04_IdentKinds.bits12 : waitsOk outlawlaw04_IdentKinds.T12.2 outlawlaw04_IdentKinds.B12 = true := by kernel_rfl
set_option maxHeartbeats 8000000 in
set_option maxRecDepth 100000 in
theorem outlawlaw04_IdentKinds.calls (k : Nat) (a0 : ByteArray) (r : Bool) (w : World) (h : outlawlaw04_IdentKinds.f k a0 = some r) :
    Calls Try.prog 6 #[.string a0] w fun e w' => e = .returned (.bool r) ∧ Below w.heap.size w w' := by
  have HB := Aside0.mk (Below.refl w.heap.size w)
  have H : ((outlawlaw04_lives.f).bind fun t174 => (if t174 = true then (if (a0.size : Int) > 600 then (some true) else (if a0.toList = ([] : List UInt8) then ((ident_User.f a0).bind fun t175 => ((ident_Room.f a0).bind fun t176 => ((ident_EventID.f a0).bind fun t177 => ((ident_Server.f a0).bind fun t178 => (outlawlaw04_IdentKinds.j0 k a0 (([(a0.toList == ([] : List UInt8)), t175, t176, t177, t178] : List Bool))))))) else ((ident_User.f a0).bind fun t182 => (if t182 = true then ((ident_User.f a0).bind fun t183 => ((ident_Room.f a0).bind fun t184 => ((ident_EventID.f a0).bind fun t185 => ((ident_Server.f a0).bind fun t186 => (outlawlaw04_IdentKinds.j0 k a0 (([(a0.toList == ([] : List UInt8)), t183, t184, t185, t186] : List Bool))))))) else ((ident_Room.f a0).bind fun t190 => (if t190 = true then ((ident_User.f a0).bind fun t191 => ((ident_Room.f a0).bind fun t192 => ((ident_EventID.f a0).bind fun t193 => ((ident_Server.f a0).bind fun t194 => (outlawlaw04_IdentKinds.j0 k a0 (([(a0.toList == ([] : List UInt8)), t191, t192, t193, t194] : List Bool))))))) else ((ident_EventID.f a0).bind fun t198 => (if t198 = true then ((ident_User.f a0).bind fun t199 => ((ident_Room.f a0).bind fun t200 => ((ident_EventID.f a0).bind fun t201 => ((ident_Server.f a0).bind fun t202 => (outlawlaw04_IdentKinds.j0 k a0 (([(a0.toList == ([] : List UInt8)), t199, t200, t201, t202] : List Bool))))))) else ((ident_Server.f a0).bind fun t206 => (if t206 = true then ((ident_User.f a0).bind fun t207 => ((ident_Room.f a0).bind fun t208 => ((ident_EventID.f a0).bind fun t209 => ((ident_Server.f a0).bind fun t210 => (outlawlaw04_IdentKinds.j0 k a0 (([(a0.toList == ([] : List UInt8)), t207, t208, t209, t210] : List Bool))))))) else ((ident_User.f a0).bind fun t214 => ((ident_Room.f a0).bind fun t215 => ((ident_EventID.f a0).bind fun t216 => ((ident_Server.f a0).bind fun t217 => (outlawlaw04_IdentKinds.j0 k a0 (([true, t214, t215, t216, t217] : List Bool))))))))))))))))) else (some false))) = some r := h
  clear h
  replace H := Option.bind_eq_some_iff.mp H
  obtain ⟨t174, A20, H⟩ := H
  replace H : (if t174 = true then (if (a0.size : Int) > 600 then (some true) else (if a0.toList = ([] : List UInt8) then ((ident_User.f a0).bind fun t175 => ((ident_Room.f a0).bind fun t176 => ((ident_EventID.f a0).bind fun t177 => ((ident_Server.f a0).bind fun t178 => (outlawlaw04_IdentKinds.j0 k a0 (([(a0.toList == ([] : List UInt8)), t175, t176, t177, t178] : List Bool))))))) else ((ident_User.f a0).bind fun t182 => (if t182 = true then ((ident_User.f a0).bind fun t183 => ((ident_Room.f a0).bind fun t184 => ((ident_EventID.f a0).bind fun t185 => ((ident_Server.f a0).bind fun t186 => (outlawlaw04_IdentKinds.j0 k a0 (([(a0.toList == ([] : List UInt8)), t183, t184, t185, t186] : List Bool))))))) else ((ident_Room.f a0).bind fun t190 => (if t190 = true then ((ident_User.f a0).bind fun t191 => ((ident_Room.f a0).bind fun t192 => ((ident_EventID.f a0).bind fun t193 => ((ident_Server.f a0).bind fun t194 => (outlawlaw04_IdentKinds.j0 k a0 (([(a0.toList == ([] : List UInt8)), t191, t192, t193, t194] : List Bool))))))) else ((ident_EventID.f a0).bind fun t198 => (if t198 = true then ((ident_User.f a0).bind fun t199 => ((ident_Room.f a0).bind fun t200 => ((ident_EventID.f a0).bind fun t201 => ((ident_Server.f a0).bind fun t202 => (outlawlaw04_IdentKinds.j0 k a0 (([(a0.toList == ([] : List UInt8)), t199, t200, t201, t202] : List Bool))))))) else ((ident_Server.f a0).bind fun t206 => (if t206 = true then ((ident_User.f a0).bind fun t207 => ((ident_Room.f a0).bind fun t208 => ((ident_EventID.f a0).bind fun t209 => ((ident_Server.f a0).bind fun t210 => (outlawlaw04_IdentKinds.j0 k a0 (([(a0.toList == ([] : List UInt8)), t207, t208, t209, t210] : List Bool))))))) else ((ident_User.f a0).bind fun t214 => ((ident_Room.f a0).bind fun t215 => ((ident_EventID.f a0).bind fun t216 => ((ident_Server.f a0).bind fun t217 => (outlawlaw04_IdentKinds.j0 k a0 (([true, t214, t215, t216, t217] : List Bool))))))))))))))))) else (some false)) = some r := H
  have A2 := Aside0.mk A20
  clear A20
  by_cases c3 : t174 = true
  · subst c3
    have H1 : (if (a0.size : Int) > 600 then (some true) else (if a0.toList = ([] : List UInt8) then ((ident_User.f a0).bind fun t175 => ((ident_Room.f a0).bind fun t176 => ((ident_EventID.f a0).bind fun t177 => ((ident_Server.f a0).bind fun t178 => (outlawlaw04_IdentKinds.j0 k a0 (([(a0.toList == ([] : List UInt8)), t175, t176, t177, t178] : List Bool))))))) else ((ident_User.f a0).bind fun t182 => (if t182 = true then ((ident_User.f a0).bind fun t183 => ((ident_Room.f a0).bind fun t184 => ((ident_EventID.f a0).bind fun t185 => ((ident_Server.f a0).bind fun t186 => (outlawlaw04_IdentKinds.j0 k a0 (([(a0.toList == ([] : List UInt8)), t183, t184, t185, t186] : List Bool))))))) else ((ident_Room.f a0).bind fun t190 => (if t190 = true then ((ident_User.f a0).bind fun t191 => ((ident_Room.f a0).bind fun t192 => ((ident_EventID.f a0).bind fun t193 => ((ident_Server.f a0).bind fun t194 => (outlawlaw04_IdentKinds.j0 k a0 (([(a0.toList == ([] : List UInt8)), t191, t192, t193, t194] : List Bool))))))) else ((ident_EventID.f a0).bind fun t198 => (if t198 = true then ((ident_User.f a0).bind fun t199 => ((ident_Room.f a0).bind fun t200 => ((ident_EventID.f a0).bind fun t201 => ((ident_Server.f a0).bind fun t202 => (outlawlaw04_IdentKinds.j0 k a0 (([(a0.toList == ([] : List UInt8)), t199, t200, t201, t202] : List Bool))))))) else ((ident_Server.f a0).bind fun t206 => (if t206 = true then ((ident_User.f a0).bind fun t207 => ((ident_Room.f a0).bind fun t208 => ((ident_EventID.f a0).bind fun t209 => ((ident_Server.f a0).bind fun t210 => (outlawlaw04_IdentKinds.j0 k a0 (([(a0.toList == ([] : List UInt8)), t207, t208, t209, t210] : List Bool))))))) else ((ident_User.f a0).bind fun t214 => ((ident_Room.f a0).bind fun t215 => ((ident_EventID.f a0).bind fun t216 => ((ident_Server.f a0).bind fun t217 => (outlawlaw04_IdentKinds.j0 k a0 (([true, t214, t215, t216, t217] : List Bool))))))))))))))))) = some r := by rw [if_pos rfl] at H; exact H
    clear H
    have H := H1
    clear H1
    by_cases c4 : (a0.size : Int) > 600
    · rw [if_pos c4] at H
      have c4b0 : decide (600 < (a0.size : Int)) = true := decide_eq_true c4
      have c4b1 : decide (600 < a0.size) = true := decide_eq_true (by omega)
      clear c4
      obtain rfl := Option.some.inj H
      go_enter Try.func6, Try.ntmps6
      go_wp2_with (first | ((with_reducible refine gate_callee (f := 8) rfl ?_); refine goesL_ (some 7) rfl rfl Try.func8 (by kernel_rfl) rfl #[] rfl (by (try simp only [List.map_toArray, List.map_cons, List.map_nil]); first | done | rfl | (simp only [List.length_drop, List.length_take]; rfl)) ?_; (with_reducible refine (outlawlaw04_lives.calls  true _ A2.out).mono ?_); rintro e w5 ⟨rfl, hb⟩; refine ⟨_, rfl, ?_⟩; have n0_ := Aside0.mk (below_step (by repeat (first | (with_reducible first | exact HB.out | apply below_alloc | apply pw_below_drewN | apply below_drew1) | exact HB.out)) hb); clear HB; have HB := n0_; clear n0_; (try clear hb); (try clear hb2); (try clear hk); (try clear hi)))
      go_ret
      exact ⟨by first | rfl | (simp [errW_none, errW_some] <;> rfl) | (simp [*, errW_none, errW_some] <;> rfl), by repeat (first | (with_reducible first | exact HB.out | apply below_alloc | apply pw_below_drewN | apply below_drew1) | exact HB.out)⟩
    · rw [if_neg c4] at H
      have c4b0 : decide (600 < (a0.size : Int)) = false := decide_eq_false c4
      have c4b1 : decide (600 < a0.size) = false := decide_eq_false (by omega)
      clear c4
      have HC6 := Aside0.mk H
      clear H
      go_enter Try.func6, Try.ntmps6
      go_upto_region 5 with (first | ((with_reducible refine gate_callee (f := 8) rfl ?_); refine goesL_ (some 7) rfl rfl Try.func8 (by kernel_rfl) rfl #[] rfl (by (try simp only [List.map_toArray, List.map_cons, List.map_nil]); first | done | rfl | (simp only [List.length_drop, List.length_take]; rfl)) ?_; (with_reducible refine (outlawlaw04_lives.calls  true _ A2.out).mono ?_); rintro e w7 ⟨rfl, hb⟩; refine ⟨_, rfl, ?_⟩; have n0_ := Aside0.mk (below_step (by repeat (first | (with_reducible first | exact HB.out | apply below_alloc | apply pw_below_drewN | apply below_drew1) | exact HB.out)) hb); clear HB; have HB := n0_; clear n0_; (try clear hb); (try clear hb2); (try clear hk); (try clear hi)))
      (try simp only [Act.put, List.setIfInBounds_toArray, List.set_cons_zero, List.set_cons_succ])
      go_cut [3] (fun v3 wc => ∃ (kq : Nat) (x3_5 : List Bool), Aside0 (outlawlaw04_IdentKinds.j0 kq a0 x3_5 = some r) ∧ Aside0 (kq ≤ k) ∧ Aside0 (Kd.R Kd.bool 4 wc w.heap.size (fun _ => True) v3 x3_5) ∧ Aside0 (Below w.heap.size w wc))
      case first =>
        have H := HC6.out
        clear HC6
        by_cases c8 : a0.toList = ([] : List UInt8)
        · rw [if_pos c8] at H
          have c8b0 : (a0.toList == ([] : List UInt8)) = true := beq_iff_eq.mpr c8
          have c8b1 : (a0.toList != ([] : List UInt8)) = false := bne_eq_false_iff_eq.mpr c8
          clear c8
          (first | rw [c8b0] | (simp only [i64_w, i32_w]; rw [c8b0]) | skip)
          replace H := Option.bind_eq_some_iff.mp H
          obtain ⟨t175, A90, H⟩ := H
          replace H : ((ident_Room.f a0).bind fun t176 => ((ident_EventID.f a0).bind fun t177 => ((ident_Server.f a0).bind fun t178 => (outlawlaw04_IdentKinds.j0 k a0 (([(a0.toList == ([] : List UInt8)), t175, t176, t177, t178] : List Bool)))))) = some r := H
          have A9 := Aside0.mk A90
          clear A90
          replace H := Option.bind_eq_some_iff.mp H
          obtain ⟨t176, A100, H⟩ := H
          replace H : ((ident_EventID.f a0).bind fun t177 => ((ident_Server.f a0).bind fun t178 => (outlawlaw04_IdentKinds.j0 k a0 (([(a0.toList == ([] : List UInt8)), t175, t176, t177, t178] : List Bool))))) = some r := H
          have A10 := Aside0.mk A100
          clear A100
          replace H := Option.bind_eq_some_iff.mp H
          obtain ⟨t177, A110, H⟩ := H
          replace H : ((ident_Server.f a0).bind fun t178 => (outlawlaw04_IdentKinds.j0 k a0 (([(a0.toList == ([] : List UInt8)), t175, t176, t177, t178] : List Bool)))) = some r := H
          have A11 := Aside0.mk A110
          clear A110
          replace H := Option.bind_eq_some_iff.mp H
          obtain ⟨t178, A120, H⟩ := H
          replace H : (outlawlaw04_IdentKinds.j0 k a0 (([(a0.toList == ([] : List UInt8)), t175, t176, t177, t178] : List Bool))) = some r := H
          have A12 := Aside0.mk A120
          clear A120
          obtain ⟨y179, hy179⟩ : ∃ y_ : List Bool, y_ = (([(a0.toList == ([] : List UInt8)), t175, t176, t177, t178] : List Bool)) := ⟨_, rfl⟩
          replace H : (outlawlaw04_IdentKinds.j0 k a0 y179) = some r := by first | (rw [hy179]; with_reducible exact H) | (have H2_ := (Option.bind_some _ _).symm.trans H; rw [hy179]; with_reducible exact H2_) | (have H2_ := (Option.bind_some _ _).symm.trans H; with_reducible exact H2_) | with_reducible exact H | (rw [hy179]; exact H) | exact H
          have Ny179 := Aside0.mk hy179
          clear hy179
          have H' := Aside0.mk H
          clear H
          go_wp2_with (first | ((with_reducible refine gate_callee (f := 15) rfl ?_); refine goesL_ (some 39) rfl rfl Try.func15 (by kernel_rfl) rfl #[.string a0] rfl (by (try simp only [List.map_toArray, List.map_cons, List.map_nil]); first | done | rfl | (simp only [List.length_drop, List.length_take]; rfl)) ?_; (with_reducible refine (ident_User.calls a0 t175 _ A9.out).mono ?_); rintro e w13 ⟨rfl, hb⟩; refine ⟨_, rfl, ?_⟩; have n0_ := Aside0.mk (below_step (by repeat (first | (with_reducible first | exact HB.out | apply below_alloc | apply pw_below_drewN | apply below_drew1) | exact HB.out)) hb); clear HB; have HB := n0_; clear n0_; (try clear hb); (try clear hb2); (try clear hk); (try clear hi)) | ((with_reducible refine gate_callee (f := 17) rfl ?_); refine goesL_ (some 41) rfl rfl Try.func17 (by kernel_rfl) rfl #[.string a0] rfl (by (try simp only [List.map_toArray, List.map_cons, List.map_nil]); first | done | rfl | (simp only [List.length_drop, List.length_take]; rfl)) ?_; (with_reducible refine (ident_Room.calls a0 t176 _ A10.out).mono ?_); rintro e w14 ⟨rfl, hb⟩; refine ⟨_, rfl, ?_⟩; have n0_ := Aside0.mk (below_step (by repeat (first | (with_reducible first | exact HB.out | apply below_alloc | apply pw_below_drewN | apply below_drew1) | exact HB.out)) hb); clear HB; have HB := n0_; clear n0_; (try clear hb); (try clear hb2); (try clear hk); (try clear hi)) | ((with_reducible refine gate_callee (f := 19) rfl ?_); refine goesL_ (some 43) rfl rfl Try.func19 (by kernel_rfl) rfl #[.string a0] rfl (by (try simp only [List.map_toArray, List.map_cons, List.map_nil]); first | done | rfl | (simp only [List.length_drop, List.length_take]; rfl)) ?_; (with_reducible refine (ident_EventID.calls a0 t177 _ A11.out).mono ?_); rintro e w15 ⟨rfl, hb⟩; refine ⟨_, rfl, ?_⟩; have n0_ := Aside0.mk (below_step (by repeat (first | (with_reducible first | exact HB.out | apply below_alloc | apply pw_below_drewN | apply below_drew1) | exact HB.out)) hb); clear HB; have HB := n0_; clear n0_; (try clear hb); (try clear hb2); (try clear hk); (try clear hi)) | ((with_reducible refine gate_callee (f := 10) rfl ?_); refine goesL_ (some 45) rfl rfl Try.func10 (by kernel_rfl) rfl #[.string a0] rfl (by (try simp only [List.map_toArray, List.map_cons, List.map_nil]); first | done | rfl | (simp only [List.length_drop, List.length_take]; rfl)) ?_; (with_reducible refine (ident_Server.calls a0 t178 _ A12.out).mono ?_); rintro e w16 ⟨rfl, hb⟩; refine ⟨_, rfl, ?_⟩; have n0_ := Aside0.mk (below_step (by repeat (first | (with_reducible first | exact HB.out | apply below_alloc | apply pw_below_drewN | apply below_drew1) | exact HB.out)) hb); clear HB; have HB := n0_; clear n0_; (try clear hb); (try clear hb2); (try clear hk); (try clear hi)) | ((with_reducible refine gate_dst (N := 46) rfl ?_); (try (refine gate_guard (by rfl) ?_; dsimp only)); refine Kd.R_lit Kd.bool _ 4 ?hg (N := 46) ?hd (xs := ([(a0.toList == ([] : List UInt8)), t175, t176, t177, t178] : List Bool)) (inner := [.bool (a0.toList == ([] : List UInt8)), .bool t175, .bool t176, .bool t177, .bool t178]) (ok := fun _ => True) (okp := fun _ => True) ?hr ?hp (fun _ hk => hk) trivial (Below.refl _ _) (Nat.le_refl _) (by simp) ?_; (case hd => rfl); (case hg => rfl); (case hr => first | (go_simp; done) | (go_simp; rfl)); (case hp => exact (Reps.one (show Kd.M Kd.bool _ _ _ (a0.toList == ([] : List UInt8)) [.bool (a0.toList == ([] : List UInt8))] from rfl) (Reps.one (show Kd.M Kd.bool _ _ _ t175 [.bool t175] from rfl) (Reps.one (show Kd.M Kd.bool _ _ _ t176 [.bool t176] from rfl) (Reps.one (show Kd.M Kd.bool _ _ _ t177 [.bool t177] from rfl) (Reps.one (show Kd.M Kd.bool _ _ _ t178 [.bool t178] from rfl) (Reps.none _ _))))))); intro v180 w17 ho18 hb hg_ hnew_; clear hg_ hnew_; (first | rw [← Ny179.out] at ho18 | (simp only [Int.reduceToNat] at ho18; rw [← Ny179.out] at ho18)); have n0_ := Aside0.mk (Kd.R_lower ho18 (below_size (by repeat (first | (with_reducible first | exact HB.out | apply below_alloc | apply pw_below_drewN | apply below_drew1) | exact HB.out)))); have n1_ := Aside0.mk (below_step (by repeat (first | (with_reducible first | exact HB.out | apply below_alloc | apply pw_below_drewN | apply below_drew1) | exact HB.out)) hb); clear HB; have HO181 := n0_; have HB := n1_; clear n0_ n1_; clear hb ho18))
          go_meet
          case rel => exact ⟨_, (y179), H', ⟨by first | omega | exact Nat.le_refl _⟩, ⟨by (with_reducible repeat (first | apply Kd.R_alloc | apply Kd.R_drewN | apply Kd.R_drew)); exact HO181.out⟩, ⟨by repeat (first | (with_reducible first | exact HB.out | apply below_alloc | apply pw_below_drewN | apply below_drew1) | exact HB.out)⟩⟩
        · rw [if_neg c8] at H
          have c8b0 : (a0.toList == ([] : List UInt8)) = false := beq_eq_false_iff_ne.mpr c8
          have c8b1 : (a0.toList != ([] : List UInt8)) = true := bne_iff_ne.mpr c8
          (first | rw [c8b0] | (simp only [i64_w, i32_w]; rw [c8b0]) | skip)
          replace H := Option.bind_eq_some_iff.mp H
          obtain ⟨t182, A190, H⟩ := H
          replace H : (if t182 = true then ((ident_User.f a0).bind fun t183 => ((ident_Room.f a0).bind fun t184 => ((ident_EventID.f a0).bind fun t185 => ((ident_Server.f a0).bind fun t186 => (outlawlaw04_IdentKinds.j0 k a0 (([(a0.toList == ([] : List UInt8)), t183, t184, t185, t186] : List Bool))))))) else ((ident_Room.f a0).bind fun t190 => (if t190 = true then ((ident_User.f a0).bind fun t191 => ((ident_Room.f a0).bind fun t192 => ((ident_EventID.f a0).bind fun t193 => ((ident_Server.f a0).bind fun t194 => (outlawlaw04_IdentKinds.j0 k a0 (([(a0.toList == ([] : List UInt8)), t191, t192, t193, t194] : List Bool))))))) else ((ident_EventID.f a0).bind fun t198 => (if t198 = true then ((ident_User.f a0).bind fun t199 => ((ident_Room.f a0).bind fun t200 => ((ident_EventID.f a0).bind fun t201 => ((ident_Server.f a0).bind fun t202 => (outlawlaw04_IdentKinds.j0 k a0 (([(a0.toList == ([] : List UInt8)), t199, t200, t201, t202] : List Bool))))))) else ((ident_Server.f a0).bind fun t206 => (if t206 = true then ((ident_User.f a0).bind fun t207 => ((ident_Room.f a0).bind fun t208 => ((ident_EventID.f a0).bind fun t209 => ((ident_Server.f a0).bind fun t210 => (outlawlaw04_IdentKinds.j0 k a0 (([(a0.toList == ([] : List UInt8)), t207, t208, t209, t210] : List Bool))))))) else ((ident_User.f a0).bind fun t214 => ((ident_Room.f a0).bind fun t215 => ((ident_EventID.f a0).bind fun t216 => ((ident_Server.f a0).bind fun t217 => (outlawlaw04_IdentKinds.j0 k a0 (([true, t214, t215, t216, t217] : List Bool)))))))))))))) = some r := H
          have A19 := Aside0.mk A190
          clear A190
          by_cases c20 : t182 = true
          · subst c20
            have H1 : ((ident_User.f a0).bind fun t183 => ((ident_Room.f a0).bind fun t184 => ((ident_EventID.f a0).bind fun t185 => ((ident_Server.f a0).bind fun t186 => (outlawlaw04_IdentKinds.j0 k a0 (([(a0.toList == ([] : List UInt8)), t183, t184, t185, t186] : List Bool))))))) = some r := by rw [if_pos rfl] at H; exact H
            clear H
            have H := H1
            clear H1
            replace H := Option.bind_eq_some_iff.mp H
            obtain ⟨t183, A210, H⟩ := H
            replace H : ((ident_Room.f a0).bind fun t184 => ((ident_EventID.f a0).bind fun t185 => ((ident_Server.f a0).bind fun t186 => (outlawlaw04_IdentKinds.j0 k a0 (([(a0.toList == ([] : List UInt8)), t183, t184, t185, t186] : List Bool)))))) = some r := H
            have A21 := Aside0.mk A210
            clear A210
            replace H := Option.bind_eq_some_iff.mp H
            obtain ⟨t184, A220, H⟩ := H
            replace H : ((ident_EventID.f a0).bind fun t185 => ((ident_Server.f a0).bind fun t186 => (outlawlaw04_IdentKinds.j0 k a0 (([(a0.toList == ([] : List UInt8)), t183, t184, t185, t186] : List Bool))))) = some r := H
            have A22 := Aside0.mk A220
            clear A220
            replace H := Option.bind_eq_some_iff.mp H
            obtain ⟨t185, A230, H⟩ := H
            replace H : ((ident_Server.f a0).bind fun t186 => (outlawlaw04_IdentKinds.j0 k a0 (([(a0.toList == ([] : List UInt8)), t183, t184, t185, t186] : List Bool)))) = some r := H
            have A23 := Aside0.mk A230
            clear A230
            replace H := Option.bind_eq_some_iff.mp H
            obtain ⟨t186, A240, H⟩ := H
            replace H : (outlawlaw04_IdentKinds.j0 k a0 (([(a0.toList == ([] : List UInt8)), t183, t184, t185, t186] : List Bool))) = some r := H
            have A24 := Aside0.mk A240
            clear A240
            obtain ⟨y187, hy187⟩ : ∃ y_ : List Bool, y_ = (([(a0.toList == ([] : List UInt8)), t183, t184, t185, t186] : List Bool)) := ⟨_, rfl⟩
            replace H : (outlawlaw04_IdentKinds.j0 k a0 y187) = some r := by first | (rw [hy187]; with_reducible exact H) | (have H2_ := (Option.bind_some _ _).symm.trans H; rw [hy187]; with_reducible exact H2_) | (have H2_ := (Option.bind_some _ _).symm.trans H; with_reducible exact H2_) | with_reducible exact H | (rw [hy187]; exact H) | exact H
            have Ny187 := Aside0.mk hy187
            clear hy187
            have H' := Aside0.mk H
            clear H
            go_wp2_with (first | (go_at_call 15; (with_reducible refine (ident_User.calls a0 true _ A19.out).mono ?_); rintro e w25 ⟨rfl, hb⟩; have n0_ := Aside0.mk (below_step (by repeat (first | (with_reducible first | exact HB.out | apply below_alloc | apply pw_below_drewN | apply below_drew1) | exact HB.out)) hb); clear HB; have HB := n0_; clear n0_; (try clear hb); (try clear hb2); (try clear hk); (try clear hi)) | ((with_reducible refine gate_callee (f := 15) rfl ?_); refine goesL_ (some 39) rfl rfl Try.func15 (by kernel_rfl) rfl #[.string a0] rfl (by (try simp only [List.map_toArray, List.map_cons, List.map_nil]); first | done | rfl | (simp only [List.length_drop, List.length_take]; rfl)) ?_; (with_reducible refine (ident_User.calls a0 t183 _ A21.out).mono ?_); rintro e w26 ⟨rfl, hb⟩; refine ⟨_, rfl, ?_⟩; have n0_ := Aside0.mk (below_step (by repeat (first | (with_reducible first | exact HB.out | apply below_alloc | apply pw_below_drewN | apply below_drew1) | exact HB.out)) hb); clear HB; have HB := n0_; clear n0_; (try clear hb); (try clear hb2); (try clear hk); (try clear hi)) | ((with_reducible refine gate_callee (f := 17) rfl ?_); refine goesL_ (some 41) rfl rfl Try.func17 (by kernel_rfl) rfl #[.string a0] rfl (by (try simp only [List.map_toArray, List.map_cons, List.map_nil]); first | done | rfl | (simp only [List.length_drop, List.length_take]; rfl)) ?_; (with_reducible refine (ident_Room.calls a0 t184 _ A22.out).mono ?_); rintro e w27 ⟨rfl, hb⟩; refine ⟨_, rfl, ?_⟩; have n0_ := Aside0.mk (below_step (by repeat (first | (with_reducible first | exact HB.out | apply below_alloc | apply pw_below_drewN | apply below_drew1) | exact HB.out)) hb); clear HB; have HB := n0_; clear n0_; (try clear hb); (try clear hb2); (try clear hk); (try clear hi)) | ((with_reducible refine gate_callee (f := 19) rfl ?_); refine goesL_ (some 43) rfl rfl Try.func19 (by kernel_rfl) rfl #[.string a0] rfl (by (try simp only [List.map_toArray, List.map_cons, List.map_nil]); first | done | rfl | (simp only [List.length_drop, List.length_take]; rfl)) ?_; (with_reducible refine (ident_EventID.calls a0 t185 _ A23.out).mono ?_); rintro e w28 ⟨rfl, hb⟩; refine ⟨_, rfl, ?_⟩; have n0_ := Aside0.mk (below_step (by repeat (first | (with_reducible first | exact HB.out | apply below_alloc | apply pw_below_drewN | apply below_drew1) | exact HB.out)) hb); clear HB; have HB := n0_; clear n0_; (try clear hb); (try clear hb2); (try clear hk); (try clear hi)) | ((with_reducible refine gate_callee (f := 10) rfl ?_); refine goesL_ (some 45) rfl rfl Try.func10 (by kernel_rfl) rfl #[.string a0] rfl (by (try simp only [List.map_toArray, List.map_cons, List.map_nil]); first | done | rfl | (simp only [List.length_drop, List.length_take]; rfl)) ?_; (with_reducible refine (ident_Server.calls a0 t186 _ A24.out).mono ?_); rintro e w29 ⟨rfl, hb⟩; refine ⟨_, rfl, ?_⟩; have n0_ := Aside0.mk (below_step (by repeat (first | (with_reducible first | exact HB.out | apply below_alloc | apply pw_below_drewN | apply below_drew1) | exact HB.out)) hb); clear HB; have HB := n0_; clear n0_; (try clear hb); (try clear hb2); (try clear hk); (try clear hi)) | ((with_reducible refine gate_dst (N := 46) rfl ?_); (try (refine gate_guard (by rfl) ?_; dsimp only)); refine Kd.R_lit Kd.bool _ 4 ?hg (N := 46) ?hd (xs := ([(a0.toList == ([] : List UInt8)), t183, t184, t185, t186] : List Bool)) (inner := [.bool (a0.toList == ([] : List UInt8)), .bool t183, .bool t184, .bool t185, .bool t186]) (ok := fun _ => True) (okp := fun _ => True) ?hr ?hp (fun _ hk => hk) trivial (Below.refl _ _) (Nat.le_refl _) (by simp) ?_; (case hd => rfl); (case hg => rfl); (case hr => first | (go_simp; done) | (go_simp; rfl)); (case hp => exact (Reps.one (show Kd.M Kd.bool _ _ _ (a0.toList == ([] : List UInt8)) [.bool (a0.toList == ([] : List UInt8))] from rfl) (Reps.one (show Kd.M Kd.bool _ _ _ t183 [.bool t183] from rfl) (Reps.one (show Kd.M Kd.bool _ _ _ t184 [.bool t184] from rfl) (Reps.one (show Kd.M Kd.bool _ _ _ t185 [.bool t185] from rfl) (Reps.one (show Kd.M Kd.bool _ _ _ t186 [.bool t186] from rfl) (Reps.none _ _))))))); intro v188 w30 ho31 hb hg_ hnew_; clear hg_ hnew_; (first | rw [← Ny187.out] at ho31 | (simp only [Int.reduceToNat] at ho31; rw [← Ny187.out] at ho31)); have n0_ := Aside0.mk (Kd.R_lower ho31 (below_size (by repeat (first | (with_reducible first | exact HB.out | apply below_alloc | apply pw_below_drewN | apply below_drew1) | exact HB.out)))); have n1_ := Aside0.mk (below_step (by repeat (first | (with_reducible first | exact HB.out | apply below_alloc | apply pw_below_drewN | apply below_drew1) | exact HB.out)) hb); clear HB; have HO189 := n0_; have HB := n1_; clear n0_ n1_; clear hb ho31))
            go_meet
            case rel => exact ⟨_, (y187), H', ⟨by first | omega | exact Nat.le_refl _⟩, ⟨by (with_reducible repeat (first | apply Kd.R_alloc | apply Kd.R_drewN | apply Kd.R_drew)); exact HO189.out⟩, ⟨by repeat (first | (with_reducible first | exact HB.out | apply below_alloc | apply pw_below_drewN | apply below_drew1) | exact HB.out)⟩⟩
          · replace c20 := Bool.eq_false_iff.mpr c20
            subst c20
            have H1 : ((ident_Room.f a0).bind fun t190 => (if t190 = true then ((ident_User.f a0).bind fun t191 => ((ident_Room.f a0).bind fun t192 => ((ident_EventID.f a0).bind fun t193 => ((ident_Server.f a0).bind fun t194 => (outlawlaw04_IdentKinds.j0 k a0 (([(a0.toList == ([] : List UInt8)), t191, t192, t193, t194] : List Bool))))))) else ((ident_EventID.f a0).bind fun t198 => (if t198 = true then ((ident_User.f a0).bind fun t199 => ((ident_Room.f a0).bind fun t200 => ((ident_EventID.f a0).bind fun t201 => ((ident_Server.f a0).bind fun t202 => (outlawlaw04_IdentKinds.j0 k a0 (([(a0.toList == ([] : List UInt8)), t199, t200, t201, t202] : List Bool))))))) else ((ident_Server.f a0).bind fun t206 => (if t206 = true then ((ident_User.f a0).bind fun t207 => ((ident_Room.f a0).bind fun t208 => ((ident_EventID.f a0).bind fun t209 => ((ident_Server.f a0).bind fun t210 => (outlawlaw04_IdentKinds.j0 k a0 (([(a0.toList == ([] : List UInt8)), t207, t208, t209, t210] : List Bool))))))) else ((ident_User.f a0).bind fun t214 => ((ident_Room.f a0).bind fun t215 => ((ident_EventID.f a0).bind fun t216 => ((ident_Server.f a0).bind fun t217 => (outlawlaw04_IdentKinds.j0 k a0 (([true, t214, t215, t216, t217] : List Bool))))))))))))) = some r := by rw [if_neg (show ¬ (false = true) by decide)] at H; exact H
            clear H
            have H := H1
            clear H1
            replace H := Option.bind_eq_some_iff.mp H
            obtain ⟨t190, A320, H⟩ := H
            replace H : (if t190 = true then ((ident_User.f a0).bind fun t191 => ((ident_Room.f a0).bind fun t192 => ((ident_EventID.f a0).bind fun t193 => ((ident_Server.f a0).bind fun t194 => (outlawlaw04_IdentKinds.j0 k a0 (([(a0.toList == ([] : List UInt8)), t191, t192, t193, t194] : List Bool))))))) else ((ident_EventID.f a0).bind fun t198 => (if t198 = true then ((ident_User.f a0).bind fun t199 => ((ident_Room.f a0).bind fun t200 => ((ident_EventID.f a0).bind fun t201 => ((ident_Server.f a0).bind fun t202 => (outlawlaw04_IdentKinds.j0 k a0 (([(a0.toList == ([] : List UInt8)), t199, t200, t201, t202] : List Bool))))))) else ((ident_Server.f a0).bind fun t206 => (if t206 = true then ((ident_User.f a0).bind fun t207 => ((ident_Room.f a0).bind fun t208 => ((ident_EventID.f a0).bind fun t209 => ((ident_Server.f a0).bind fun t210 => (outlawlaw04_IdentKinds.j0 k a0 (([(a0.toList == ([] : List UInt8)), t207, t208, t209, t210] : List Bool))))))) else ((ident_User.f a0).bind fun t214 => ((ident_Room.f a0).bind fun t215 => ((ident_EventID.f a0).bind fun t216 => ((ident_Server.f a0).bind fun t217 => (outlawlaw04_IdentKinds.j0 k a0 (([true, t214, t215, t216, t217] : List Bool)))))))))))) = some r := H
            have A32 := Aside0.mk A320
            clear A320
            by_cases c33 : t190 = true
            · subst c33
              have H1 : ((ident_User.f a0).bind fun t191 => ((ident_Room.f a0).bind fun t192 => ((ident_EventID.f a0).bind fun t193 => ((ident_Server.f a0).bind fun t194 => (outlawlaw04_IdentKinds.j0 k a0 (([(a0.toList == ([] : List UInt8)), t191, t192, t193, t194] : List Bool))))))) = some r := by rw [if_pos rfl] at H; exact H
              clear H
              have H := H1
              clear H1
              replace H := Option.bind_eq_some_iff.mp H
              obtain ⟨t191, A340, H⟩ := H
              replace H : ((ident_Room.f a0).bind fun t192 => ((ident_EventID.f a0).bind fun t193 => ((ident_Server.f a0).bind fun t194 => (outlawlaw04_IdentKinds.j0 k a0 (([(a0.toList == ([] : List UInt8)), t191, t192, t193, t194] : List Bool)))))) = some r := H
              have A34 := Aside0.mk A340
              clear A340
              replace H := Option.bind_eq_some_iff.mp H
              obtain ⟨t192, A350, H⟩ := H
              replace H : ((ident_EventID.f a0).bind fun t193 => ((ident_Server.f a0).bind fun t194 => (outlawlaw04_IdentKinds.j0 k a0 (([(a0.toList == ([] : List UInt8)), t191, t192, t193, t194] : List Bool))))) = some r := H
              have A35 := Aside0.mk A350
              clear A350
              replace H := Option.bind_eq_some_iff.mp H
              obtain ⟨t193, A360, H⟩ := H
              replace H : ((ident_Server.f a0).bind fun t194 => (outlawlaw04_IdentKinds.j0 k a0 (([(a0.toList == ([] : List UInt8)), t191, t192, t193, t194] : List Bool)))) = some r := H
              have A36 := Aside0.mk A360
              clear A360
              replace H := Option.bind_eq_some_iff.mp H
              obtain ⟨t194, A370, H⟩ := H
              replace H : (outlawlaw04_IdentKinds.j0 k a0 (([(a0.toList == ([] : List UInt8)), t191, t192, t193, t194] : List Bool))) = some r := H
              have A37 := Aside0.mk A370
              clear A370
              obtain ⟨y195, hy195⟩ : ∃ y_ : List Bool, y_ = (([(a0.toList == ([] : List UInt8)), t191, t192, t193, t194] : List Bool)) := ⟨_, rfl⟩
              replace H : (outlawlaw04_IdentKinds.j0 k a0 y195) = some r := by first | (rw [hy195]; with_reducible exact H) | (have H2_ := (Option.bind_some _ _).symm.trans H; rw [hy195]; with_reducible exact H2_) | (have H2_ := (Option.bind_some _ _).symm.trans H; with_reducible exact H2_) | with_reducible exact H | (rw [hy195]; exact H) | exact H
              have Ny195 := Aside0.mk hy195
              clear hy195
              have H' := Aside0.mk H
              clear H
              go_wp2_with (first | (go_at_call 15; (with_reducible refine (ident_User.calls a0 false _ A19.out).mono ?_); rintro e w38 ⟨rfl, hb⟩; have n0_ := Aside0.mk (below_step (by repeat (first | (with_reducible first | exact HB.out | apply below_alloc | apply pw_below_drewN | apply below_drew1) | exact HB.out)) hb); clear HB; have HB := n0_; clear n0_; (try clear hb); (try clear hb2); (try clear hk); (try clear hi)) | (go_at_call 17; (with_reducible refine (ident_Room.calls a0 true _ A32.out).mono ?_); rintro e w39 ⟨rfl, hb⟩; have n0_ := Aside0.mk (below_step (by repeat (first | (with_reducible first | exact HB.out | apply below_alloc | apply pw_below_drewN | apply below_drew1) | exact HB.out)) hb); clear HB; have HB := n0_; clear n0_; (try clear hb); (try clear hb2); (try clear hk); (try clear hi)) | ((with_reducible refine gate_callee (f := 15) rfl ?_); refine goesL_ (some 39) rfl rfl Try.func15 (by kernel_rfl) rfl #[.string a0] rfl (by (try simp only [List.map_toArray, List.map_cons, List.map_nil]); first | done | rfl | (simp only [List.length_drop, List.length_take]; rfl)) ?_; (with_reducible refine (ident_User.calls a0 t191 _ A34.out).mono ?_); rintro e w40 ⟨rfl, hb⟩; refine ⟨_, rfl, ?_⟩; have n0_ := Aside0.mk (below_step (by repeat (first | (with_reducible first | exact HB.out | apply below_alloc | apply pw_below_drewN | apply below_drew1) | exact HB.out)) hb); clear HB; have HB := n0_; clear n0_; (try clear hb); (try clear hb2); (try clear hk); (try clear hi)) | ((with_reducible refine gate_callee (f := 17) rfl ?_); refine goesL_ (some 41) rfl rfl Try.func17 (by kernel_rfl) rfl #[.string a0] rfl (by (try simp only [List.map_toArray, List.map_cons, List.map_nil]); first | done | rfl | (simp only [List.length_drop, List.length_take]; rfl)) ?_; (with_reducible refine (ident_Room.calls a0 t192 _ A35.out).mono ?_); rintro e w41 ⟨rfl, hb⟩; refine ⟨_, rfl, ?_⟩; have n0_ := Aside0.mk (below_step (by repeat (first | (with_reducible first | exact HB.out | apply below_alloc | apply pw_below_drewN | apply below_drew1) | exact HB.out)) hb); clear HB; have HB := n0_; clear n0_; (try clear hb); (try clear hb2); (try clear hk); (try clear hi)) | ((with_reducible refine gate_callee (f := 19) rfl ?_); refine goesL_ (some 43) rfl rfl Try.func19 (by kernel_rfl) rfl #[.string a0] rfl (by (try simp only [List.map_toArray, List.map_cons, List.map_nil]); first | done | rfl | (simp only [List.length_drop, List.length_take]; rfl)) ?_; (with_reducible refine (ident_EventID.calls a0 t193 _ A36.out).mono ?_); rintro e w42 ⟨rfl, hb⟩; refine ⟨_, rfl, ?_⟩; have n0_ := Aside0.mk (below_step (by repeat (first | (with_reducible first | exact HB.out | apply below_alloc | apply pw_below_drewN | apply below_drew1) | exact HB.out)) hb); clear HB; have HB := n0_; clear n0_; (try clear hb); (try clear hb2); (try clear hk); (try clear hi)) | ((with_reducible refine gate_callee (f := 10) rfl ?_); refine goesL_ (some 45) rfl rfl Try.func10 (by kernel_rfl) rfl #[.string a0] rfl (by (try simp only [List.map_toArray, List.map_cons, List.map_nil]); first | done | rfl | (simp only [List.length_drop, List.length_take]; rfl)) ?_; (with_reducible refine (ident_Server.calls a0 t194 _ A37.out).mono ?_); rintro e w43 ⟨rfl, hb⟩; refine ⟨_, rfl, ?_⟩; have n0_ := Aside0.mk (below_step (by repeat (first | (with_reducible first | exact HB.out | apply below_alloc | apply pw_below_drewN | apply below_drew1) | exact HB.out)) hb); clear HB; have HB := n0_; clear n0_; (try clear hb); (try clear hb2); (try clear hk); (try clear hi)) | ((with_reducible refine gate_dst (N := 46) rfl ?_); (try (refine gate_guard (by rfl) ?_; dsimp only)); refine Kd.R_lit Kd.bool _ 4 ?hg (N := 46) ?hd (xs := ([(a0.toList == ([] : List UInt8)), t191, t192, t193, t194] : List Bool)) (inner := [.bool (a0.toList == ([] : List UInt8)), .bool t191, .bool t192, .bool t193, .bool t194]) (ok := fun _ => True) (okp := fun _ => True) ?hr ?hp (fun _ hk => hk) trivial (Below.refl _ _) (Nat.le_refl _) (by simp) ?_; (case hd => rfl); (case hg => rfl); (case hr => first | (go_simp; done) | (go_simp; rfl)); (case hp => exact (Reps.one (show Kd.M Kd.bool _ _ _ (a0.toList == ([] : List UInt8)) [.bool (a0.toList == ([] : List UInt8))] from rfl) (Reps.one (show Kd.M Kd.bool _ _ _ t191 [.bool t191] from rfl) (Reps.one (show Kd.M Kd.bool _ _ _ t192 [.bool t192] from rfl) (Reps.one (show Kd.M Kd.bool _ _ _ t193 [.bool t193] from rfl) (Reps.one (show Kd.M Kd.bool _ _ _ t194 [.bool t194] from rfl) (Reps.none _ _))))))); intro v196 w44 ho45 hb hg_ hnew_; clear hg_ hnew_; (first | rw [← Ny195.out] at ho45 | (simp only [Int.reduceToNat] at ho45; rw [← Ny195.out] at ho45)); have n0_ := Aside0.mk (Kd.R_lower ho45 (below_size (by repeat (first | (with_reducible first | exact HB.out | apply below_alloc | apply pw_below_drewN | apply below_drew1) | exact HB.out)))); have n1_ := Aside0.mk (below_step (by repeat (first | (with_reducible first | exact HB.out | apply below_alloc | apply pw_below_drewN | apply below_drew1) | exact HB.out)) hb); clear HB; have HO197 := n0_; have HB := n1_; clear n0_ n1_; clear hb ho45))
              go_meet
              case rel => exact ⟨_, (y195), H', ⟨by first | omega | exact Nat.le_refl _⟩, ⟨by (with_reducible repeat (first | apply Kd.R_alloc | apply Kd.R_drewN | apply Kd.R_drew)); exact HO197.out⟩, ⟨by repeat (first | (with_reducible first | exact HB.out | apply below_alloc | apply pw_below_drewN | apply below_drew1) | exact HB.out)⟩⟩
            · replace c33 := Bool.eq_false_iff.mpr c33
              subst c33
              have H1 : ((ident_EventID.f a0).bind fun t198 => (if t198 = true then ((ident_User.f a0).bind fun t199 => ((ident_Room.f a0).bind fun t200 => ((ident_EventID.f a0).bind fun t201 => ((ident_Server.f a0).bind fun t202 => (outlawlaw04_IdentKinds.j0 k a0 (([(a0.toList == ([] : List UInt8)), t199, t200, t201, t202] : List Bool))))))) else ((ident_Server.f a0).bind fun t206 => (if t206 = true then ((ident_User.f a0).bind fun t207 => ((ident_Room.f a0).bind fun t208 => ((ident_EventID.f a0).bind fun t209 => ((ident_Server.f a0).bind fun t210 => (outlawlaw04_IdentKinds.j0 k a0 (([(a0.toList == ([] : List UInt8)), t207, t208, t209, t210] : List Bool))))))) else ((ident_User.f a0).bind fun t214 => ((ident_Room.f a0).bind fun t215 => ((ident_EventID.f a0).bind fun t216 => ((ident_Server.f a0).bind fun t217 => (outlawlaw04_IdentKinds.j0 k a0 (([true, t214, t215, t216, t217] : List Bool))))))))))) = some r := by rw [if_neg (show ¬ (false = true) by decide)] at H; exact H
              clear H
              have H := H1
              clear H1
              replace H := Option.bind_eq_some_iff.mp H
              obtain ⟨t198, A460, H⟩ := H
              replace H : (if t198 = true then ((ident_User.f a0).bind fun t199 => ((ident_Room.f a0).bind fun t200 => ((ident_EventID.f a0).bind fun t201 => ((ident_Server.f a0).bind fun t202 => (outlawlaw04_IdentKinds.j0 k a0 (([(a0.toList == ([] : List UInt8)), t199, t200, t201, t202] : List Bool))))))) else ((ident_Server.f a0).bind fun t206 => (if t206 = true then ((ident_User.f a0).bind fun t207 => ((ident_Room.f a0).bind fun t208 => ((ident_EventID.f a0).bind fun t209 => ((ident_Server.f a0).bind fun t210 => (outlawlaw04_IdentKinds.j0 k a0 (([(a0.toList == ([] : List UInt8)), t207, t208, t209, t210] : List Bool))))))) else ((ident_User.f a0).bind fun t214 => ((ident_Room.f a0).bind fun t215 => ((ident_EventID.f a0).bind fun t216 => ((ident_Server.f a0).bind fun t217 => (outlawlaw04_IdentKinds.j0 k a0 (([true, t214, t215, t216, t217] : List Bool)))))))))) = some r := H
              have A46 := Aside0.mk A460
              clear A460
              by_cases c47 : t198 = true
              · subst c47
                have H1 : ((ident_User.f a0).bind fun t199 => ((ident_Room.f a0).bind fun t200 => ((ident_EventID.f a0).bind fun t201 => ((ident_Server.f a0).bind fun t202 => (outlawlaw04_IdentKinds.j0 k a0 (([(a0.toList == ([] : List UInt8)), t199, t200, t201, t202] : List Bool))))))) = some r := by rw [if_pos rfl] at H; exact H
                clear H
                have H := H1
                clear H1
                replace H := Option.bind_eq_some_iff.mp H
                obtain ⟨t199, A480, H⟩ := H
                replace H : ((ident_Room.f a0).bind fun t200 => ((ident_EventID.f a0).bind fun t201 => ((ident_Server.f a0).bind fun t202 => (outlawlaw04_IdentKinds.j0 k a0 (([(a0.toList == ([] : List UInt8)), t199, t200, t201, t202] : List Bool)))))) = some r := H
                have A48 := Aside0.mk A480
                clear A480
                replace H := Option.bind_eq_some_iff.mp H
                obtain ⟨t200, A490, H⟩ := H
                replace H : ((ident_EventID.f a0).bind fun t201 => ((ident_Server.f a0).bind fun t202 => (outlawlaw04_IdentKinds.j0 k a0 (([(a0.toList == ([] : List UInt8)), t199, t200, t201, t202] : List Bool))))) = some r := H
                have A49 := Aside0.mk A490
                clear A490
                replace H := Option.bind_eq_some_iff.mp H
                obtain ⟨t201, A500, H⟩ := H
                replace H : ((ident_Server.f a0).bind fun t202 => (outlawlaw04_IdentKinds.j0 k a0 (([(a0.toList == ([] : List UInt8)), t199, t200, t201, t202] : List Bool)))) = some r := H
                have A50 := Aside0.mk A500
                clear A500
                replace H := Option.bind_eq_some_iff.mp H
                obtain ⟨t202, A510, H⟩ := H
                replace H : (outlawlaw04_IdentKinds.j0 k a0 (([(a0.toList == ([] : List UInt8)), t199, t200, t201, t202] : List Bool))) = some r := H
                have A51 := Aside0.mk A510
                clear A510
                obtain ⟨y203, hy203⟩ : ∃ y_ : List Bool, y_ = (([(a0.toList == ([] : List UInt8)), t199, t200, t201, t202] : List Bool)) := ⟨_, rfl⟩
                replace H : (outlawlaw04_IdentKinds.j0 k a0 y203) = some r := by first | (rw [hy203]; with_reducible exact H) | (have H2_ := (Option.bind_some _ _).symm.trans H; rw [hy203]; with_reducible exact H2_) | (have H2_ := (Option.bind_some _ _).symm.trans H; with_reducible exact H2_) | with_reducible exact H | (rw [hy203]; exact H) | exact H
                have Ny203 := Aside0.mk hy203
                clear hy203
                have H' := Aside0.mk H
                clear H
                go_wp2_with (first | (go_at_call 15; (with_reducible refine (ident_User.calls a0 false _ A19.out).mono ?_); rintro e w52 ⟨rfl, hb⟩; have n0_ := Aside0.mk (below_step (by repeat (first | (with_reducible first | exact HB.out | apply below_alloc | apply pw_below_drewN | apply below_drew1) | exact HB.out)) hb); clear HB; have HB := n0_; clear n0_; (try clear hb); (try clear hb2); (try clear hk); (try clear hi)) | (go_at_call 17; (with_reducible refine (ident_Room.calls a0 false _ A32.out).mono ?_); rintro e w53 ⟨rfl, hb⟩; have n0_ := Aside0.mk (below_step (by repeat (first | (with_reducible first | exact HB.out | apply below_alloc | apply pw_below_drewN | apply below_drew1) | exact HB.out)) hb); clear HB; have HB := n0_; clear n0_; (try clear hb); (try clear hb2); (try clear hk); (try clear hi)) | (go_at_call 19; (with_reducible refine (ident_EventID.calls a0 true _ A46.out).mono ?_); rintro e w54 ⟨rfl, hb⟩; have n0_ := Aside0.mk (below_step (by repeat (first | (with_reducible first | exact HB.out | apply below_alloc | apply pw_below_drewN | apply below_drew1) | exact HB.out)) hb); clear HB; have HB := n0_; clear n0_; (try clear hb); (try clear hb2); (try clear hk); (try clear hi)) | ((with_reducible refine gate_callee (f := 15) rfl ?_); refine goesL_ (some 39) rfl rfl Try.func15 (by kernel_rfl) rfl #[.string a0] rfl (by (try simp only [List.map_toArray, List.map_cons, List.map_nil]); first | done | rfl | (simp only [List.length_drop, List.length_take]; rfl)) ?_; (with_reducible refine (ident_User.calls a0 t199 _ A48.out).mono ?_); rintro e w55 ⟨rfl, hb⟩; refine ⟨_, rfl, ?_⟩; have n0_ := Aside0.mk (below_step (by repeat (first | (with_reducible first | exact HB.out | apply below_alloc | apply pw_below_drewN | apply below_drew1) | exact HB.out)) hb); clear HB; have HB := n0_; clear n0_; (try clear hb); (try clear hb2); (try clear hk); (try clear hi)) | ((with_reducible refine gate_callee (f := 17) rfl ?_); refine goesL_ (some 41) rfl rfl Try.func17 (by kernel_rfl) rfl #[.string a0] rfl (by (try simp only [List.map_toArray, List.map_cons, List.map_nil]); first | done | rfl | (simp only [List.length_drop, List.length_take]; rfl)) ?_; (with_reducible refine (ident_Room.calls a0 t200 _ A49.out).mono ?_); rintro e w56 ⟨rfl, hb⟩; refine ⟨_, rfl, ?_⟩; have n0_ := Aside0.mk (below_step (by repeat (first | (with_reducible first | exact HB.out | apply below_alloc | apply pw_below_drewN | apply below_drew1) | exact HB.out)) hb); clear HB; have HB := n0_; clear n0_; (try clear hb); (try clear hb2); (try clear hk); (try clear hi)) | ((with_reducible refine gate_callee (f := 19) rfl ?_); refine goesL_ (some 43) rfl rfl Try.func19 (by kernel_rfl) rfl #[.string a0] rfl (by (try simp only [List.map_toArray, List.map_cons, List.map_nil]); first | done | rfl | (simp only [List.length_drop, List.length_take]; rfl)) ?_; (with_reducible refine (ident_EventID.calls a0 t201 _ A50.out).mono ?_); rintro e w57 ⟨rfl, hb⟩; refine ⟨_, rfl, ?_⟩; have n0_ := Aside0.mk (below_step (by repeat (first | (with_reducible first | exact HB.out | apply below_alloc | apply pw_below_drewN | apply below_drew1) | exact HB.out)) hb); clear HB; have HB := n0_; clear n0_; (try clear hb); (try clear hb2); (try clear hk); (try clear hi)) | ((with_reducible refine gate_callee (f := 10) rfl ?_); refine goesL_ (some 45) rfl rfl Try.func10 (by kernel_rfl) rfl #[.string a0] rfl (by (try simp only [List.map_toArray, List.map_cons, List.map_nil]); first | done | rfl | (simp only [List.length_drop, List.length_take]; rfl)) ?_; (with_reducible refine (ident_Server.calls a0 t202 _ A51.out).mono ?_); rintro e w58 ⟨rfl, hb⟩; refine ⟨_, rfl, ?_⟩; have n0_ := Aside0.mk (below_step (by repeat (first | (with_reducible first | exact HB.out | apply below_alloc | apply pw_below_drewN | apply below_drew1) | exact HB.out)) hb); clear HB; have HB := n0_; clear n0_; (try clear hb); (try clear hb2); (try clear hk); (try clear hi)) | ((with_reducible refine gate_dst (N := 46) rfl ?_); (try (refine gate_guard (by rfl) ?_; dsimp only)); refine Kd.R_lit Kd.bool _ 4 ?hg (N := 46) ?hd (xs := ([(a0.toList == ([] : List UInt8)), t199, t200, t201, t202] : List Bool)) (inner := [.bool (a0.toList == ([] : List UInt8)), .bool t199, .bool t200, .bool t201, .bool t202]) (ok := fun _ => True) (okp := fun _ => True) ?hr ?hp (fun _ hk => hk) trivial (Below.refl _ _) (Nat.le_refl _) (by simp) ?_; (case hd => rfl); (case hg => rfl); (case hr => first | (go_simp; done) | (go_simp; rfl)); (case hp => exact (Reps.one (show Kd.M Kd.bool _ _ _ (a0.toList == ([] : List UInt8)) [.bool (a0.toList == ([] : List UInt8))] from rfl) (Reps.one (show Kd.M Kd.bool _ _ _ t199 [.bool t199] from rfl) (Reps.one (show Kd.M Kd.bool _ _ _ t200 [.bool t200] from rfl) (Reps.one (show Kd.M Kd.bool _ _ _ t201 [.bool t201] from rfl) (Reps.one (show Kd.M Kd.bool _ _ _ t202 [.bool t202] from rfl) (Reps.none _ _))))))); intro v204 w59 ho60 hb hg_ hnew_; clear hg_ hnew_; (first | rw [← Ny203.out] at ho60 | (simp only [Int.reduceToNat] at ho60; rw [← Ny203.out] at ho60)); have n0_ := Aside0.mk (Kd.R_lower ho60 (below_size (by repeat (first | (with_reducible first | exact HB.out | apply below_alloc | apply pw_below_drewN | apply below_drew1) | exact HB.out)))); have n1_ := Aside0.mk (below_step (by repeat (first | (with_reducible first | exact HB.out | apply below_alloc | apply pw_below_drewN | apply below_drew1) | exact HB.out)) hb); clear HB; have HO205 := n0_; have HB := n1_; clear n0_ n1_; clear hb ho60))
                go_meet
                case rel => exact ⟨_, (y203), H', ⟨by first | omega | exact Nat.le_refl _⟩, ⟨by (with_reducible repeat (first | apply Kd.R_alloc | apply Kd.R_drewN | apply Kd.R_drew)); exact HO205.out⟩, ⟨by repeat (first | (with_reducible first | exact HB.out | apply below_alloc | apply pw_below_drewN | apply below_drew1) | exact HB.out)⟩⟩
              · replace c47 := Bool.eq_false_iff.mpr c47
                subst c47
                have H1 : ((ident_Server.f a0).bind fun t206 => (if t206 = true then ((ident_User.f a0).bind fun t207 => ((ident_Room.f a0).bind fun t208 => ((ident_EventID.f a0).bind fun t209 => ((ident_Server.f a0).bind fun t210 => (outlawlaw04_IdentKinds.j0 k a0 (([(a0.toList == ([] : List UInt8)), t207, t208, t209, t210] : List Bool))))))) else ((ident_User.f a0).bind fun t214 => ((ident_Room.f a0).bind fun t215 => ((ident_EventID.f a0).bind fun t216 => ((ident_Server.f a0).bind fun t217 => (outlawlaw04_IdentKinds.j0 k a0 (([true, t214, t215, t216, t217] : List Bool))))))))) = some r := by rw [if_neg (show ¬ (false = true) by decide)] at H; exact H
                clear H
                have H := H1
                clear H1
                replace H := Option.bind_eq_some_iff.mp H
                obtain ⟨t206, A610, H⟩ := H
                replace H : (if t206 = true then ((ident_User.f a0).bind fun t207 => ((ident_Room.f a0).bind fun t208 => ((ident_EventID.f a0).bind fun t209 => ((ident_Server.f a0).bind fun t210 => (outlawlaw04_IdentKinds.j0 k a0 (([(a0.toList == ([] : List UInt8)), t207, t208, t209, t210] : List Bool))))))) else ((ident_User.f a0).bind fun t214 => ((ident_Room.f a0).bind fun t215 => ((ident_EventID.f a0).bind fun t216 => ((ident_Server.f a0).bind fun t217 => (outlawlaw04_IdentKinds.j0 k a0 (([true, t214, t215, t216, t217] : List Bool)))))))) = some r := H
                have A61 := Aside0.mk A610
                clear A610
                by_cases c62 : t206 = true
                · subst c62
                  have H1 : ((ident_User.f a0).bind fun t207 => ((ident_Room.f a0).bind fun t208 => ((ident_EventID.f a0).bind fun t209 => ((ident_Server.f a0).bind fun t210 => (outlawlaw04_IdentKinds.j0 k a0 (([(a0.toList == ([] : List UInt8)), t207, t208, t209, t210] : List Bool))))))) = some r := by rw [if_pos rfl] at H; exact H
                  clear H
                  have H := H1
                  clear H1
                  replace H := Option.bind_eq_some_iff.mp H
                  obtain ⟨t207, A630, H⟩ := H
                  replace H : ((ident_Room.f a0).bind fun t208 => ((ident_EventID.f a0).bind fun t209 => ((ident_Server.f a0).bind fun t210 => (outlawlaw04_IdentKinds.j0 k a0 (([(a0.toList == ([] : List UInt8)), t207, t208, t209, t210] : List Bool)))))) = some r := H
                  have A63 := Aside0.mk A630
                  clear A630
                  replace H := Option.bind_eq_some_iff.mp H
                  obtain ⟨t208, A640, H⟩ := H
                  replace H : ((ident_EventID.f a0).bind fun t209 => ((ident_Server.f a0).bind fun t210 => (outlawlaw04_IdentKinds.j0 k a0 (([(a0.toList == ([] : List UInt8)), t207, t208, t209, t210] : List Bool))))) = some r := H
                  have A64 := Aside0.mk A640
                  clear A640
                  replace H := Option.bind_eq_some_iff.mp H
                  obtain ⟨t209, A650, H⟩ := H
                  replace H : ((ident_Server.f a0).bind fun t210 => (outlawlaw04_IdentKinds.j0 k a0 (([(a0.toList == ([] : List UInt8)), t207, t208, t209, t210] : List Bool)))) = some r := H
                  have A65 := Aside0.mk A650
                  clear A650
                  replace H := Option.bind_eq_some_iff.mp H
                  obtain ⟨t210, A660, H⟩ := H
                  replace H : (outlawlaw04_IdentKinds.j0 k a0 (([(a0.toList == ([] : List UInt8)), t207, t208, t209, t210] : List Bool))) = some r := H
                  have A66 := Aside0.mk A660
                  clear A660
                  obtain ⟨y211, hy211⟩ : ∃ y_ : List Bool, y_ = (([(a0.toList == ([] : List UInt8)), t207, t208, t209, t210] : List Bool)) := ⟨_, rfl⟩
                  replace H : (outlawlaw04_IdentKinds.j0 k a0 y211) = some r := by first | (rw [hy211]; with_reducible exact H) | (have H2_ := (Option.bind_some _ _).symm.trans H; rw [hy211]; with_reducible exact H2_) | (have H2_ := (Option.bind_some _ _).symm.trans H; with_reducible exact H2_) | with_reducible exact H | (rw [hy211]; exact H) | exact H
                  have Ny211 := Aside0.mk hy211
                  clear hy211
                  have H' := Aside0.mk H
                  clear H
                  go_wp2_with (first | (go_at_call 15; (with_reducible refine (ident_User.calls a0 false _ A19.out).mono ?_); rintro e w67 ⟨rfl, hb⟩; have n0_ := Aside0.mk (below_step (by repeat (first | (with_reducible first | exact HB.out | apply below_alloc | apply pw_below_drewN | apply below_drew1) | exact HB.out)) hb); clear HB; have HB := n0_; clear n0_; (try clear hb); (try clear hb2); (try clear hk); (try clear hi)) | (go_at_call 17; (with_reducible refine (ident_Room.calls a0 false _ A32.out).mono ?_); rintro e w68 ⟨rfl, hb⟩; have n0_ := Aside0.mk (below_step (by repeat (first | (with_reducible first | exact HB.out | apply below_alloc | apply pw_below_drewN | apply below_drew1) | exact HB.out)) hb); clear HB; have HB := n0_; clear n0_; (try clear hb); (try clear hb2); (try clear hk); (try clear hi)) | (go_at_call 19; (with_reducible refine (ident_EventID.calls a0 false _ A46.out).mono ?_); rintro e w69 ⟨rfl, hb⟩; have n0_ := Aside0.mk (below_step (by repeat (first | (with_reducible first | exact HB.out | apply below_alloc | apply pw_below_drewN | apply below_drew1) | exact HB.out)) hb); clear HB; have HB := n0_; clear n0_; (try clear hb); (try clear hb2); (try clear hk); (try clear hi)) | (go_at_call 10; (with_reducible refine (ident_Server.calls a0 true _ A61.out).mono ?_); rintro e w70 ⟨rfl, hb⟩; have n0_ := Aside0.mk (below_step (by repeat (first | (with_reducible first | exact HB.out | apply below_alloc | apply pw_below_drewN | apply below_drew1) | exact HB.out)) hb); clear HB; have HB := n0_; clear n0_; (try clear hb); (try clear hb2); (try clear hk); (try clear hi)) | ((with_reducible refine gate_callee (f := 15) rfl ?_); refine goesL_ (some 39) rfl rfl Try.func15 (by kernel_rfl) rfl #[.string a0] rfl (by (try simp only [List.map_toArray, List.map_cons, List.map_nil]); first | done | rfl | (simp only [List.length_drop, List.length_take]; rfl)) ?_; (with_reducible refine (ident_User.calls a0 t207 _ A63.out).mono ?_); rintro e w71 ⟨rfl, hb⟩; refine ⟨_, rfl, ?_⟩; have n0_ := Aside0.mk (below_step (by repeat (first | (with_reducible first | exact HB.out | apply below_alloc | apply pw_below_drewN | apply below_drew1) | exact HB.out)) hb); clear HB; have HB := n0_; clear n0_; (try clear hb); (try clear hb2); (try clear hk); (try clear hi)) | ((with_reducible refine gate_callee (f := 17) rfl ?_); refine goesL_ (some 41) rfl rfl Try.func17 (by kernel_rfl) rfl #[.string a0] rfl (by (try simp only [List.map_toArray, List.map_cons, List.map_nil]); first | done | rfl | (simp only [List.length_drop, List.length_take]; rfl)) ?_; (with_reducible refine (ident_Room.calls a0 t208 _ A64.out).mono ?_); rintro e w72 ⟨rfl, hb⟩; refine ⟨_, rfl, ?_⟩; have n0_ := Aside0.mk (below_step (by repeat (first | (with_reducible first | exact HB.out | apply below_alloc | apply pw_below_drewN | apply below_drew1) | exact HB.out)) hb); clear HB; have HB := n0_; clear n0_; (try clear hb); (try clear hb2); (try clear hk); (try clear hi)) | ((with_reducible refine gate_callee (f := 19) rfl ?_); refine goesL_ (some 43) rfl rfl Try.func19 (by kernel_rfl) rfl #[.string a0] rfl (by (try simp only [List.map_toArray, List.map_cons, List.map_nil]); first | done | rfl | (simp only [List.length_drop, List.length_take]; rfl)) ?_; (with_reducible refine (ident_EventID.calls a0 t209 _ A65.out).mono ?_); rintro e w73 ⟨rfl, hb⟩; refine ⟨_, rfl, ?_⟩; have n0_ := Aside0.mk (below_step (by repeat (first | (with_reducible first | exact HB.out | apply below_alloc | apply pw_below_drewN | apply below_drew1) | exact HB.out)) hb); clear HB; have HB := n0_; clear n0_; (try clear hb); (try clear hb2); (try clear hk); (try clear hi)) | ((with_reducible refine gate_callee (f := 10) rfl ?_); refine goesL_ (some 45) rfl rfl Try.func10 (by kernel_rfl) rfl #[.string a0] rfl (by (try simp only [List.map_toArray, List.map_cons, List.map_nil]); first | done | rfl | (simp only [List.length_drop, List.length_take]; rfl)) ?_; (with_reducible refine (ident_Server.calls a0 t210 _ A66.out).mono ?_); rintro e w74 ⟨rfl, hb⟩; refine ⟨_, rfl, ?_⟩; have n0_ := Aside0.mk (below_step (by repeat (first | (with_reducible first | exact HB.out | apply below_alloc | apply pw_below_drewN | apply below_drew1) | exact HB.out)) hb); clear HB; have HB := n0_; clear n0_; (try clear hb); (try clear hb2); (try clear hk); (try clear hi)) | ((with_reducible refine gate_dst (N := 46) rfl ?_); (try (refine gate_guard (by rfl) ?_; dsimp only)); refine Kd.R_lit Kd.bool _ 4 ?hg (N := 46) ?hd (xs := ([(a0.toList == ([] : List UInt8)), t207, t208, t209, t210] : List Bool)) (inner := [.bool (a0.toList == ([] : List UInt8)), .bool t207, .bool t208, .bool t209, .bool t210]) (ok := fun _ => True) (okp := fun _ => True) ?hr ?hp (fun _ hk => hk) trivial (Below.refl _ _) (Nat.le_refl _) (by simp) ?_; (case hd => rfl); (case hg => rfl); (case hr => first | (go_simp; done) | (go_simp; rfl)); (case hp => exact (Reps.one (show Kd.M Kd.bool _ _ _ (a0.toList == ([] : List UInt8)) [.bool (a0.toList == ([] : List UInt8))] from rfl) (Reps.one (show Kd.M Kd.bool _ _ _ t207 [.bool t207] from rfl) (Reps.one (show Kd.M Kd.bool _ _ _ t208 [.bool t208] from rfl) (Reps.one (show Kd.M Kd.bool _ _ _ t209 [.bool t209] from rfl) (Reps.one (show Kd.M Kd.bool _ _ _ t210 [.bool t210] from rfl) (Reps.none _ _))))))); intro v212 w75 ho76 hb hg_ hnew_; clear hg_ hnew_; (first | rw [← Ny211.out] at ho76 | (simp only [Int.reduceToNat] at ho76; rw [← Ny211.out] at ho76)); have n0_ := Aside0.mk (Kd.R_lower ho76 (below_size (by repeat (first | (with_reducible first | exact HB.out | apply below_alloc | apply pw_below_drewN | apply below_drew1) | exact HB.out)))); have n1_ := Aside0.mk (below_step (by repeat (first | (with_reducible first | exact HB.out | apply below_alloc | apply pw_below_drewN | apply below_drew1) | exact HB.out)) hb); clear HB; have HO213 := n0_; have HB := n1_; clear n0_ n1_; clear hb ho76))
                  go_meet
                  case rel => exact ⟨_, (y211), H', ⟨by first | omega | exact Nat.le_refl _⟩, ⟨by (with_reducible repeat (first | apply Kd.R_alloc | apply Kd.R_drewN | apply Kd.R_drew)); exact HO213.out⟩, ⟨by repeat (first | (with_reducible first | exact HB.out | apply below_alloc | apply pw_below_drewN | apply below_drew1) | exact HB.out)⟩⟩
                · replace c62 := Bool.eq_false_iff.mpr c62
                  subst c62
                  have H1 : ((ident_User.f a0).bind fun t214 => ((ident_Room.f a0).bind fun t215 => ((ident_EventID.f a0).bind fun t216 => ((ident_Server.f a0).bind fun t217 => (outlawlaw04_IdentKinds.j0 k a0 (([true, t214, t215, t216, t217] : List Bool))))))) = some r := by rw [if_neg (show ¬ (false = true) by decide)] at H; exact H
                  clear H
                  have H := H1
                  clear H1
                  replace H := Option.bind_eq_some_iff.mp H
                  obtain ⟨t214, A770, H⟩ := H
                  replace H : ((ident_Room.f a0).bind fun t215 => ((ident_EventID.f a0).bind fun t216 => ((ident_Server.f a0).bind fun t217 => (outlawlaw04_IdentKinds.j0 k a0 (([true, t214, t215, t216, t217] : List Bool)))))) = some r := H
                  have A77 := Aside0.mk A770
                  clear A770
                  replace H := Option.bind_eq_some_iff.mp H
                  obtain ⟨t215, A780, H⟩ := H
                  replace H : ((ident_EventID.f a0).bind fun t216 => ((ident_Server.f a0).bind fun t217 => (outlawlaw04_IdentKinds.j0 k a0 (([true, t214, t215, t216, t217] : List Bool))))) = some r := H
                  have A78 := Aside0.mk A780
                  clear A780
                  replace H := Option.bind_eq_some_iff.mp H
                  obtain ⟨t216, A790, H⟩ := H
                  replace H : ((ident_Server.f a0).bind fun t217 => (outlawlaw04_IdentKinds.j0 k a0 (([true, t214, t215, t216, t217] : List Bool)))) = some r := H
                  have A79 := Aside0.mk A790
                  clear A790
                  replace H := Option.bind_eq_some_iff.mp H
                  obtain ⟨t217, A800, H⟩ := H
                  replace H : (outlawlaw04_IdentKinds.j0 k a0 (([true, t214, t215, t216, t217] : List Bool))) = some r := H
                  have A80 := Aside0.mk A800
                  clear A800
                  obtain ⟨y218, hy218⟩ : ∃ y_ : List Bool, y_ = (([true, t214, t215, t216, t217] : List Bool)) := ⟨_, rfl⟩
                  replace H : (outlawlaw04_IdentKinds.j0 k a0 y218) = some r := by first | (rw [hy218]; with_reducible exact H) | (have H2_ := (Option.bind_some _ _).symm.trans H; rw [hy218]; with_reducible exact H2_) | (have H2_ := (Option.bind_some _ _).symm.trans H; with_reducible exact H2_) | with_reducible exact H | (rw [hy218]; exact H) | exact H
                  have Ny218 := Aside0.mk hy218
                  clear hy218
                  have H' := Aside0.mk H
                  clear H
                  go_wp2_with (first | (go_at_call 15; (with_reducible refine (ident_User.calls a0 false _ A19.out).mono ?_); rintro e w81 ⟨rfl, hb⟩; have n0_ := Aside0.mk (below_step (by repeat (first | (with_reducible first | exact HB.out | apply below_alloc | apply pw_below_drewN | apply below_drew1) | exact HB.out)) hb); clear HB; have HB := n0_; clear n0_; (try clear hb); (try clear hb2); (try clear hk); (try clear hi)) | (go_at_call 17; (with_reducible refine (ident_Room.calls a0 false _ A32.out).mono ?_); rintro e w82 ⟨rfl, hb⟩; have n0_ := Aside0.mk (below_step (by repeat (first | (with_reducible first | exact HB.out | apply below_alloc | apply pw_below_drewN | apply below_drew1) | exact HB.out)) hb); clear HB; have HB := n0_; clear n0_; (try clear hb); (try clear hb2); (try clear hk); (try clear hi)) | (go_at_call 19; (with_reducible refine (ident_EventID.calls a0 false _ A46.out).mono ?_); rintro e w83 ⟨rfl, hb⟩; have n0_ := Aside0.mk (below_step (by repeat (first | (with_reducible first | exact HB.out | apply below_alloc | apply pw_below_drewN | apply below_drew1) | exact HB.out)) hb); clear HB; have HB := n0_; clear n0_; (try clear hb); (try clear hb2); (try clear hk); (try clear hi)) | (go_at_call 10; (with_reducible refine (ident_Server.calls a0 false _ A61.out).mono ?_); rintro e w84 ⟨rfl, hb⟩; have n0_ := Aside0.mk (below_step (by repeat (first | (with_reducible first | exact HB.out | apply below_alloc | apply pw_below_drewN | apply below_drew1) | exact HB.out)) hb); clear HB; have HB := n0_; clear n0_; (try clear hb); (try clear hb2); (try clear hk); (try clear hi)) | ((with_reducible refine gate_callee (f := 15) rfl ?_); refine goesL_ (some 39) rfl rfl Try.func15 (by kernel_rfl) rfl #[.string a0] rfl (by (try simp only [List.map_toArray, List.map_cons, List.map_nil]); first | done | rfl | (simp only [List.length_drop, List.length_take]; rfl)) ?_; (with_reducible refine (ident_User.calls a0 t214 _ A77.out).mono ?_); rintro e w85 ⟨rfl, hb⟩; refine ⟨_, rfl, ?_⟩; have n0_ := Aside0.mk (below_step (by repeat (first | (with_reducible first | exact HB.out | apply below_alloc | apply pw_below_drewN | apply below_drew1) | exact HB.out)) hb); clear HB; have HB := n0_; clear n0_; (try clear hb); (try clear hb2); (try clear hk); (try clear hi)) | ((with_reducible refine gate_callee (f := 17) rfl ?_); refine goesL_ (some 41) rfl rfl Try.func17 (by kernel_rfl) rfl #[.string a0] rfl (by (try simp only [List.map_toArray, List.map_cons, List.map_nil]); first | done | rfl | (simp only [List.length_drop, List.length_take]; rfl)) ?_; (with_reducible refine (ident_Room.calls a0 t215 _ A78.out).mono ?_); rintro e w86 ⟨rfl, hb⟩; refine ⟨_, rfl, ?_⟩; have n0_ := Aside0.mk (below_step (by repeat (first | (with_reducible first | exact HB.out | apply below_alloc | apply pw_below_drewN | apply below_drew1) | exact HB.out)) hb); clear HB; have HB := n0_; clear n0_; (try clear hb); (try clear hb2); (try clear hk); (try clear hi)) | ((with_reducible refine gate_callee (f := 19) rfl ?_); refine goesL_ (some 43) rfl rfl Try.func19 (by kernel_rfl) rfl #[.string a0] rfl (by (try simp only [List.map_toArray, List.map_cons, List.map_nil]); first | done | rfl | (simp only [List.length_drop, List.length_take]; rfl)) ?_; (with_reducible refine (ident_EventID.calls a0 t216 _ A79.out).mono ?_); rintro e w87 ⟨rfl, hb⟩; refine ⟨_, rfl, ?_⟩; have n0_ := Aside0.mk (below_step (by repeat (first | (with_reducible first | exact HB.out | apply below_alloc | apply pw_below_drewN | apply below_drew1) | exact HB.out)) hb); clear HB; have HB := n0_; clear n0_; (try clear hb); (try clear hb2); (try clear hk); (try clear hi)) | ((with_reducible refine gate_callee (f := 10) rfl ?_); refine goesL_ (some 45) rfl rfl Try.func10 (by kernel_rfl) rfl #[.string a0] rfl (by (try simp only [List.map_toArray, List.map_cons, List.map_nil]); first | done | rfl | (simp only [List.length_drop, List.length_take]; rfl)) ?_; (with_reducible refine (ident_Server.calls a0 t217 _ A80.out).mono ?_); rintro e w88 ⟨rfl, hb⟩; refine ⟨_, rfl, ?_⟩; have n0_ := Aside0.mk (below_step (by repeat (first | (with_reducible first | exact HB.out | apply below_alloc | apply pw_below_drewN | apply below_drew1) | exact HB.out)) hb); clear HB; have HB := n0_; clear n0_; (try clear hb); (try clear hb2); (try clear hk); (try clear hi)) | ((with_reducible refine gate_dst (N := 46) rfl ?_); (try (refine gate_guard (by rfl) ?_; dsimp only)); refine Kd.R_lit Kd.bool _ 4 ?hg (N := 46) ?hd (xs := ([true, t214, t215, t216, t217] : List Bool)) (inner := [.bool true, .bool t214, .bool t215, .bool t216, .bool t217]) (ok := fun _ => True) (okp := fun _ => True) ?hr ?hp (fun _ hk => hk) trivial (Below.refl _ _) (Nat.le_refl _) (by simp) ?_; (case hd => rfl); (case hg => rfl); (case hr => first | (go_simp; done) | (go_simp; rfl)); (case hp => exact (Reps.one (show Kd.M Kd.bool _ _ _ true [.bool true] from rfl) (Reps.one (show Kd.M Kd.bool _ _ _ t214 [.bool t214] from rfl) (Reps.one (show Kd.M Kd.bool _ _ _ t215 [.bool t215] from rfl) (Reps.one (show Kd.M Kd.bool _ _ _ t216 [.bool t216] from rfl) (Reps.one (show Kd.M Kd.bool _ _ _ t217 [.bool t217] from rfl) (Reps.none _ _))))))); intro v219 w89 ho90 hb hg_ hnew_; clear hg_ hnew_; (first | rw [← Ny218.out] at ho90 | (simp only [Int.reduceToNat] at ho90; rw [← Ny218.out] at ho90)); have n0_ := Aside0.mk (Kd.R_lower ho90 (below_size (by repeat (first | (with_reducible first | exact HB.out | apply below_alloc | apply pw_below_drewN | apply below_drew1) | exact HB.out)))); have n1_ := Aside0.mk (below_step (by repeat (first | (with_reducible first | exact HB.out | apply below_alloc | apply pw_below_drewN | apply below_drew1) | exact HB.out)) hb); clear HB; have HO220 := n0_; have HB := n1_; clear n0_ n1_; clear hb ho90))
                  go_meet
                  case rel => exact ⟨_, (y218), H', ⟨by first | omega | exact Nat.le_refl _⟩, ⟨by (with_reducible repeat (first | apply Kd.R_alloc | apply Kd.R_drewN | apply Kd.R_drew)); exact HO220.out⟩, ⟨by repeat (first | (with_reducible first | exact HB.out | apply below_alloc | apply pw_below_drewN | apply below_drew1) | exact HB.out)⟩⟩
      case rest =>
        clear HC6
        try clear c1
        try clear c2
        try clear p2
        try clear c3
        try clear c4
        try clear c4b0
        try clear c4b1
        try clear c6
        try clear c8
        try clear c8b0
        try clear c8b1
        try clear c10
        try clear c15
        try clear c17
        try clear c19
        try clear c20
        try clear c33
        try clear c47
        try clear c62
        obtain ⟨kq, x3_5, HA, HJ5, HO_3, HB⟩ := hcut
        cases kq with
        | zero => exact absurd HA.out (by simp [outlawlaw04_IdentKinds.j0])
        | succ kj5 =>
          have H := HA.out
          clear HA
          simp only [outlawlaw04_IdentKinds.j0] at H
          have H' := Aside0.mk H
          clear H
          go_wp2
          go_loopg [4, 5] kj5 (fun kq v4 v5 w' => ∃ (x4_2 : Int) (x5_2 : Int), v4 = .int .i64 x4_2 ∧ v5 = .int .i64 x5_2 ∧ Aside0 (outlawlaw04_IdentKinds.l0 kq a0 x3_5 x4_2 x5_2 = some r) ∧ Aside0 (kq ≤ kj5) ∧ Aside0 (Kd.R Kd.bool 4 w' w.heap.size (fun _ => True) u3 x3_5) ∧ Aside0 (Below w.heap.size w w'))
          case atStart => exact ⟨(0), (0), (by first | rfl | (simp; done) | (simp [*]; done) | (simp [bneNil_, beqNil_]; done) | (simp [bneNil_, beqNil_, *]; done)), (by first | rfl | (simp; done) | (simp [*]; done) | (simp [bneNil_, beqNil_]; done) | (simp [bneNil_, beqNil_, *]; done)), H', ⟨Nat.le_refl _⟩, ⟨by (with_reducible repeat (first | apply Kd.R_alloc | apply Kd.R_drewN | apply Kd.R_drew)); exact HO_3.out⟩, ⟨by repeat (first | (with_reducible first | exact HB.out | apply below_alloc | apply pw_below_drewN | apply below_drew1) | exact HB.out)⟩⟩
          case round =>
            clear H'
            try clear c1
            try clear c2
            try clear p2
            try clear c3
            try clear c4
            try clear c4b0
            try clear c4b1
            try clear c6
            try clear c8
            try clear c8b0
            try clear c8b1
            try clear c10
            try clear c15
            try clear c17
            try clear c19
            try clear c20
            try clear c33
            try clear c47
            try clear c62
            try clear p2
            obtain ⟨x4_2, x5_2, rfl, rfl, HA, HK2, HO_3, HB⟩ := hrel
            cases gk with
            | zero => exact absurd HA.out (by simp [outlawlaw04_IdentKinds.l0])
            | succ k2 =>
              have H := HA.out
              clear HA
              simp only [outlawlaw04_IdentKinds.l0] at H
              by_cases c91 : x5_2 < (x3_5.length : Int)
              · rw [if_pos c91] at H
                have c91b0 : decide (x5_2 < (x3_5.length : Int)) = true := decide_eq_true c91
                clear c91
                by_cases c92 : 0 ≤ x5_2
                · rw [if_pos c92] at H
                  have c92b0 : decide (0 ≤ x5_2) = true := decide_eq_true c92
                  clear c92
                  obtain ⟨bq93, hbq93⟩ : ∃ b_ : Bool, b_ = (rdOf false x3_5 x5_2) := ⟨_, rfl⟩
                  replace H : (if bq93 = true then ((ident_Kind.f a0).bind fun t223 => (if ((bq93) != (t223 == x5_2)) = true then (some false) else (outlawlaw04_IdentKinds.l0 k2 a0 x3_5 (wrap64 (x4_2 + 1)) (wrap64 (x5_2 + 1))))) else ((ident_Kind.f a0).bind fun t225 => (if ((bq93) != (t225 == x5_2)) = true then (some false) else (outlawlaw04_IdentKinds.l0 k2 a0 x3_5 x4_2 (wrap64 (x5_2 + 1)))))) = some r := by rw [← hbq93] at H; exact H
                  have Nbq93 := Aside0.mk hbq93
                  clear hbq93
                  by_cases c94 : bq93 = true
                  · subst c94
                    have H1 : ((ident_Kind.f a0).bind fun t223 => (if ((true) != (t223 == x5_2)) = true then (some false) else (outlawlaw04_IdentKinds.l0 k2 a0 x3_5 (wrap64 (x4_2 + 1)) (wrap64 (x5_2 + 1))))) = some r := by rw [if_pos rfl] at H; exact H
                    clear H
                    have H := H1
                    clear H1
                    replace H := Option.bind_eq_some_iff.mp H
                    obtain ⟨t223, A950, H⟩ := H
                    replace H : (if ((true) != (t223 == x5_2)) = true then (some false) else (outlawlaw04_IdentKinds.l0 k2 a0 x3_5 (wrap64 (x4_2 + 1)) (wrap64 (x5_2 + 1)))) = some r := H
                    have A95 := Aside0.mk A950
                    clear A950
                    by_cases c96 : ((true) != (t223 == x5_2)) = true
                    · rw [if_pos c96] at H
                      have c96b0 : ((true) != (t223 == x5_2)) = true := c96
                      (try (have c96b1 : decide ((true) = (t223 == x5_2)) = false := by simpa using c96))
                      (try (have c96b2 : ((true) == (t223 == x5_2)) = false := by simpa using c96))
                      (try (have c96b3 : ¬ ((true) = (t223 == x5_2)) := by simpa using c96))
                      clear c96
                      obtain rfl := Option.some.inj H
                      obtain ⟨Ao97, co97, eo97⟩ := Kd.R_slice HO_3.out
                      subst eo97
                      have p221 : 0 ≤ (x5_2 : Int) := of_decide_eq_true (by first | (with_reducible assumption) | assumption)
                      have q221 : x5_2 < (x3_5.length : Int) := of_decide_eq_true (by first | (with_reducible assumption) | assumption)
                      obtain ⟨ad221, e221, hx221_0⟩ := Kd.at_bool (Kd.R_reads' HO_3.out).2.2 x5_2 p221 q221
                      (try rw [← Nbq93.out] at hx221_0)
                      cases e221
                      replace p221 := eq_true p221
                      replace q221 := eq_true q221
                      try go_wp2
                      have n0_ := Aside0.mk (Kd.R_drew HO_3.out)
                      have n1_ := Aside0.mk (below_drew1 HB.out)
                      clear HO_3
                      clear HB
                      have HO_3 := n0_
                      have HB := n1_
                      clear n0_ n1_
                      have p222 : 0 ≤ (x5_2 : Int) := of_decide_eq_true (by first | (with_reducible assumption) | assumption)
                      have q222 : x5_2 < (x3_5.length : Int) := of_decide_eq_true (by first | (with_reducible assumption) | assumption)
                      obtain ⟨ad222, e222, hx222_0⟩ := Kd.at_bool (Kd.R_reads' HO_3.out).2.2 x5_2 p222 q222
                      (try rw [← Nbq93.out] at hx222_0)
                      obtain rfl : ad221 = ad222 := (by injection e222)
                      replace p222 := eq_true p222
                      replace q222 := eq_true q222
                      refine start_ (n := 9) (S := fun w' => w'.cell? (ad221.add (x5_2).toNat) = some (.bool (true))) (ds := []) #[false, false, false, false, false, false, false, false, false] (by kernel_rfl) rfl rfl (hx222_0) (fun hHeld => ?_); refine with_tabW outlawlaw04_IdentKinds.tab12 outlawlaw04_IdentKinds.bits12 (fun HT_ HW_ => ?_)
                      generalize wr.drew = w98 at HO_3 HB hx222_0 hHeld ⊢
                      refine pure_ (i := 0) (N := some 59) (v := ?_) (a' := ?_) #[true, false, false, false, false, false, false, false, false] rfl rfl (any_of HT_.out (by kernel_rfl)) (fun _ _ _ h => h) (Or.inl ⟨by rfl, ?_⟩) ?_ ?_
                      rotate_left
                      · intro w'
                        go_simp
                        with_reducible rfl
                      rotate_left
                      · simp only [Act.put, List.setIfInBounds_toArray, List.set_cons_zero, List.set_cons_succ, i64_w, i32_w]
                        rfl
                      refine pure_ (i := 1) (N := some 60) (v := ?_) (a' := ?_) #[true, true, false, false, false, false, false, false, false] rfl rfl (any_of HT_.out (by kernel_rfl)) (fun _ _ _ h => h) (Or.inl ⟨by rfl, ?_⟩) ?_ ?_
                      rotate_left
                      · intro w'
                        go_simp
                        with_reducible rfl
                      rotate_left
                      · simp only [Act.put, List.setIfInBounds_toArray, List.set_cons_zero, List.set_cons_succ, i64_w, i32_w]
                        rfl
                      refine pure_ (i := 2) (N := some 61) (v := ?_) (a' := ?_) #[true, true, true, false, false, false, false, false, false] rfl rfl (any_of HT_.out (by kernel_rfl)) (fun _ _ _ h => h) (Or.inl ⟨by rfl, ?_⟩) ?_ ?_
                      rotate_left
                      · intro w'
                        go_simp
                        with_reducible rfl
                      rotate_left
                      · simp only [Act.put, List.setIfInBounds_toArray, List.set_cons_zero, List.set_cons_succ, i64_w, i32_w]
                        rfl
                      refine pure_ (i := 4) (N := some 63) (v := ?_) (a' := ?_) #[true, true, true, false, true, false, false, false, false] rfl rfl (any_of HT_.out (by kernel_rfl)) (fun _ _ _ h => h) (Or.inl ⟨by rfl, ?_⟩) ?_ ?_
                      rotate_left
                      · intro w'
                        go_simp
                        with_reducible rfl
                      rotate_left
                      · simp only [Act.put, List.setIfInBounds_toArray, List.set_cons_zero, List.set_cons_succ, i64_w, i32_w]
                        rfl
                      refine pure_ (i := 6) (N := some 65) (v := ?_) (a' := ?_) #[true, true, true, false, true, false, true, false, false] rfl rfl (any_of HT_.out (by kernel_rfl)) (fun _ _ _ h => h) (Or.inl ⟨by rfl, ?_⟩) ?_ ?_
                      rotate_left
                      · intro w'
                        go_simp
                        with_reducible rfl
                      rotate_left
                      · simp only [Act.put, List.setIfInBounds_toArray, List.set_cons_zero, List.set_cons_succ, i64_w, i32_w]
                        rfl
                      refine take_ (i := 3) (N := some 62) (v := ?_) (a' := ?_) #[true, true, true, true, true, false, true, false, false] rfl rfl (take_ofW HT_.out HW_.out (by kernel_rfl)) (fun _ _ _ h => h) (Or.inl ⟨by rfl, ?_⟩) hHeld ?_ ?_
                      rotate_left
                      · intro w' s0
                        go_simp
                        with_reducible rfl
                      rotate_left
                      · simp only [Act.put, List.setIfInBounds_toArray, List.set_cons_zero, List.set_cons_succ, i64_w, i32_w]
                        rfl
                      refine one_ (i := 5) (N := some 64) #[true, true, true, true, true, true, true, false, false] rfl rfl (one_of HT_.out (by kernel_rfl)) (by decide) (fun K hK => ?_)
                      refine goes_ Try.func9 (by kernel_rfl) rfl #[.string a0] (by rfl) rfl rfl (by (try simp only [List.map_toArray, List.map_cons, List.map_nil]); first | done | rfl | (simp only [List.length_drop, List.length_take]; rfl)) ?_
                      with_reducible refine (ident_Kind.calls a0 t223 _ A95.out).mono ?_
                      rintro e w99 ⟨rfl, hb⟩
                      have HS0_ := (hb.cell (World.block_lt_of_cell? _ _ (hHeld))).trans (hHeld)
                      refine ⟨_, rfl, ?_⟩
                      have n0_ := Aside0.mk (Kd.R_below (by (with_reducible repeat (first | apply Kd.R_alloc | apply Kd.R_drewN | apply Kd.R_drew)); exact HO_3.out) hb)
                      have n1_ := Aside0.mk (below_step (by repeat (first | (with_reducible first | exact HB.out | apply below_alloc | apply pw_below_drewN | apply below_drew1) | exact HB.out)) hb)
                      clear HO_3
                      clear HB
                      have HO_3 := n0_
                      have HB := n1_
                      clear n0_ n1_
                      (try clear hb)
                      (try clear hb2)
                      (try clear hk)
                      (try clear hi)
                      refine hK.out _ _ (HS0_) (fun hHeld => ?_)
                      clear hK K
                      refine norm_ (a' := ?_) ?_ ?_
                      rotate_left
                      · show Act.put _ (some 64) _ = _
                        simp only [Act.put, List.setIfInBounds_toArray, List.set_cons_zero, List.set_cons_succ, i64_w, i32_w]
                        rfl
                      refine pure_ (i := 7) (N := some 66) (v := ?_) (a' := ?_) #[true, true, true, true, true, true, true, true, false] rfl rfl (any_of HT_.out (by kernel_rfl)) (fun _ _ _ h => h) (Or.inl ⟨by rfl, ?_⟩) ?_ ?_
                      rotate_left
                      · intro w'
                        go_simp
                        with_reducible rfl
                      rotate_left
                      · simp only [Act.put, List.setIfInBounds_toArray, List.set_cons_zero, List.set_cons_succ, i64_w, i32_w]
                        rfl
                      refine pure_ (i := 8) (N := some 67) (v := ?_) (a' := ?_) #[true, true, true, true, true, true, true, true, true] rfl rfl (any_of HT_.out (by kernel_rfl)) (fun _ _ _ h => h) (Or.inl ⟨by rfl, ?_⟩) ?_ ?_
                      rotate_left
                      · intro w'
                        go_simp
                        with_reducible rfl
                      rotate_left
                      · simp only [Act.put, List.setIfInBounds_toArray, List.set_cons_zero, List.set_cons_succ, i64_w, i32_w]
                        rfl
                      refine done_ (done_of HT_.out (by kernel_rfl)) ?_
                      try go_wp2
                      go_ret
                      exact ⟨by first | rfl | (simp [errW_none, errW_some] <;> rfl) | (simp [*, errW_none, errW_some] <;> rfl), by repeat (first | (with_reducible first | exact HB.out | apply below_alloc | apply pw_below_drewN | apply below_drew1) | exact HB.out)⟩
                    · rw [if_neg c96] at H
                      have c96b0 : ((true) != (t223 == x5_2)) = false := by simpa using c96
                      (try (have c96b1 : decide ((true) = (t223 == x5_2)) = true := by simpa using c96))
                      (try (have c96b2 : ((true) == (t223 == x5_2)) = true := by simpa using c96))
                      clear c96
                      have H' := Aside0.mk H
                      clear H
                      obtain ⟨Ao100, co100, eo100⟩ := Kd.R_slice HO_3.out
                      subst eo100
                      have p221 : 0 ≤ (x5_2 : Int) := of_decide_eq_true (by first | (with_reducible assumption) | assumption)
                      have q221 : x5_2 < (x3_5.length : Int) := of_decide_eq_true (by first | (with_reducible assumption) | assumption)
                      obtain ⟨ad221, e221, hx221_0⟩ := Kd.at_bool (Kd.R_reads' HO_3.out).2.2 x5_2 p221 q221
                      (try rw [← Nbq93.out] at hx221_0)
                      cases e221
                      replace p221 := eq_true p221
                      replace q221 := eq_true q221
                      try go_wp2
                      have n0_ := Aside0.mk (Kd.R_drew HO_3.out)
                      have n1_ := Aside0.mk (below_drew1 HB.out)
                      clear HO_3
                      clear HB
                      have HO_3 := n0_
                      have HB := n1_
                      clear n0_ n1_
                      have p222 : 0 ≤ (x5_2 : Int) := of_decide_eq_true (by first | (with_reducible assumption) | assumption)
                      have q222 : x5_2 < (x3_5.length : Int) := of_decide_eq_true (by first | (with_reducible assumption) | assumption)
                      obtain ⟨ad222, e222, hx222_0⟩ := Kd.at_bool (Kd.R_reads' HO_3.out).2.2 x5_2 p222 q222
                      (try rw [← Nbq93.out] at hx222_0)
                      obtain rfl : ad221 = ad222 := (by injection e222)
                      replace p222 := eq_true p222
                      replace q222 := eq_true q222
                      refine start_ (n := 9) (S := fun w' => w'.cell? (ad221.add (x5_2).toNat) = some (.bool (true))) (ds := []) #[false, false, false, false, false, false, false, false, false] (by kernel_rfl) rfl rfl (hx222_0) (fun hHeld => ?_); refine with_tabW outlawlaw04_IdentKinds.tab12 outlawlaw04_IdentKinds.bits12 (fun HT_ HW_ => ?_)
                      generalize wr.drew = w101 at HO_3 HB hx222_0 hHeld ⊢
                      refine pure_ (i := 0) (N := some 59) (v := ?_) (a' := ?_) #[true, false, false, false, false, false, false, false, false] rfl rfl (any_of HT_.out (by kernel_rfl)) (fun _ _ _ h => h) (Or.inl ⟨by rfl, ?_⟩) ?_ ?_
                      rotate_left
                      · intro w'
                        go_simp
                        with_reducible rfl
                      rotate_left
                      · simp only [Act.put, List.setIfInBounds_toArray, List.set_cons_zero, List.set_cons_succ, i64_w, i32_w]
                        rfl
                      refine pure_ (i := 1) (N := some 60) (v := ?_) (a' := ?_) #[true, true, false, false, false, false, false, false, false] rfl rfl (any_of HT_.out (by kernel_rfl)) (fun _ _ _ h => h) (Or.inl ⟨by rfl, ?_⟩) ?_ ?_
                      rotate_left
                      · intro w'
                        go_simp
                        with_reducible rfl
                      rotate_left
                      · simp only [Act.put, List.setIfInBounds_toArray, List.set_cons_zero, List.set_cons_succ, i64_w, i32_w]
                        rfl
                      refine pure_ (i := 2) (N := some 61) (v := ?_) (a' := ?_) #[true, true, true, false, false, false, false, false, false] rfl rfl (any_of HT_.out (by kernel_rfl)) (fun _ _ _ h => h) (Or.inl ⟨by rfl, ?_⟩) ?_ ?_
                      rotate_left
                      · intro w'
                        go_simp
                        with_reducible rfl
                      rotate_left
                      · simp only [Act.put, List.setIfInBounds_toArray, List.set_cons_zero, List.set_cons_succ, i64_w, i32_w]
                        rfl
                      refine pure_ (i := 4) (N := some 63) (v := ?_) (a' := ?_) #[true, true, true, false, true, false, false, false, false] rfl rfl (any_of HT_.out (by kernel_rfl)) (fun _ _ _ h => h) (Or.inl ⟨by rfl, ?_⟩) ?_ ?_
                      rotate_left
                      · intro w'
                        go_simp
                        with_reducible rfl
                      rotate_left
                      · simp only [Act.put, List.setIfInBounds_toArray, List.set_cons_zero, List.set_cons_succ, i64_w, i32_w]
                        rfl
                      refine pure_ (i := 6) (N := some 65) (v := ?_) (a' := ?_) #[true, true, true, false, true, false, true, false, false] rfl rfl (any_of HT_.out (by kernel_rfl)) (fun _ _ _ h => h) (Or.inl ⟨by rfl, ?_⟩) ?_ ?_
                      rotate_left
                      · intro w'
                        go_simp
                        with_reducible rfl
                      rotate_left
                      · simp only [Act.put, List.setIfInBounds_toArray, List.set_cons_zero, List.set_cons_succ, i64_w, i32_w]
                        rfl
                      refine take_ (i := 3) (N := some 62) (v := ?_) (a' := ?_) #[true, true, true, true, true, false, true, false, false] rfl rfl (take_ofW HT_.out HW_.out (by kernel_rfl)) (fun _ _ _ h => h) (Or.inl ⟨by rfl, ?_⟩) hHeld ?_ ?_
                      rotate_left
                      · intro w' s0
                        go_simp
                        with_reducible rfl
                      rotate_left
                      · simp only [Act.put, List.setIfInBounds_toArray, List.set_cons_zero, List.set_cons_succ, i64_w, i32_w]
                        rfl
                      refine one_ (i := 5) (N := some 64) #[true, true, true, true, true, true, true, false, false] rfl rfl (one_of HT_.out (by kernel_rfl)) (by decide) (fun K hK => ?_)
                      refine goes_ Try.func9 (by kernel_rfl) rfl #[.string a0] (by rfl) rfl rfl (by (try simp only [List.map_toArray, List.map_cons, List.map_nil]); first | done | rfl | (simp only [List.length_drop, List.length_take]; rfl)) ?_
                      with_reducible refine (ident_Kind.calls a0 t223 _ A95.out).mono ?_
                      rintro e w102 ⟨rfl, hb⟩
                      have HS0_ := (hb.cell (World.block_lt_of_cell? _ _ (hHeld))).trans (hHeld)
                      refine ⟨_, rfl, ?_⟩
                      have n0_ := Aside0.mk (Kd.R_below (by (with_reducible repeat (first | apply Kd.R_alloc | apply Kd.R_drewN | apply Kd.R_drew)); exact HO_3.out) hb)
                      have n1_ := Aside0.mk (below_step (by repeat (first | (with_reducible first | exact HB.out | apply below_alloc | apply pw_below_drewN | apply below_drew1) | exact HB.out)) hb)
                      clear HO_3
                      clear HB
                      have HO_3 := n0_
                      have HB := n1_
                      clear n0_ n1_
                      (try clear hb)
                      (try clear hb2)
                      (try clear hk)
                      (try clear hi)
                      refine hK.out _ _ (HS0_) (fun hHeld => ?_)
                      clear hK K
                      refine norm_ (a' := ?_) ?_ ?_
                      rotate_left
                      · show Act.put _ (some 64) _ = _
                        simp only [Act.put, List.setIfInBounds_toArray, List.set_cons_zero, List.set_cons_succ, i64_w, i32_w]
                        rfl
                      refine pure_ (i := 7) (N := some 66) (v := ?_) (a' := ?_) #[true, true, true, true, true, true, true, true, false] rfl rfl (any_of HT_.out (by kernel_rfl)) (fun _ _ _ h => h) (Or.inl ⟨by rfl, ?_⟩) ?_ ?_
                      rotate_left
                      · intro w'
                        go_simp
                        with_reducible rfl
                      rotate_left
                      · simp only [Act.put, List.setIfInBounds_toArray, List.set_cons_zero, List.set_cons_succ, i64_w, i32_w]
                        rfl
                      refine pure_ (i := 8) (N := some 67) (v := ?_) (a' := ?_) #[true, true, true, true, true, true, true, true, true] rfl rfl (any_of HT_.out (by kernel_rfl)) (fun _ _ _ h => h) (Or.inl ⟨by rfl, ?_⟩) ?_ ?_
                      rotate_left
                      · intro w'
                        go_simp
                        with_reducible rfl
                      rotate_left
                      · simp only [Act.put, List.setIfInBounds_toArray, List.set_cons_zero, List.set_cons_succ, i64_w, i32_w]
                        rfl
                      refine done_ (done_of HT_.out (by kernel_rfl)) ?_
                      try go_wp2
                      go_roundg k2
                      case measure => have := HJ5.out; have := HK2.out; omega
                      case rel => exact ⟨(wrap64 (x4_2 + 1)), (wrap64 (x5_2 + 1)), (by first | rfl | (simp; done) | (simp [*]; done) | (simp [bneNil_, beqNil_]; done) | (simp [bneNil_, beqNil_, *]; done)), (by first | rfl | (simp; done) | (simp [*]; done) | (simp [bneNil_, beqNil_]; done) | (simp [bneNil_, beqNil_, *]; done)), H', ⟨by have := HJ5.out; have := HK2.out; omega⟩, ⟨by (with_reducible repeat (first | apply Kd.R_alloc | apply Kd.R_drewN | apply Kd.R_drew)); exact HO_3.out⟩, ⟨by repeat (first | (with_reducible first | exact HB.out | apply below_alloc | apply pw_below_drewN | apply below_drew1) | exact HB.out)⟩⟩
                  · replace c94 := Bool.eq_false_iff.mpr c94
                    subst c94
                    have H1 : ((ident_Kind.f a0).bind fun t225 => (if ((false) != (t225 == x5_2)) = true then (some false) else (outlawlaw04_IdentKinds.l0 k2 a0 x3_5 x4_2 (wrap64 (x5_2 + 1))))) = some r := by rw [if_neg (show ¬ (false = true) by decide)] at H; exact H
                    clear H
                    have H := H1
                    clear H1
                    replace H := Option.bind_eq_some_iff.mp H
                    obtain ⟨t225, A1030, H⟩ := H
                    replace H : (if ((false) != (t225 == x5_2)) = true then (some false) else (outlawlaw04_IdentKinds.l0 k2 a0 x3_5 x4_2 (wrap64 (x5_2 + 1)))) = some r := H
                    have A103 := Aside0.mk A1030
                    clear A1030
                    by_cases c104 : ((false) != (t225 == x5_2)) = true
                    · rw [if_pos c104] at H
                      have c104b0 : ((false) != (t225 == x5_2)) = true := c104
                      (try (have c104b1 : decide ((false) = (t225 == x5_2)) = false := by simpa using c104))
                      (try (have c104b2 : ((false) == (t225 == x5_2)) = false := by simpa using c104))
                      (try (have c104b3 : ¬ ((false) = (t225 == x5_2)) := by simpa using c104))
                      clear c104
                      obtain rfl := Option.some.inj H
                      obtain ⟨Ao105, co105, eo105⟩ := Kd.R_slice HO_3.out
                      subst eo105
                      have p221 : 0 ≤ (x5_2 : Int) := of_decide_eq_true (by first | (with_reducible assumption) | assumption)
                      have q221 : x5_2 < (x3_5.length : Int) := of_decide_eq_true (by first | (with_reducible assumption) | assumption)
                      obtain ⟨ad221, e221, hx221_0⟩ := Kd.at_bool (Kd.R_reads' HO_3.out).2.2 x5_2 p221 q221
                      (try rw [← Nbq93.out] at hx221_0)
                      cases e221
                      replace p221 := eq_true p221
                      replace q221 := eq_true q221
                      try go_wp2
                      have n0_ := Aside0.mk (Kd.R_drew HO_3.out)
                      have n1_ := Aside0.mk (below_drew1 HB.out)
                      clear HO_3
                      clear HB
                      have HO_3 := n0_
                      have HB := n1_
                      clear n0_ n1_
                      have p224 : 0 ≤ (x5_2 : Int) := of_decide_eq_true (by first | (with_reducible assumption) | assumption)
                      have q224 : x5_2 < (x3_5.length : Int) := of_decide_eq_true (by first | (with_reducible assumption) | assumption)
                      obtain ⟨ad224, e224, hx224_0⟩ := Kd.at_bool (Kd.R_reads' HO_3.out).2.2 x5_2 p224 q224
                      (try rw [← Nbq93.out] at hx224_0)
                      obtain rfl : ad221 = ad224 := (by injection e224)
                      replace p224 := eq_true p224
                      replace q224 := eq_true q224
                      refine start_ (n := 9) (S := fun w' => w'.cell? (ad221.add (x5_2).toNat) = some (.bool (false))) (ds := []) #[false, false, false, false, false, false, false, false, false] (by kernel_rfl) rfl rfl (hx224_0) (fun hHeld => ?_); refine with_tabW outlawlaw04_IdentKinds.tab12 outlawlaw04_IdentKinds.bits12 (fun HT_ HW_ => ?_)
                      generalize wr.drew = w106 at HO_3 HB hx224_0 hHeld ⊢
                      refine pure_ (i := 0) (N := some 59) (v := ?_) (a' := ?_) #[true, false, false, false, false, false, false, false, false] rfl rfl (any_of HT_.out (by kernel_rfl)) (fun _ _ _ h => h) (Or.inl ⟨by rfl, ?_⟩) ?_ ?_
                      rotate_left
                      · intro w'
                        go_simp
                        with_reducible rfl
                      rotate_left
                      · simp only [Act.put, List.setIfInBounds_toArray, List.set_cons_zero, List.set_cons_succ, i64_w, i32_w]
                        rfl
                      refine pure_ (i := 1) (N := some 60) (v := ?_) (a' := ?_) #[true, true, false, false, false, false, false, false, false] rfl rfl (any_of HT_.out (by kernel_rfl)) (fun _ _ _ h => h) (Or.inl ⟨by rfl, ?_⟩) ?_ ?_
                      rotate_left
                      · intro w'
                        go_simp
                        with_reducible rfl
                      rotate_left
                      · simp only [Act.put, List.setIfInBounds_toArray, List.set_cons_zero, List.set_cons_succ, i64_w, i32_w]
                        rfl
                      refine pure_ (i := 2) (N := some 61) (v := ?_) (a' := ?_) #[true, true, true, false, false, false, false, false, false] rfl rfl (any_of HT_.out (by kernel_rfl)) (fun _ _ _ h => h) (Or.inl ⟨by rfl, ?_⟩) ?_ ?_
                      rotate_left
                      · intro w'
                        go_simp
                        with_reducible rfl
                      rotate_left
                      · simp only [Act.put, List.setIfInBounds_toArray, List.set_cons_zero, List.set_cons_succ, i64_w, i32_w]
                        rfl
                      refine pure_ (i := 4) (N := some 63) (v := ?_) (a' := ?_) #[true, true, true, false, true, false, false, false, false] rfl rfl (any_of HT_.out (by kernel_rfl)) (fun _ _ _ h => h) (Or.inl ⟨by rfl, ?_⟩) ?_ ?_
                      rotate_left
                      · intro w'
                        go_simp
                        with_reducible rfl
                      rotate_left
                      · simp only [Act.put, List.setIfInBounds_toArray, List.set_cons_zero, List.set_cons_succ, i64_w, i32_w]
                        rfl
                      refine pure_ (i := 6) (N := some 65) (v := ?_) (a' := ?_) #[true, true, true, false, true, false, true, false, false] rfl rfl (any_of HT_.out (by kernel_rfl)) (fun _ _ _ h => h) (Or.inl ⟨by rfl, ?_⟩) ?_ ?_
                      rotate_left
                      · intro w'
                        go_simp
                        with_reducible rfl
                      rotate_left
                      · simp only [Act.put, List.setIfInBounds_toArray, List.set_cons_zero, List.set_cons_succ, i64_w, i32_w]
                        rfl
                      refine take_ (i := 3) (N := some 62) (v := ?_) (a' := ?_) #[true, true, true, true, true, false, true, false, false] rfl rfl (take_ofW HT_.out HW_.out (by kernel_rfl)) (fun _ _ _ h => h) (Or.inl ⟨by rfl, ?_⟩) hHeld ?_ ?_
                      rotate_left
                      · intro w' s0
                        go_simp
                        with_reducible rfl
                      rotate_left
                      · simp only [Act.put, List.setIfInBounds_toArray, List.set_cons_zero, List.set_cons_succ, i64_w, i32_w]
                        rfl
                      refine one_ (i := 5) (N := some 64) #[true, true, true, true, true, true, true, false, false] rfl rfl (one_of HT_.out (by kernel_rfl)) (by decide) (fun K hK => ?_)
                      refine goes_ Try.func9 (by kernel_rfl) rfl #[.string a0] (by rfl) rfl rfl (by (try simp only [List.map_toArray, List.map_cons, List.map_nil]); first | done | rfl | (simp only [List.length_drop, List.length_take]; rfl)) ?_
                      with_reducible refine (ident_Kind.calls a0 t225 _ A103.out).mono ?_
                      rintro e w107 ⟨rfl, hb⟩
                      have HS0_ := (hb.cell (World.block_lt_of_cell? _ _ (hHeld))).trans (hHeld)
                      refine ⟨_, rfl, ?_⟩
                      have n0_ := Aside0.mk (Kd.R_below (by (with_reducible repeat (first | apply Kd.R_alloc | apply Kd.R_drewN | apply Kd.R_drew)); exact HO_3.out) hb)
                      have n1_ := Aside0.mk (below_step (by repeat (first | (with_reducible first | exact HB.out | apply below_alloc | apply pw_below_drewN | apply below_drew1) | exact HB.out)) hb)
                      clear HO_3
                      clear HB
                      have HO_3 := n0_
                      have HB := n1_
                      clear n0_ n1_
                      (try clear hb)
                      (try clear hb2)
                      (try clear hk)
                      (try clear hi)
                      refine hK.out _ _ (HS0_) (fun hHeld => ?_)
                      clear hK K
                      refine norm_ (a' := ?_) ?_ ?_
                      rotate_left
                      · show Act.put _ (some 64) _ = _
                        simp only [Act.put, List.setIfInBounds_toArray, List.set_cons_zero, List.set_cons_succ, i64_w, i32_w]
                        rfl
                      refine pure_ (i := 7) (N := some 66) (v := ?_) (a' := ?_) #[true, true, true, true, true, true, true, true, false] rfl rfl (any_of HT_.out (by kernel_rfl)) (fun _ _ _ h => h) (Or.inl ⟨by rfl, ?_⟩) ?_ ?_
                      rotate_left
                      · intro w'
                        go_simp
                        with_reducible rfl
                      rotate_left
                      · simp only [Act.put, List.setIfInBounds_toArray, List.set_cons_zero, List.set_cons_succ, i64_w, i32_w]
                        rfl
                      refine pure_ (i := 8) (N := some 67) (v := ?_) (a' := ?_) #[true, true, true, true, true, true, true, true, true] rfl rfl (any_of HT_.out (by kernel_rfl)) (fun _ _ _ h => h) (Or.inl ⟨by rfl, ?_⟩) ?_ ?_
                      rotate_left
                      · intro w'
                        go_simp
                        with_reducible rfl
                      rotate_left
                      · simp only [Act.put, List.setIfInBounds_toArray, List.set_cons_zero, List.set_cons_succ, i64_w, i32_w]
                        rfl
                      refine done_ (done_of HT_.out (by kernel_rfl)) ?_
                      try go_wp2
                      go_ret
                      exact ⟨by first | rfl | (simp [errW_none, errW_some] <;> rfl) | (simp [*, errW_none, errW_some] <;> rfl), by repeat (first | (with_reducible first | exact HB.out | apply below_alloc | apply pw_below_drewN | apply below_drew1) | exact HB.out)⟩
                    · rw [if_neg c104] at H
                      have c104b0 : ((false) != (t225 == x5_2)) = false := by simpa using c104
                      (try (have c104b1 : decide ((false) = (t225 == x5_2)) = true := by simpa using c104))
                      (try (have c104b2 : ((false) == (t225 == x5_2)) = true := by simpa using c104))
                      clear c104
                      have H' := Aside0.mk H
                      clear H
                      obtain ⟨Ao108, co108, eo108⟩ := Kd.R_slice HO_3.out
                      subst eo108
                      have p221 : 0 ≤ (x5_2 : Int) := of_decide_eq_true (by first | (with_reducible assumption) | assumption)
                      have q221 : x5_2 < (x3_5.length : Int) := of_decide_eq_true (by first | (with_reducible assumption) | assumption)
                      obtain ⟨ad221, e221, hx221_0⟩ := Kd.at_bool (Kd.R_reads' HO_3.out).2.2 x5_2 p221 q221
                      (try rw [← Nbq93.out] at hx221_0)
                      cases e221
                      replace p221 := eq_true p221
                      replace q221 := eq_true q221
                      try go_wp2
                      have n0_ := Aside0.mk (Kd.R_drew HO_3.out)
                      have n1_ := Aside0.mk (below_drew1 HB.out)
                      clear HO_3
                      clear HB
                      have HO_3 := n0_
                      have HB := n1_
                      clear n0_ n1_
                      have p224 : 0 ≤ (x5_2 : Int) := of_decide_eq_true (by first | (with_reducible assumption) | assumption)
                      have q224 : x5_2 < (x3_5.length : Int) := of_decide_eq_true (by first | (with_reducible assumption) | assumption)
                      obtain ⟨ad224, e224, hx224_0⟩ := Kd.at_bool (Kd.R_reads' HO_3.out).2.2 x5_2 p224 q224
                      (try rw [← Nbq93.out] at hx224_0)
                      obtain rfl : ad221 = ad224 := (by injection e224)
                      replace p224 := eq_true p224
                      replace q224 := eq_true q224
                      refine start_ (n := 9) (S := fun w' => w'.cell? (ad221.add (x5_2).toNat) = some (.bool (false))) (ds := []) #[false, false, false, false, false, false, false, false, false] (by kernel_rfl) rfl rfl (hx224_0) (fun hHeld => ?_); refine with_tabW outlawlaw04_IdentKinds.tab12 outlawlaw04_IdentKinds.bits12 (fun HT_ HW_ => ?_)
                      generalize wr.drew = w109 at HO_3 HB hx224_0 hHeld ⊢
                      refine pure_ (i := 0) (N := some 59) (v := ?_) (a' := ?_) #[true, false, false, false, false, false, false, false, false] rfl rfl (any_of HT_.out (by kernel_rfl)) (fun _ _ _ h => h) (Or.inl ⟨by rfl, ?_⟩) ?_ ?_
                      rotate_left
                      · intro w'
                        go_simp
                        with_reducible rfl
                      rotate_left
                      · simp only [Act.put, List.setIfInBounds_toArray, List.set_cons_zero, List.set_cons_succ, i64_w, i32_w]
                        rfl
                      refine pure_ (i := 1) (N := some 60) (v := ?_) (a' := ?_) #[true, true, false, false, false, false, false, false, false] rfl rfl (any_of HT_.out (by kernel_rfl)) (fun _ _ _ h => h) (Or.inl ⟨by rfl, ?_⟩) ?_ ?_
                      rotate_left
                      · intro w'
                        go_simp
                        with_reducible rfl
                      rotate_left
                      · simp only [Act.put, List.setIfInBounds_toArray, List.set_cons_zero, List.set_cons_succ, i64_w, i32_w]
                        rfl
                      refine pure_ (i := 2) (N := some 61) (v := ?_) (a' := ?_) #[true, true, true, false, false, false, false, false, false] rfl rfl (any_of HT_.out (by kernel_rfl)) (fun _ _ _ h => h) (Or.inl ⟨by rfl, ?_⟩) ?_ ?_
                      rotate_left
                      · intro w'
                        go_simp
                        with_reducible rfl
                      rotate_left
                      · simp only [Act.put, List.setIfInBounds_toArray, List.set_cons_zero, List.set_cons_succ, i64_w, i32_w]
                        rfl
                      refine pure_ (i := 4) (N := some 63) (v := ?_) (a' := ?_) #[true, true, true, false, true, false, false, false, false] rfl rfl (any_of HT_.out (by kernel_rfl)) (fun _ _ _ h => h) (Or.inl ⟨by rfl, ?_⟩) ?_ ?_
                      rotate_left
                      · intro w'
                        go_simp
                        with_reducible rfl
                      rotate_left
                      · simp only [Act.put, List.setIfInBounds_toArray, List.set_cons_zero, List.set_cons_succ, i64_w, i32_w]
                        rfl
                      refine pure_ (i := 6) (N := some 65) (v := ?_) (a' := ?_) #[true, true, true, false, true, false, true, false, false] rfl rfl (any_of HT_.out (by kernel_rfl)) (fun _ _ _ h => h) (Or.inl ⟨by rfl, ?_⟩) ?_ ?_
                      rotate_left
                      · intro w'
                        go_simp
                        with_reducible rfl
                      rotate_left
                      · simp only [Act.put, List.setIfInBounds_toArray, List.set_cons_zero, List.set_cons_succ, i64_w, i32_w]
                        rfl
                      refine take_ (i := 3) (N := some 62) (v := ?_) (a' := ?_) #[true, true, true, true, true, false, true, false, false] rfl rfl (take_ofW HT_.out HW_.out (by kernel_rfl)) (fun _ _ _ h => h) (Or.inl ⟨by rfl, ?_⟩) hHeld ?_ ?_
                      rotate_left
                      · intro w' s0
                        go_simp
                        with_reducible rfl
                      rotate_left
                      · simp only [Act.put, List.setIfInBounds_toArray, List.set_cons_zero, List.set_cons_succ, i64_w, i32_w]
                        rfl
                      refine one_ (i := 5) (N := some 64) #[true, true, true, true, true, true, true, false, false] rfl rfl (one_of HT_.out (by kernel_rfl)) (by decide) (fun K hK => ?_)
                      refine goes_ Try.func9 (by kernel_rfl) rfl #[.string a0] (by rfl) rfl rfl (by (try simp only [List.map_toArray, List.map_cons, List.map_nil]); first | done | rfl | (simp only [List.length_drop, List.length_take]; rfl)) ?_
                      with_reducible refine (ident_Kind.calls a0 t225 _ A103.out).mono ?_
                      rintro e w110 ⟨rfl, hb⟩
                      have HS0_ := (hb.cell (World.block_lt_of_cell? _ _ (hHeld))).trans (hHeld)
                      refine ⟨_, rfl, ?_⟩
                      have n0_ := Aside0.mk (Kd.R_below (by (with_reducible repeat (first | apply Kd.R_alloc | apply Kd.R_drewN | apply Kd.R_drew)); exact HO_3.out) hb)
                      have n1_ := Aside0.mk (below_step (by repeat (first | (with_reducible first | exact HB.out | apply below_alloc | apply pw_below_drewN | apply below_drew1) | exact HB.out)) hb)
                      clear HO_3
                      clear HB
                      have HO_3 := n0_
                      have HB := n1_
                      clear n0_ n1_
                      (try clear hb)
                      (try clear hb2)
                      (try clear hk)
                      (try clear hi)
                      refine hK.out _ _ (HS0_) (fun hHeld => ?_)
                      clear hK K
                      refine norm_ (a' := ?_) ?_ ?_
                      rotate_left
                      · show Act.put _ (some 64) _ = _
                        simp only [Act.put, List.setIfInBounds_toArray, List.set_cons_zero, List.set_cons_succ, i64_w, i32_w]
                        rfl
                      refine pure_ (i := 7) (N := some 66) (v := ?_) (a' := ?_) #[true, true, true, true, true, true, true, true, false] rfl rfl (any_of HT_.out (by kernel_rfl)) (fun _ _ _ h => h) (Or.inl ⟨by rfl, ?_⟩) ?_ ?_
                      rotate_left
                      · intro w'
                        go_simp
                        with_reducible rfl
                      rotate_left
                      · simp only [Act.put, List.setIfInBounds_toArray, List.set_cons_zero, List.set_cons_succ, i64_w, i32_w]
                        rfl
                      refine pure_ (i := 8) (N := some 67) (v := ?_) (a' := ?_) #[true, true, true, true, true, true, true, true, true] rfl rfl (any_of HT_.out (by kernel_rfl)) (fun _ _ _ h => h) (Or.inl ⟨by rfl, ?_⟩) ?_ ?_
                      rotate_left
                      · intro w'
                        go_simp
                        with_reducible rfl
                      rotate_left
                      · simp only [Act.put, List.setIfInBounds_toArray, List.set_cons_zero, List.set_cons_succ, i64_w, i32_w]
                        rfl
                      refine done_ (done_of HT_.out (by kernel_rfl)) ?_
                      try go_wp2
                      go_roundg k2
                      case measure => have := HJ5.out; have := HK2.out; omega
                      case rel => exact ⟨(x4_2), (wrap64 (x5_2 + 1)), (by first | rfl | (simp; done) | (simp [*]; done) | (simp [bneNil_, beqNil_]; done) | (simp [bneNil_, beqNil_, *]; done)), (by first | rfl | (simp; done) | (simp [*]; done) | (simp [bneNil_, beqNil_]; done) | (simp [bneNil_, beqNil_, *]; done)), H', ⟨by have := HJ5.out; have := HK2.out; omega⟩, ⟨by (with_reducible repeat (first | apply Kd.R_alloc | apply Kd.R_drewN | apply Kd.R_drew)); exact HO_3.out⟩, ⟨by repeat (first | (with_reducible first | exact HB.out | apply below_alloc | apply pw_below_drewN | apply below_drew1) | exact HB.out)⟩⟩
                · rw [if_neg c92] at H
                  exact absurd H (by simp)
              · rw [if_neg c91] at H
                have c91b0 : decide (x5_2 < (x3_5.length : Int)) = false := decide_eq_false c91
                clear c91
                replace H := Option.bind_eq_some_iff.mp H
                obtain ⟨t226, A1110, H⟩ := H
                replace H : (if x4_2 = 1 then (if (t226.size : Int) = (a0.size : Int) then ((ident_Lower.f t226).bind fun t227 => (if t227.toList = t226.toList then ((ident_Server.f t226).bind fun t228 => ((ident_Server.f a0).bind fun t229 => (if (t228 == t229) = true then ((ident_Room.f t226).bind fun t230 => ((ident_Room.f a0).bind fun t231 => (if (t230 == t231) = true then ((ident_EventID.f t226).bind fun t232 => ((ident_EventID.f a0).bind fun t233 => (if (t232 == t233) = true then ((ident_User.f a0).bind fun t234 => (if t234 = true then ((ident_User.f t226).bind fun t235 => (some t235)) else (some true))) else (some false)))) else (some false)))) else (some false)))) else (some false))) else (some false)) else (some false)) = some r := H
                have A111 := Aside0.mk A1110
                clear A1110
                by_cases c112 : x4_2 = 1
                · rw [if_pos c112] at H
                  have c112b0 : (x4_2 == 1) = true := beq_iff_eq.mpr c112
                  have c112b1 : (x4_2 != 1) = false := bne_eq_false_iff_eq.mpr c112
                  clear c112
                  by_cases c113 : (t226.size : Int) = (a0.size : Int)
                  · rw [if_pos c113] at H
                    have c113b0 : ((t226.size : Int) == (a0.size : Int)) = true := beq_iff_eq.mpr c113
                    have c113b1 : ((t226.size : Int) != (a0.size : Int)) = false := bne_eq_false_iff_eq.mpr c113
                    have c113b2 : (t226.size == a0.size) = true := by first | simpa using c113 | (simp at c113 ⊢; omega)
                    clear c113
                    replace H := Option.bind_eq_some_iff.mp H
                    obtain ⟨t227, A1140, H⟩ := H
                    replace H : (if t227.toList = t226.toList then ((ident_Server.f t226).bind fun t228 => ((ident_Server.f a0).bind fun t229 => (if (t228 == t229) = true then ((ident_Room.f t226).bind fun t230 => ((ident_Room.f a0).bind fun t231 => (if (t230 == t231) = true then ((ident_EventID.f t226).bind fun t232 => ((ident_EventID.f a0).bind fun t233 => (if (t232 == t233) = true then ((ident_User.f a0).bind fun t234 => (if t234 = true then ((ident_User.f t226).bind fun t235 => (some t235)) else (some true))) else (some false)))) else (some false)))) else (some false)))) else (some false)) = some r := H
                    have A114 := Aside0.mk A1140
                    clear A1140
                    by_cases c115 : t227.toList = t226.toList
                    · rw [if_pos c115] at H
                      have c115b0 : (t227.toList == t226.toList) = true := beq_iff_eq.mpr c115
                      have c115b1 : (t227.toList != t226.toList) = false := bne_eq_false_iff_eq.mpr c115
                      clear c115
                      replace H := Option.bind_eq_some_iff.mp H
                      obtain ⟨t228, A1160, H⟩ := H
                      replace H : ((ident_Server.f a0).bind fun t229 => (if (t228 == t229) = true then ((ident_Room.f t226).bind fun t230 => ((ident_Room.f a0).bind fun t231 => (if (t230 == t231) = true then ((ident_EventID.f t226).bind fun t232 => ((ident_EventID.f a0).bind fun t233 => (if (t232 == t233) = true then ((ident_User.f a0).bind fun t234 => (if t234 = true then ((ident_User.f t226).bind fun t235 => (some t235)) else (some true))) else (some false)))) else (some false)))) else (some false))) = some r := H
                      have A116 := Aside0.mk A1160
                      clear A1160
                      replace H := Option.bind_eq_some_iff.mp H
                      obtain ⟨t229, A1170, H⟩ := H
                      replace H : (if (t228 == t229) = true then ((ident_Room.f t226).bind fun t230 => ((ident_Room.f a0).bind fun t231 => (if (t230 == t231) = true then ((ident_EventID.f t226).bind fun t232 => ((ident_EventID.f a0).bind fun t233 => (if (t232 == t233) = true then ((ident_User.f a0).bind fun t234 => (if t234 = true then ((ident_User.f t226).bind fun t235 => (some t235)) else (some true))) else (some false)))) else (some false)))) else (some false)) = some r := H
                      have A117 := Aside0.mk A1170
                      clear A1170
                      by_cases c118 : (t228 == t229) = true
                      · rw [if_pos c118] at H
                        have c118b0 : (t228 == t229) = true := c118
                        (try (have c118b1 : decide (t228 = t229) = true := by simpa using c118))
                        (try (have c118b2 : (t228 == t229) = true := by simpa using c118))
                        clear c118
                        replace H := Option.bind_eq_some_iff.mp H
                        obtain ⟨t230, A1190, H⟩ := H
                        replace H : ((ident_Room.f a0).bind fun t231 => (if (t230 == t231) = true then ((ident_EventID.f t226).bind fun t232 => ((ident_EventID.f a0).bind fun t233 => (if (t232 == t233) = true then ((ident_User.f a0).bind fun t234 => (if t234 = true then ((ident_User.f t226).bind fun t235 => (some t235)) else (some true))) else (some false)))) else (some false))) = some r := H
                        have A119 := Aside0.mk A1190
                        clear A1190
                        replace H := Option.bind_eq_some_iff.mp H
                        obtain ⟨t231, A1200, H⟩ := H
                        replace H : (if (t230 == t231) = true then ((ident_EventID.f t226).bind fun t232 => ((ident_EventID.f a0).bind fun t233 => (if (t232 == t233) = true then ((ident_User.f a0).bind fun t234 => (if t234 = true then ((ident_User.f t226).bind fun t235 => (some t235)) else (some true))) else (some false)))) else (some false)) = some r := H
                        have A120 := Aside0.mk A1200
                        clear A1200
                        by_cases c121 : (t230 == t231) = true
                        · rw [if_pos c121] at H
                          have c121b0 : (t230 == t231) = true := c121
                          (try (have c121b1 : decide (t230 = t231) = true := by simpa using c121))
                          (try (have c121b2 : (t230 == t231) = true := by simpa using c121))
                          clear c121
                          replace H := Option.bind_eq_some_iff.mp H
                          obtain ⟨t232, A1220, H⟩ := H
                          replace H : ((ident_EventID.f a0).bind fun t233 => (if (t232 == t233) = true then ((ident_User.f a0).bind fun t234 => (if t234 = true then ((ident_User.f t226).bind fun t235 => (some t235)) else (some true))) else (some false))) = some r := H
                          have A122 := Aside0.mk A1220
                          clear A1220
                          replace H := Option.bind_eq_some_iff.mp H
                          obtain ⟨t233, A1230, H⟩ := H
                          replace H : (if (t232 == t233) = true then ((ident_User.f a0).bind fun t234 => (if t234 = true then ((ident_User.f t226).bind fun t235 => (some t235)) else (some true))) else (some false)) = some r := H
                          have A123 := Aside0.mk A1230
                          clear A1230
                          by_cases c124 : (t232 == t233) = true
                          · rw [if_pos c124] at H
                            have c124b0 : (t232 == t233) = true := c124
                            (try (have c124b1 : decide (t232 = t233) = true := by simpa using c124))
                            (try (have c124b2 : (t232 == t233) = true := by simpa using c124))
                            clear c124
                            replace H := Option.bind_eq_some_iff.mp H
                            obtain ⟨t234, A1250, H⟩ := H
                            replace H : (if t234 = true then ((ident_User.f t226).bind fun t235 => (some t235)) else (some true)) = some r := H
                            have A125 := Aside0.mk A1250
                            clear A1250
                            by_cases c126 : t234 = true
                            · subst c126
                              have H1 : ((ident_User.f t226).bind fun t235 => (some t235)) = some r := by rw [if_pos rfl] at H; exact H
                              clear H
                              have H := H1
                              clear H1
                              replace H := Option.bind_eq_some_iff.mp H
                              obtain ⟨t235, A1270, H⟩ := H
                              replace H : (some t235) = some r := H
                              have A127 := Aside0.mk A1270
                              clear A1270
                              obtain rfl := Option.some.inj H
                              obtain ⟨Ao128, co128, eo128⟩ := Kd.R_slice HO_3.out
                              subst eo128
                              go_wp2_with (first | ((with_reducible refine gate_callee (f := 11) rfl ?_); refine goesL_ (some 69) rfl rfl Try.func11 (by kernel_rfl) rfl #[.string a0] rfl (by (try simp only [List.map_toArray, List.map_cons, List.map_nil]); first | done | rfl | (simp only [List.length_drop, List.length_take]; rfl)) ?_; (with_reducible refine (ident_Lower.calls a0 t226 _ A111.out).mono ?_); rintro e w129 ⟨rfl, hb⟩; refine ⟨_, rfl, ?_⟩; have n0_ := Aside0.mk (Kd.R_below (by (with_reducible repeat (first | apply Kd.R_alloc | apply Kd.R_drewN | apply Kd.R_drew)); exact HO_3.out) hb); have n1_ := Aside0.mk (below_step (by repeat (first | (with_reducible first | exact HB.out | apply below_alloc | apply pw_below_drewN | apply below_drew1) | exact HB.out)) hb); clear HO_3; clear HB; have HO_3 := n0_; have HB := n1_; clear n0_ n1_; (try clear hb); (try clear hb2); (try clear hk); (try clear hi)) | (go_at_call 11; (with_reducible refine (ident_Lower.calls t226 t227 _ A114.out).mono ?_); rintro e w130 ⟨rfl, hb⟩; have n0_ := Aside0.mk (Kd.R_below (by (with_reducible repeat (first | apply Kd.R_alloc | apply Kd.R_drewN | apply Kd.R_drew)); exact HO_3.out) hb); have n1_ := Aside0.mk (below_step (by repeat (first | (with_reducible first | exact HB.out | apply below_alloc | apply pw_below_drewN | apply below_drew1) | exact HB.out)) hb); clear HO_3; clear HB; have HO_3 := n0_; have HB := n1_; clear n0_ n1_; (try clear hb); (try clear hb2); (try clear hk); (try clear hi)) | (go_at_call 10; (with_reducible refine (ident_Server.calls t226 t228 _ A116.out).mono ?_); rintro e w131 ⟨rfl, hb⟩; have n0_ := Aside0.mk (Kd.R_below (by (with_reducible repeat (first | apply Kd.R_alloc | apply Kd.R_drewN | apply Kd.R_drew)); exact HO_3.out) hb); have n1_ := Aside0.mk (below_step (by repeat (first | (with_reducible first | exact HB.out | apply below_alloc | apply pw_below_drewN | apply below_drew1) | exact HB.out)) hb); clear HO_3; clear HB; have HO_3 := n0_; have HB := n1_; clear n0_ n1_; (try clear hb); (try clear hb2); (try clear hk); (try clear hi)) | (go_at_call 10; (with_reducible refine (ident_Server.calls a0 t229 _ A117.out).mono ?_); rintro e w132 ⟨rfl, hb⟩; have n0_ := Aside0.mk (Kd.R_below (by (with_reducible repeat (first | apply Kd.R_alloc | apply Kd.R_drewN | apply Kd.R_drew)); exact HO_3.out) hb); have n1_ := Aside0.mk (below_step (by repeat (first | (with_reducible first | exact HB.out | apply below_alloc | apply pw_below_drewN | apply below_drew1) | exact HB.out)) hb); clear HO_3; clear HB; have HO_3 := n0_; have HB := n1_; clear n0_ n1_; (try clear hb); (try clear hb2); (try clear hk); (try clear hi)) | (go_at_call 17; (with_reducible refine (ident_Room.calls t226 t230 _ A119.out).mono ?_); rintro e w133 ⟨rfl, hb⟩; have n0_ := Aside0.mk (Kd.R_below (by (with_reducible repeat (first | apply Kd.R_alloc | apply Kd.R_drewN | apply Kd.R_drew)); exact HO_3.out) hb); have n1_ := Aside0.mk (below_step (by repeat (first | (with_reducible first | exact HB.out | apply below_alloc | apply pw_below_drewN | apply below_drew1) | exact HB.out)) hb); clear HO_3; clear HB; have HO_3 := n0_; have HB := n1_; clear n0_ n1_; (try clear hb); (try clear hb2); (try clear hk); (try clear hi)) | (go_at_call 17; (with_reducible refine (ident_Room.calls a0 t231 _ A120.out).mono ?_); rintro e w134 ⟨rfl, hb⟩; have n0_ := Aside0.mk (Kd.R_below (by (with_reducible repeat (first | apply Kd.R_alloc | apply Kd.R_drewN | apply Kd.R_drew)); exact HO_3.out) hb); have n1_ := Aside0.mk (below_step (by repeat (first | (with_reducible first | exact HB.out | apply below_alloc | apply pw_below_drewN | apply below_drew1) | exact HB.out)) hb); clear HO_3; clear HB; have HO_3 := n0_; have HB := n1_; clear n0_ n1_; (try clear hb); (try clear hb2); (try clear hk); (try clear hi)) | (go_at_call 19; (with_reducible refine (ident_EventID.calls t226 t232 _ A122.out).mono ?_); rintro e w135 ⟨rfl, hb⟩; have n0_ := Aside0.mk (Kd.R_below (by (with_reducible repeat (first | apply Kd.R_alloc | apply Kd.R_drewN | apply Kd.R_drew)); exact HO_3.out) hb); have n1_ := Aside0.mk (below_step (by repeat (first | (with_reducible first | exact HB.out | apply below_alloc | apply pw_below_drewN | apply below_drew1) | exact HB.out)) hb); clear HO_3; clear HB; have HO_3 := n0_; have HB := n1_; clear n0_ n1_; (try clear hb); (try clear hb2); (try clear hk); (try clear hi)) | (go_at_call 19; (with_reducible refine (ident_EventID.calls a0 t233 _ A123.out).mono ?_); rintro e w136 ⟨rfl, hb⟩; have n0_ := Aside0.mk (Kd.R_below (by (with_reducible repeat (first | apply Kd.R_alloc | apply Kd.R_drewN | apply Kd.R_drew)); exact HO_3.out) hb); have n1_ := Aside0.mk (below_step (by repeat (first | (with_reducible first | exact HB.out | apply below_alloc | apply pw_below_drewN | apply below_drew1) | exact HB.out)) hb); clear HO_3; clear HB; have HO_3 := n0_; have HB := n1_; clear n0_ n1_; (try clear hb); (try clear hb2); (try clear hk); (try clear hi)) | (go_at_call 15; (with_reducible refine (ident_User.calls a0 true _ A125.out).mono ?_); rintro e w137 ⟨rfl, hb⟩; have n0_ := Aside0.mk (Kd.R_below (by (with_reducible repeat (first | apply Kd.R_alloc | apply Kd.R_drewN | apply Kd.R_drew)); exact HO_3.out) hb); have n1_ := Aside0.mk (below_step (by repeat (first | (with_reducible first | exact HB.out | apply below_alloc | apply pw_below_drewN | apply below_drew1) | exact HB.out)) hb); clear HO_3; clear HB; have HO_3 := n0_; have HB := n1_; clear n0_ n1_; (try clear hb); (try clear hb2); (try clear hk); (try clear hi)) | (go_at_call 15; (with_reducible refine (ident_User.calls t226 t235 _ A127.out).mono ?_); rintro e w138 ⟨rfl, hb⟩; have n0_ := Aside0.mk (Kd.R_below (by (with_reducible repeat (first | apply Kd.R_alloc | apply Kd.R_drewN | apply Kd.R_drew)); exact HO_3.out) hb); have n1_ := Aside0.mk (below_step (by repeat (first | (with_reducible first | exact HB.out | apply below_alloc | apply pw_below_drewN | apply below_drew1) | exact HB.out)) hb); clear HO_3; clear HB; have HO_3 := n0_; have HB := n1_; clear n0_ n1_; (try clear hb); (try clear hb2); (try clear hk); (try clear hi)))
                              go_ret
                              exact ⟨by first | rfl | (simp [errW_none, errW_some] <;> rfl) | (simp [*, errW_none, errW_some] <;> rfl), by repeat (first | (with_reducible first | exact HB.out | apply below_alloc | apply pw_below_drewN | apply below_drew1) | exact HB.out)⟩
                            · replace c126 := Bool.eq_false_iff.mpr c126
                              subst c126
                              have H1 : (some true) = some r := by rw [if_neg (show ¬ (false = true) by decide)] at H; exact H
                              clear H
                              have H := H1
                              clear H1
                              obtain rfl := Option.some.inj H
                              obtain ⟨Ao139, co139, eo139⟩ := Kd.R_slice HO_3.out
                              subst eo139
                              go_wp2_with (first | ((with_reducible refine gate_callee (f := 11) rfl ?_); refine goesL_ (some 69) rfl rfl Try.func11 (by kernel_rfl) rfl #[.string a0] rfl (by (try simp only [List.map_toArray, List.map_cons, List.map_nil]); first | done | rfl | (simp only [List.length_drop, List.length_take]; rfl)) ?_; (with_reducible refine (ident_Lower.calls a0 t226 _ A111.out).mono ?_); rintro e w140 ⟨rfl, hb⟩; refine ⟨_, rfl, ?_⟩; have n0_ := Aside0.mk (Kd.R_below (by (with_reducible repeat (first | apply Kd.R_alloc | apply Kd.R_drewN | apply Kd.R_drew)); exact HO_3.out) hb); have n1_ := Aside0.mk (below_step (by repeat (first | (with_reducible first | exact HB.out | apply below_alloc | apply pw_below_drewN | apply below_drew1) | exact HB.out)) hb); clear HO_3; clear HB; have HO_3 := n0_; have HB := n1_; clear n0_ n1_; (try clear hb); (try clear hb2); (try clear hk); (try clear hi)) | (go_at_call 11; (with_reducible refine (ident_Lower.calls t226 t227 _ A114.out).mono ?_); rintro e w141 ⟨rfl, hb⟩; have n0_ := Aside0.mk (Kd.R_below (by (with_reducible repeat (first | apply Kd.R_alloc | apply Kd.R_drewN | apply Kd.R_drew)); exact HO_3.out) hb); have n1_ := Aside0.mk (below_step (by repeat (first | (with_reducible first | exact HB.out | apply below_alloc | apply pw_below_drewN | apply below_drew1) | exact HB.out)) hb); clear HO_3; clear HB; have HO_3 := n0_; have HB := n1_; clear n0_ n1_; (try clear hb); (try clear hb2); (try clear hk); (try clear hi)) | (go_at_call 10; (with_reducible refine (ident_Server.calls t226 t228 _ A116.out).mono ?_); rintro e w142 ⟨rfl, hb⟩; have n0_ := Aside0.mk (Kd.R_below (by (with_reducible repeat (first | apply Kd.R_alloc | apply Kd.R_drewN | apply Kd.R_drew)); exact HO_3.out) hb); have n1_ := Aside0.mk (below_step (by repeat (first | (with_reducible first | exact HB.out | apply below_alloc | apply pw_below_drewN | apply below_drew1) | exact HB.out)) hb); clear HO_3; clear HB; have HO_3 := n0_; have HB := n1_; clear n0_ n1_; (try clear hb); (try clear hb2); (try clear hk); (try clear hi)) | (go_at_call 10; (with_reducible refine (ident_Server.calls a0 t229 _ A117.out).mono ?_); rintro e w143 ⟨rfl, hb⟩; have n0_ := Aside0.mk (Kd.R_below (by (with_reducible repeat (first | apply Kd.R_alloc | apply Kd.R_drewN | apply Kd.R_drew)); exact HO_3.out) hb); have n1_ := Aside0.mk (below_step (by repeat (first | (with_reducible first | exact HB.out | apply below_alloc | apply pw_below_drewN | apply below_drew1) | exact HB.out)) hb); clear HO_3; clear HB; have HO_3 := n0_; have HB := n1_; clear n0_ n1_; (try clear hb); (try clear hb2); (try clear hk); (try clear hi)) | (go_at_call 17; (with_reducible refine (ident_Room.calls t226 t230 _ A119.out).mono ?_); rintro e w144 ⟨rfl, hb⟩; have n0_ := Aside0.mk (Kd.R_below (by (with_reducible repeat (first | apply Kd.R_alloc | apply Kd.R_drewN | apply Kd.R_drew)); exact HO_3.out) hb); have n1_ := Aside0.mk (below_step (by repeat (first | (with_reducible first | exact HB.out | apply below_alloc | apply pw_below_drewN | apply below_drew1) | exact HB.out)) hb); clear HO_3; clear HB; have HO_3 := n0_; have HB := n1_; clear n0_ n1_; (try clear hb); (try clear hb2); (try clear hk); (try clear hi)) | (go_at_call 17; (with_reducible refine (ident_Room.calls a0 t231 _ A120.out).mono ?_); rintro e w145 ⟨rfl, hb⟩; have n0_ := Aside0.mk (Kd.R_below (by (with_reducible repeat (first | apply Kd.R_alloc | apply Kd.R_drewN | apply Kd.R_drew)); exact HO_3.out) hb); have n1_ := Aside0.mk (below_step (by repeat (first | (with_reducible first | exact HB.out | apply below_alloc | apply pw_below_drewN | apply below_drew1) | exact HB.out)) hb); clear HO_3; clear HB; have HO_3 := n0_; have HB := n1_; clear n0_ n1_; (try clear hb); (try clear hb2); (try clear hk); (try clear hi)) | (go_at_call 19; (with_reducible refine (ident_EventID.calls t226 t232 _ A122.out).mono ?_); rintro e w146 ⟨rfl, hb⟩; have n0_ := Aside0.mk (Kd.R_below (by (with_reducible repeat (first | apply Kd.R_alloc | apply Kd.R_drewN | apply Kd.R_drew)); exact HO_3.out) hb); have n1_ := Aside0.mk (below_step (by repeat (first | (with_reducible first | exact HB.out | apply below_alloc | apply pw_below_drewN | apply below_drew1) | exact HB.out)) hb); clear HO_3; clear HB; have HO_3 := n0_; have HB := n1_; clear n0_ n1_; (try clear hb); (try clear hb2); (try clear hk); (try clear hi)) | (go_at_call 19; (with_reducible refine (ident_EventID.calls a0 t233 _ A123.out).mono ?_); rintro e w147 ⟨rfl, hb⟩; have n0_ := Aside0.mk (Kd.R_below (by (with_reducible repeat (first | apply Kd.R_alloc | apply Kd.R_drewN | apply Kd.R_drew)); exact HO_3.out) hb); have n1_ := Aside0.mk (below_step (by repeat (first | (with_reducible first | exact HB.out | apply below_alloc | apply pw_below_drewN | apply below_drew1) | exact HB.out)) hb); clear HO_3; clear HB; have HO_3 := n0_; have HB := n1_; clear n0_ n1_; (try clear hb); (try clear hb2); (try clear hk); (try clear hi)) | (go_at_call 15; (with_reducible refine (ident_User.calls a0 false _ A125.out).mono ?_); rintro e w148 ⟨rfl, hb⟩; have n0_ := Aside0.mk (Kd.R_below (by (with_reducible repeat (first | apply Kd.R_alloc | apply Kd.R_drewN | apply Kd.R_drew)); exact HO_3.out) hb); have n1_ := Aside0.mk (below_step (by repeat (first | (with_reducible first | exact HB.out | apply below_alloc | apply pw_below_drewN | apply below_drew1) | exact HB.out)) hb); clear HO_3; clear HB; have HO_3 := n0_; have HB := n1_; clear n0_ n1_; (try clear hb); (try clear hb2); (try clear hk); (try clear hi)))
                              go_ret
                              exact ⟨by first | rfl | (simp [errW_none, errW_some] <;> rfl) | (simp [*, errW_none, errW_some] <;> rfl), by repeat (first | (with_reducible first | exact HB.out | apply below_alloc | apply pw_below_drewN | apply below_drew1) | exact HB.out)⟩
                          · rw [if_neg c124] at H
                            have c124b0 : (t232 == t233) = false := by simpa using c124
                            (try (have c124b1 : decide (t232 = t233) = false := by simpa using c124))
                            (try (have c124b2 : (t232 == t233) = false := by simpa using c124))
                            (try (have c124b3 : ¬ (t232 = t233) := by simpa using c124))
                            clear c124
                            obtain rfl := Option.some.inj H
                            obtain ⟨Ao149, co149, eo149⟩ := Kd.R_slice HO_3.out
                            subst eo149
                            go_wp2_with (first | ((with_reducible refine gate_callee (f := 11) rfl ?_); refine goesL_ (some 69) rfl rfl Try.func11 (by kernel_rfl) rfl #[.string a0] rfl (by (try simp only [List.map_toArray, List.map_cons, List.map_nil]); first | done | rfl | (simp only [List.length_drop, List.length_take]; rfl)) ?_; (with_reducible refine (ident_Lower.calls a0 t226 _ A111.out).mono ?_); rintro e w150 ⟨rfl, hb⟩; refine ⟨_, rfl, ?_⟩; have n0_ := Aside0.mk (Kd.R_below (by (with_reducible repeat (first | apply Kd.R_alloc | apply Kd.R_drewN | apply Kd.R_drew)); exact HO_3.out) hb); have n1_ := Aside0.mk (below_step (by repeat (first | (with_reducible first | exact HB.out | apply below_alloc | apply pw_below_drewN | apply below_drew1) | exact HB.out)) hb); clear HO_3; clear HB; have HO_3 := n0_; have HB := n1_; clear n0_ n1_; (try clear hb); (try clear hb2); (try clear hk); (try clear hi)) | (go_at_call 11; (with_reducible refine (ident_Lower.calls t226 t227 _ A114.out).mono ?_); rintro e w151 ⟨rfl, hb⟩; have n0_ := Aside0.mk (Kd.R_below (by (with_reducible repeat (first | apply Kd.R_alloc | apply Kd.R_drewN | apply Kd.R_drew)); exact HO_3.out) hb); have n1_ := Aside0.mk (below_step (by repeat (first | (with_reducible first | exact HB.out | apply below_alloc | apply pw_below_drewN | apply below_drew1) | exact HB.out)) hb); clear HO_3; clear HB; have HO_3 := n0_; have HB := n1_; clear n0_ n1_; (try clear hb); (try clear hb2); (try clear hk); (try clear hi)) | (go_at_call 10; (with_reducible refine (ident_Server.calls t226 t228 _ A116.out).mono ?_); rintro e w152 ⟨rfl, hb⟩; have n0_ := Aside0.mk (Kd.R_below (by (with_reducible repeat (first | apply Kd.R_alloc | apply Kd.R_drewN | apply Kd.R_drew)); exact HO_3.out) hb); have n1_ := Aside0.mk (below_step (by repeat (first | (with_reducible first | exact HB.out | apply below_alloc | apply pw_below_drewN | apply below_drew1) | exact HB.out)) hb); clear HO_3; clear HB; have HO_3 := n0_; have HB := n1_; clear n0_ n1_; (try clear hb); (try clear hb2); (try clear hk); (try clear hi)) | (go_at_call 10; (with_reducible refine (ident_Server.calls a0 t229 _ A117.out).mono ?_); rintro e w153 ⟨rfl, hb⟩; have n0_ := Aside0.mk (Kd.R_below (by (with_reducible repeat (first | apply Kd.R_alloc | apply Kd.R_drewN | apply Kd.R_drew)); exact HO_3.out) hb); have n1_ := Aside0.mk (below_step (by repeat (first | (with_reducible first | exact HB.out | apply below_alloc | apply pw_below_drewN | apply below_drew1) | exact HB.out)) hb); clear HO_3; clear HB; have HO_3 := n0_; have HB := n1_; clear n0_ n1_; (try clear hb); (try clear hb2); (try clear hk); (try clear hi)) | (go_at_call 17; (with_reducible refine (ident_Room.calls t226 t230 _ A119.out).mono ?_); rintro e w154 ⟨rfl, hb⟩; have n0_ := Aside0.mk (Kd.R_below (by (with_reducible repeat (first | apply Kd.R_alloc | apply Kd.R_drewN | apply Kd.R_drew)); exact HO_3.out) hb); have n1_ := Aside0.mk (below_step (by repeat (first | (with_reducible first | exact HB.out | apply below_alloc | apply pw_below_drewN | apply below_drew1) | exact HB.out)) hb); clear HO_3; clear HB; have HO_3 := n0_; have HB := n1_; clear n0_ n1_; (try clear hb); (try clear hb2); (try clear hk); (try clear hi)) | (go_at_call 17; (with_reducible refine (ident_Room.calls a0 t231 _ A120.out).mono ?_); rintro e w155 ⟨rfl, hb⟩; have n0_ := Aside0.mk (Kd.R_below (by (with_reducible repeat (first | apply Kd.R_alloc | apply Kd.R_drewN | apply Kd.R_drew)); exact HO_3.out) hb); have n1_ := Aside0.mk (below_step (by repeat (first | (with_reducible first | exact HB.out | apply below_alloc | apply pw_below_drewN | apply below_drew1) | exact HB.out)) hb); clear HO_3; clear HB; have HO_3 := n0_; have HB := n1_; clear n0_ n1_; (try clear hb); (try clear hb2); (try clear hk); (try clear hi)) | (go_at_call 19; (with_reducible refine (ident_EventID.calls t226 t232 _ A122.out).mono ?_); rintro e w156 ⟨rfl, hb⟩; have n0_ := Aside0.mk (Kd.R_below (by (with_reducible repeat (first | apply Kd.R_alloc | apply Kd.R_drewN | apply Kd.R_drew)); exact HO_3.out) hb); have n1_ := Aside0.mk (below_step (by repeat (first | (with_reducible first | exact HB.out | apply below_alloc | apply pw_below_drewN | apply below_drew1) | exact HB.out)) hb); clear HO_3; clear HB; have HO_3 := n0_; have HB := n1_; clear n0_ n1_; (try clear hb); (try clear hb2); (try clear hk); (try clear hi)) | (go_at_call 19; (with_reducible refine (ident_EventID.calls a0 t233 _ A123.out).mono ?_); rintro e w157 ⟨rfl, hb⟩; have n0_ := Aside0.mk (Kd.R_below (by (with_reducible repeat (first | apply Kd.R_alloc | apply Kd.R_drewN | apply Kd.R_drew)); exact HO_3.out) hb); have n1_ := Aside0.mk (below_step (by repeat (first | (with_reducible first | exact HB.out | apply below_alloc | apply pw_below_drewN | apply below_drew1) | exact HB.out)) hb); clear HO_3; clear HB; have HO_3 := n0_; have HB := n1_; clear n0_ n1_; (try clear hb); (try clear hb2); (try clear hk); (try clear hi)))
                            go_ret
                            exact ⟨by first | rfl | (simp [errW_none, errW_some] <;> rfl) | (simp [*, errW_none, errW_some] <;> rfl), by repeat (first | (with_reducible first | exact HB.out | apply below_alloc | apply pw_below_drewN | apply below_drew1) | exact HB.out)⟩
                        · rw [if_neg c121] at H
                          have c121b0 : (t230 == t231) = false := by simpa using c121
                          (try (have c121b1 : decide (t230 = t231) = false := by simpa using c121))
                          (try (have c121b2 : (t230 == t231) = false := by simpa using c121))
                          (try (have c121b3 : ¬ (t230 = t231) := by simpa using c121))
                          clear c121
                          obtain rfl := Option.some.inj H
                          obtain ⟨Ao158, co158, eo158⟩ := Kd.R_slice HO_3.out
                          subst eo158
                          go_wp2_with (first | ((with_reducible refine gate_callee (f := 11) rfl ?_); refine goesL_ (some 69) rfl rfl Try.func11 (by kernel_rfl) rfl #[.string a0] rfl (by (try simp only [List.map_toArray, List.map_cons, List.map_nil]); first | done | rfl | (simp only [List.length_drop, List.length_take]; rfl)) ?_; (with_reducible refine (ident_Lower.calls a0 t226 _ A111.out).mono ?_); rintro e w159 ⟨rfl, hb⟩; refine ⟨_, rfl, ?_⟩; have n0_ := Aside0.mk (Kd.R_below (by (with_reducible repeat (first | apply Kd.R_alloc | apply Kd.R_drewN | apply Kd.R_drew)); exact HO_3.out) hb); have n1_ := Aside0.mk (below_step (by repeat (first | (with_reducible first | exact HB.out | apply below_alloc | apply pw_below_drewN | apply below_drew1) | exact HB.out)) hb); clear HO_3; clear HB; have HO_3 := n0_; have HB := n1_; clear n0_ n1_; (try clear hb); (try clear hb2); (try clear hk); (try clear hi)) | (go_at_call 11; (with_reducible refine (ident_Lower.calls t226 t227 _ A114.out).mono ?_); rintro e w160 ⟨rfl, hb⟩; have n0_ := Aside0.mk (Kd.R_below (by (with_reducible repeat (first | apply Kd.R_alloc | apply Kd.R_drewN | apply Kd.R_drew)); exact HO_3.out) hb); have n1_ := Aside0.mk (below_step (by repeat (first | (with_reducible first | exact HB.out | apply below_alloc | apply pw_below_drewN | apply below_drew1) | exact HB.out)) hb); clear HO_3; clear HB; have HO_3 := n0_; have HB := n1_; clear n0_ n1_; (try clear hb); (try clear hb2); (try clear hk); (try clear hi)) | (go_at_call 10; (with_reducible refine (ident_Server.calls t226 t228 _ A116.out).mono ?_); rintro e w161 ⟨rfl, hb⟩; have n0_ := Aside0.mk (Kd.R_below (by (with_reducible repeat (first | apply Kd.R_alloc | apply Kd.R_drewN | apply Kd.R_drew)); exact HO_3.out) hb); have n1_ := Aside0.mk (below_step (by repeat (first | (with_reducible first | exact HB.out | apply below_alloc | apply pw_below_drewN | apply below_drew1) | exact HB.out)) hb); clear HO_3; clear HB; have HO_3 := n0_; have HB := n1_; clear n0_ n1_; (try clear hb); (try clear hb2); (try clear hk); (try clear hi)) | (go_at_call 10; (with_reducible refine (ident_Server.calls a0 t229 _ A117.out).mono ?_); rintro e w162 ⟨rfl, hb⟩; have n0_ := Aside0.mk (Kd.R_below (by (with_reducible repeat (first | apply Kd.R_alloc | apply Kd.R_drewN | apply Kd.R_drew)); exact HO_3.out) hb); have n1_ := Aside0.mk (below_step (by repeat (first | (with_reducible first | exact HB.out | apply below_alloc | apply pw_below_drewN | apply below_drew1) | exact HB.out)) hb); clear HO_3; clear HB; have HO_3 := n0_; have HB := n1_; clear n0_ n1_; (try clear hb); (try clear hb2); (try clear hk); (try clear hi)) | (go_at_call 17; (with_reducible refine (ident_Room.calls t226 t230 _ A119.out).mono ?_); rintro e w163 ⟨rfl, hb⟩; have n0_ := Aside0.mk (Kd.R_below (by (with_reducible repeat (first | apply Kd.R_alloc | apply Kd.R_drewN | apply Kd.R_drew)); exact HO_3.out) hb); have n1_ := Aside0.mk (below_step (by repeat (first | (with_reducible first | exact HB.out | apply below_alloc | apply pw_below_drewN | apply below_drew1) | exact HB.out)) hb); clear HO_3; clear HB; have HO_3 := n0_; have HB := n1_; clear n0_ n1_; (try clear hb); (try clear hb2); (try clear hk); (try clear hi)) | (go_at_call 17; (with_reducible refine (ident_Room.calls a0 t231 _ A120.out).mono ?_); rintro e w164 ⟨rfl, hb⟩; have n0_ := Aside0.mk (Kd.R_below (by (with_reducible repeat (first | apply Kd.R_alloc | apply Kd.R_drewN | apply Kd.R_drew)); exact HO_3.out) hb); have n1_ := Aside0.mk (below_step (by repeat (first | (with_reducible first | exact HB.out | apply below_alloc | apply pw_below_drewN | apply below_drew1) | exact HB.out)) hb); clear HO_3; clear HB; have HO_3 := n0_; have HB := n1_; clear n0_ n1_; (try clear hb); (try clear hb2); (try clear hk); (try clear hi)))
                          go_ret
                          exact ⟨by first | rfl | (simp [errW_none, errW_some] <;> rfl) | (simp [*, errW_none, errW_some] <;> rfl), by repeat (first | (with_reducible first | exact HB.out | apply below_alloc | apply pw_below_drewN | apply below_drew1) | exact HB.out)⟩
                      · rw [if_neg c118] at H
                        have c118b0 : (t228 == t229) = false := by simpa using c118
                        (try (have c118b1 : decide (t228 = t229) = false := by simpa using c118))
                        (try (have c118b2 : (t228 == t229) = false := by simpa using c118))
                        (try (have c118b3 : ¬ (t228 = t229) := by simpa using c118))
                        clear c118
                        obtain rfl := Option.some.inj H
                        obtain ⟨Ao165, co165, eo165⟩ := Kd.R_slice HO_3.out
                        subst eo165
                        go_wp2_with (first | ((with_reducible refine gate_callee (f := 11) rfl ?_); refine goesL_ (some 69) rfl rfl Try.func11 (by kernel_rfl) rfl #[.string a0] rfl (by (try simp only [List.map_toArray, List.map_cons, List.map_nil]); first | done | rfl | (simp only [List.length_drop, List.length_take]; rfl)) ?_; (with_reducible refine (ident_Lower.calls a0 t226 _ A111.out).mono ?_); rintro e w166 ⟨rfl, hb⟩; refine ⟨_, rfl, ?_⟩; have n0_ := Aside0.mk (Kd.R_below (by (with_reducible repeat (first | apply Kd.R_alloc | apply Kd.R_drewN | apply Kd.R_drew)); exact HO_3.out) hb); have n1_ := Aside0.mk (below_step (by repeat (first | (with_reducible first | exact HB.out | apply below_alloc | apply pw_below_drewN | apply below_drew1) | exact HB.out)) hb); clear HO_3; clear HB; have HO_3 := n0_; have HB := n1_; clear n0_ n1_; (try clear hb); (try clear hb2); (try clear hk); (try clear hi)) | (go_at_call 11; (with_reducible refine (ident_Lower.calls t226 t227 _ A114.out).mono ?_); rintro e w167 ⟨rfl, hb⟩; have n0_ := Aside0.mk (Kd.R_below (by (with_reducible repeat (first | apply Kd.R_alloc | apply Kd.R_drewN | apply Kd.R_drew)); exact HO_3.out) hb); have n1_ := Aside0.mk (below_step (by repeat (first | (with_reducible first | exact HB.out | apply below_alloc | apply pw_below_drewN | apply below_drew1) | exact HB.out)) hb); clear HO_3; clear HB; have HO_3 := n0_; have HB := n1_; clear n0_ n1_; (try clear hb); (try clear hb2); (try clear hk); (try clear hi)) | (go_at_call 10; (with_reducible refine (ident_Server.calls t226 t228 _ A116.out).mono ?_); rintro e w168 ⟨rfl, hb⟩; have n0_ := Aside0.mk (Kd.R_below (by (with_reducible repeat (first | apply Kd.R_alloc | apply Kd.R_drewN | apply Kd.R_drew)); exact HO_3.out) hb); have n1_ := Aside0.mk (below_step (by repeat (first | (with_reducible first | exact HB.out | apply below_alloc | apply pw_below_drewN | apply below_drew1) | exact HB.out)) hb); clear HO_3; clear HB; have HO_3 := n0_; have HB := n1_; clear n0_ n1_; (try clear hb); (try clear hb2); (try clear hk); (try clear hi)) | (go_at_call 10; (with_reducible refine (ident_Server.calls a0 t229 _ A117.out).mono ?_); rintro e w169 ⟨rfl, hb⟩; have n0_ := Aside0.mk (Kd.R_below (by (with_reducible repeat (first | apply Kd.R_alloc | apply Kd.R_drewN | apply Kd.R_drew)); exact HO_3.out) hb); have n1_ := Aside0.mk (below_step (by repeat (first | (with_reducible first | exact HB.out | apply below_alloc | apply pw_below_drewN | apply below_drew1) | exact HB.out)) hb); clear HO_3; clear HB; have HO_3 := n0_; have HB := n1_; clear n0_ n1_; (try clear hb); (try clear hb2); (try clear hk); (try clear hi)))
                        go_ret
                        exact ⟨by first | rfl | (simp [errW_none, errW_some] <;> rfl) | (simp [*, errW_none, errW_some] <;> rfl), by repeat (first | (with_reducible first | exact HB.out | apply below_alloc | apply pw_below_drewN | apply below_drew1) | exact HB.out)⟩
                    · rw [if_neg c115] at H
                      have c115b0 : (t227.toList == t226.toList) = false := beq_eq_false_iff_ne.mpr c115
                      have c115b1 : (t227.toList != t226.toList) = true := bne_iff_ne.mpr c115
                      obtain rfl := Option.some.inj H
                      obtain ⟨Ao170, co170, eo170⟩ := Kd.R_slice HO_3.out
                      subst eo170
                      go_wp2_with (first | ((with_reducible refine gate_callee (f := 11) rfl ?_); refine goesL_ (some 69) rfl rfl Try.func11 (by kernel_rfl) rfl #[.string a0] rfl (by (try simp only [List.map_toArray, List.map_cons, List.map_nil]); first | done | rfl | (simp only [List.length_drop, List.length_take]; rfl)) ?_; (with_reducible refine (ident_Lower.calls a0 t226 _ A111.out).mono ?_); rintro e w171 ⟨rfl, hb⟩; refine ⟨_, rfl, ?_⟩; have n0_ := Aside0.mk (Kd.R_below (by (with_reducible repeat (first | apply Kd.R_alloc | apply Kd.R_drewN | apply Kd.R_drew)); exact HO_3.out) hb); have n1_ := Aside0.mk (below_step (by repeat (first | (with_reducible first | exact HB.out | apply below_alloc | apply pw_below_drewN | apply below_drew1) | exact HB.out)) hb); clear HO_3; clear HB; have HO_3 := n0_; have HB := n1_; clear n0_ n1_; (try clear hb); (try clear hb2); (try clear hk); (try clear hi)) | (go_at_call 11; (with_reducible refine (ident_Lower.calls t226 t227 _ A114.out).mono ?_); rintro e w172 ⟨rfl, hb⟩; have n0_ := Aside0.mk (Kd.R_below (by (with_reducible repeat (first | apply Kd.R_alloc | apply Kd.R_drewN | apply Kd.R_drew)); exact HO_3.out) hb); have n1_ := Aside0.mk (below_step (by repeat (first | (with_reducible first | exact HB.out | apply below_alloc | apply pw_below_drewN | apply below_drew1) | exact HB.out)) hb); clear HO_3; clear HB; have HO_3 := n0_; have HB := n1_; clear n0_ n1_; (try clear hb); (try clear hb2); (try clear hk); (try clear hi)))
                      go_ret
                      exact ⟨by first | rfl | (simp [errW_none, errW_some] <;> rfl) | (simp [*, errW_none, errW_some] <;> rfl), by repeat (first | (with_reducible first | exact HB.out | apply below_alloc | apply pw_below_drewN | apply below_drew1) | exact HB.out)⟩
                  · rw [if_neg c113] at H
                    have c113b0 : ((t226.size : Int) == (a0.size : Int)) = false := beq_eq_false_iff_ne.mpr c113
                    have c113b1 : ((t226.size : Int) != (a0.size : Int)) = true := bne_iff_ne.mpr c113
                    have c113b2 : (t226.size == a0.size) = false := by first | simpa using c113 | (simp at c113 ⊢; omega)
                    obtain rfl := Option.some.inj H
                    obtain ⟨Ao173, co173, eo173⟩ := Kd.R_slice HO_3.out
                    subst eo173
                    go_wp2_with (first | ((with_reducible refine gate_callee (f := 11) rfl ?_); refine goesL_ (some 69) rfl rfl Try.func11 (by kernel_rfl) rfl #[.string a0] rfl (by (try simp only [List.map_toArray, List.map_cons, List.map_nil]); first | done | rfl | (simp only [List.length_drop, List.length_take]; rfl)) ?_; (with_reducible refine (ident_Lower.calls a0 t226 _ A111.out).mono ?_); rintro e w174 ⟨rfl, hb⟩; refine ⟨_, rfl, ?_⟩; have n0_ := Aside0.mk (Kd.R_below (by (with_reducible repeat (first | apply Kd.R_alloc | apply Kd.R_drewN | apply Kd.R_drew)); exact HO_3.out) hb); have n1_ := Aside0.mk (below_step (by repeat (first | (with_reducible first | exact HB.out | apply below_alloc | apply pw_below_drewN | apply below_drew1) | exact HB.out)) hb); clear HO_3; clear HB; have HO_3 := n0_; have HB := n1_; clear n0_ n1_; (try clear hb); (try clear hb2); (try clear hk); (try clear hi)))
                    go_ret
                    exact ⟨by first | rfl | (simp [errW_none, errW_some] <;> rfl) | (simp [*, errW_none, errW_some] <;> rfl), by repeat (first | (with_reducible first | exact HB.out | apply below_alloc | apply pw_below_drewN | apply below_drew1) | exact HB.out)⟩
                · rw [if_neg c112] at H
                  have c112b0 : (x4_2 == 1) = false := beq_eq_false_iff_ne.mpr c112
                  have c112b1 : (x4_2 != 1) = true := bne_iff_ne.mpr c112
                  obtain rfl := Option.some.inj H
                  obtain ⟨Ao175, co175, eo175⟩ := Kd.R_slice HO_3.out
                  subst eo175
                  go_wp2_with (first | ((with_reducible refine gate_callee (f := 11) rfl ?_); refine goesL_ (some 69) rfl rfl Try.func11 (by kernel_rfl) rfl #[.string a0] rfl (by (try simp only [List.map_toArray, List.map_cons, List.map_nil]); first | done | rfl | (simp only [List.length_drop, List.length_take]; rfl)) ?_; (with_reducible refine (ident_Lower.calls a0 t226 _ A111.out).mono ?_); rintro e w176 ⟨rfl, hb⟩; refine ⟨_, rfl, ?_⟩; have n0_ := Aside0.mk (Kd.R_below (by (with_reducible repeat (first | apply Kd.R_alloc | apply Kd.R_drewN | apply Kd.R_drew)); exact HO_3.out) hb); have n1_ := Aside0.mk (below_step (by repeat (first | (with_reducible first | exact HB.out | apply below_alloc | apply pw_below_drewN | apply below_drew1) | exact HB.out)) hb); clear HO_3; clear HB; have HO_3 := n0_; have HB := n1_; clear n0_ n1_; (try clear hb); (try clear hb2); (try clear hk); (try clear hi)))
                  go_ret
                  exact ⟨by first | rfl | (simp [errW_none, errW_some] <;> rfl) | (simp [*, errW_none, errW_some] <;> rfl), by repeat (first | (with_reducible first | exact HB.out | apply below_alloc | apply pw_below_drewN | apply below_drew1) | exact HB.out)⟩
  · replace c3 := Bool.eq_false_iff.mpr c3
    subst c3
    have H1 : (some false) = some r := by rw [if_neg (show ¬ (false = true) by decide)] at H; exact H
    clear H
    have H := H1
    clear H1
    obtain rfl := Option.some.inj H
    go_enter Try.func6, Try.ntmps6
    go_wp2_with (first | ((with_reducible refine gate_callee (f := 8) rfl ?_); refine goesL_ (some 7) rfl rfl Try.func8 (by kernel_rfl) rfl #[] rfl (by (try simp only [List.map_toArray, List.map_cons, List.map_nil]); first | done | rfl | (simp only [List.length_drop, List.length_take]; rfl)) ?_; (with_reducible refine (outlawlaw04_lives.calls  false _ A2.out).mono ?_); rintro e w177 ⟨rfl, hb⟩; refine ⟨_, rfl, ?_⟩; have n0_ := Aside0.mk (below_step (by repeat (first | (with_reducible first | exact HB.out | apply below_alloc | apply pw_below_drewN | apply below_drew1) | exact HB.out)) hb); clear HB; have HB := n0_; clear n0_; (try clear hb); (try clear hb2); (try clear hk); (try clear hi)))
    go_ret
    exact ⟨by first | rfl | (simp [errW_none, errW_some] <;> rfl) | (simp [*, errW_none, errW_some] <;> rfl), by repeat (first | (with_reducible first | exact HB.out | apply below_alloc | apply pw_below_drewN | apply below_drew1) | exact HB.out)⟩

/-- THE ONE PURE STATEMENT of outlawlaw04_IdentKinds: yours. -/
def outlawlaw04_IdentKinds.Pure : Prop := ∀ (a0 : ByteArray), a0.size ≤ 140737488351232 → ∃ k, outlawlaw04_IdentKinds.f k a0 = some true
theorem outlawlaw04_IdentKinds.walk (P : outlawlaw04_IdentKinds.Pure) (a0 : ByteArray) (w : World) (w0 : a0.size ≤ 140737488351232) :
    Calls Try.prog 6 #[.string a0] w fun e w' => e = .returned (.bool true) ∧ Below w.heap.size w w' := by
  obtain ⟨k, h⟩ := P a0 w0
  refine (outlawlaw04_IdentKinds.calls k a0 true w h).mono ?_
  rintro e w' ⟨rfl, hd⟩
  exact ⟨rfl, hd⟩

end Go.Proofs.Ytppgoppkciakgaa.PA
