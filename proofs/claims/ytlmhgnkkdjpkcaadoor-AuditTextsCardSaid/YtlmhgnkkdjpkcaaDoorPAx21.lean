-- Written by a program of this session (gprint.py, a turned print with given contracts).
import Derived.Test.YtlmhgnkkdjpkcaaDoorPAx0
import Derived.Test.YtlmhgnkkdjpkcaaDoorPAx4
import Derived.Test.YtlmhgnkkdjpkcaaDoorPAx5
import Derived.Test.YtlmhgnkkdjpkcaaDoorPAx20
import Derived.Test.YtlmhgnkkdjpkcaaDoorMl
import Derived.Test.YtlmhgnkkdjpkcaaDoorMt
namespace Go.Proofs.YtlmhgnkkdjpkcaaDoor.PA
open Go.RowKit Go.Proofs.YtlmhgnkkdjpkcaaDoorW.PrintWords Go.Proofs.YtlmhgnkkdjpkcaaDoorW.PrintLast Go.Proofs.YtlmhgnkkdjpkcaaDoorW.PrintMore Go.Proofs.YtlmhgnkkdjpkcaaDoorG
attribute [local go_sem] max2_int min2_int max_two min_two max_three min_three max_four min_four   -- for this text's walks alone
set_option linter.unusedVariables false
set_option linter.unusedSimpArgs false

/-! ### outlawlaw23_AuditTexts: function 3 -/
def outlawlaw23_AuditTexts.l0 : Nat → List (S30) → Int → ByteArray → Int → Option (Bool)
  | 0, _, _, _, _ => none
  | k + 1, x0, x5, x6, x7 => if x7 < (x0.length : Int) then (if 0 ≤ x7 then ((audit_Line.f ((rd_T30 x0 x7).f0) ((rd_T30 x0 x7).f1) ((rd_T30 x0 x7).f2.f0) ((rd_T30 x0 x7).f2.f1) ((rd_T30 x0 x7).f2.f2) ((rd_T30 x0 x7).f2.f3) ((rd_T30 x0 x7).f2.f4) ((rd_T30 x0 x7).f3) ((rd_T30 x0 x7).f4)).bind fun t291 => (if x6.size + t291.size ≤ 9223372036854775807 then (if (x6 ++ t291).size + 1 ≤ 9223372036854775807 then (outlawlaw23_AuditTexts.l0 k x0 x5 ((x6 ++ t291) ++ (⟨#[10]⟩ : ByteArray)) (wrap64 (x7 + 1))) else (none)) else (none))) else (none)) else ((audit_Text.f x0).bind fun t292 => (if t292.toList = x6.toList then (if 0 ≤ x5 then (if x5 ≤ (x0.length : Int) then ((audit_Text.f (x0.take (x5 : Int).toNat)).bind fun t297 => ((audit_Text.f (x0.drop (x5 : Int).toNat)).bind fun t302 => (if t297.size + t302.size ≤ 9223372036854775807 then (some ((t297 ++ t302).toList == x6.toList)) else (none)))) else (none)) else (none)) else (some false)))
def outlawlaw23_AuditTexts.f (k : Nat) (l0 : List (S30)) (a1 : Int) : Option (Bool) := (outlawlaw23_lives.f k).bind fun t287 => (if t287 = true then ((outlawkit_LightNotes.f k l0 60).bind fun t288 => (if t288 = true then ((outlawkit_Pick.f a1 (wrap64 ((l0.length : Int) + 1))).bind fun t289 => (outlawlaw23_AuditTexts.l0 k l0 t289 (⟨#[]⟩ : ByteArray) 0)) else (some true))) else (some false))
theorem outlawlaw23_AuditTexts.mono_l : ∀ k, (∀ y0 y1 y2 y3, LeO (outlawlaw23_AuditTexts.l0 k y0 y1 y2 y3) (outlawlaw23_AuditTexts.l0 (k + 1) y0 y1 y2 y3))
  | 0 => fun _ _ _ _ r h => by simp [outlawlaw23_AuditTexts.l0] at h
  | k + 1 => by
    have ih0 := outlawlaw23_AuditTexts.mono_l k
    · intro y0 y1 y2 y3
      unfold outlawlaw23_AuditTexts.l0
      repeat' first
      | (with_reducible exact ih0 _ _ _ _)
      | (with_reducible exact outlawkit_LightNotes.mono _ _ _)
      | (with_reducible exact outlawlaw23_lives.mono _)
      | (with_reducible exact LeO.refl _)
      | (with_reducible exact LeO.none _)
      | (with_reducible refine LeO.ite ?_ ?_)
      | (with_reducible refine LeO.bind ?_ (fun _ => ?_))
      | exact ih0 _ _ _ _
      | exact outlawkit_LightNotes.mono _ _ _
      | exact outlawlaw23_lives.mono _
      | exact LeO.none _
      | refine LeO.ite ?_ ?_
      | refine LeO.bind ?_ (fun _ => ?_)
theorem outlawlaw23_AuditTexts.mono : ∀ a0 a1 k, LeO (outlawlaw23_AuditTexts.f k a0 a1) (outlawlaw23_AuditTexts.f (k + 1) a0 a1) := by
  intro a0 a1 k
  have ih0 := outlawlaw23_AuditTexts.mono_l k
  unfold outlawlaw23_AuditTexts.f
  repeat' first
      | (with_reducible exact ih0 _ _ _ _)
      | (with_reducible exact outlawkit_LightNotes.mono _ _ _)
      | (with_reducible exact outlawlaw23_lives.mono _)
      | (with_reducible exact LeO.refl _)
      | (with_reducible exact LeO.none _)
      | (with_reducible refine LeO.ite ?_ ?_)
      | (with_reducible refine LeO.bind ?_ (fun _ => ?_))
      | exact ih0 _ _ _ _
      | exact outlawkit_LightNotes.mono _ _ _
      | exact outlawlaw23_lives.mono _
      | exact LeO.none _
      | refine LeO.ite ?_ ?_
      | refine LeO.bind ?_ (fun _ => ?_)
def outlawlaw23_AuditTexts.T11 : Bool × List (List Nat × List Nat) := (true, [([], []), ([0], [0]), ([], []), ([1, 2], [1, 2]), ([3, 1], [3]), ([4], [4]), ([4], [4]), ([5, 6, 4], [4, 5, 6]), ([7, 4, 4], [4, 7]), ([4], [4]), ([4], [4]), ([9, 10, 4], [4, 9, 10]), ([11, 8, 4], [4, 11]), ([8, 12, 4], [4, 8, 12]), ([4], [4]), ([13, 14, 4], [4, 13, 14]), ([4, 15], [4, 15]), ([16, 12, 0, 1, 2, 3, 4, 5, 6, 7, 8, 9, 10, 11, 12, 13, 14, 15, 16], [16])])
def outlawlaw23_AuditTexts.B11 : List Nat := [0, 1, 0, 7, 15, 31, 31, 127, 255, 31, 31, 1567, 4095, 8191, 31, 32767, 65535, 131071]
theorem outlawlaw23_AuditTexts.tab11 : rtab .any (opsOf Tryd.f3 11) = outlawlaw23_AuditTexts.T11 := by kernel_rfl
theorem outlawlaw23_AuditTexts.bits11 : waitsOk outlawlaw23_AuditTexts.T11.2 outlawlaw23_AuditTexts.B11 = true := by kernel_rfl
set_option maxHeartbeats 8000000 in
set_option maxRecDepth 100000 in
theorem outlawlaw23_AuditTexts.calls (k : Nat) (A0 : Option Addr) (c0 : Nat) (l0 : List (S30)) (a1 : Int) (r : Bool) (w : World) (hr_ : Aside0 (r = true)) (htTab_ : Tab w) (hr0 : Kd.C k30 w A0 l0.length l0) (hc0 : l0.length ≤ c0) (h : outlawlaw23_AuditTexts.f k l0 a1 = some r) :
    Calls Tryd.prog 3 #[.slice A0 l0.length c0, .int .i64 a1] w fun e w' => e = .returned (.bool r) ∧ Below w.heap.size w w' := by
  have hu30 := Tryd.underlying30
  have HR0 := Aside0.mk hr0
  have HC0 := Aside0.mk hc0
  clear hr0 hc0
  have HTTab_ := Aside0.mk htTab_
  clear htTab_
  have HB := Aside0.mk (Below.refl w.heap.size w)
  have H : ((outlawlaw23_lives.f k).bind fun t287 => (if t287 = true then ((outlawkit_LightNotes.f k l0 60).bind fun t288 => (if t288 = true then ((outlawkit_Pick.f a1 (wrap64 ((l0.length : Int) + 1))).bind fun t289 => (outlawlaw23_AuditTexts.l0 k l0 t289 (⟨#[]⟩ : ByteArray) 0)) else (some true))) else (some false))) = some r := h
  clear h
  replace H := Option.bind_eq_some_iff.mp H
  obtain ⟨t287, A30, H⟩ := H
  replace H : (if t287 = true then ((outlawkit_LightNotes.f k l0 60).bind fun t288 => (if t288 = true then ((outlawkit_Pick.f a1 (wrap64 ((l0.length : Int) + 1))).bind fun t289 => (outlawlaw23_AuditTexts.l0 k l0 t289 (⟨#[]⟩ : ByteArray) 0)) else (some true))) else (some false)) = some r := H
  have A3 := Aside0.mk A30
  clear A30
  by_cases c4 : t287 = true
  · subst c4
    have H1 : ((outlawkit_LightNotes.f k l0 60).bind fun t288 => (if t288 = true then ((outlawkit_Pick.f a1 (wrap64 ((l0.length : Int) + 1))).bind fun t289 => (outlawlaw23_AuditTexts.l0 k l0 t289 (⟨#[]⟩ : ByteArray) 0)) else (some true))) = some r := by rw [if_pos rfl] at H; exact H
    clear H
    have H := H1
    clear H1
    replace H := Option.bind_eq_some_iff.mp H
    obtain ⟨t288, A50, H⟩ := H
    replace H : (if t288 = true then ((outlawkit_Pick.f a1 (wrap64 ((l0.length : Int) + 1))).bind fun t289 => (outlawlaw23_AuditTexts.l0 k l0 t289 (⟨#[]⟩ : ByteArray) 0)) else (some true)) = some r := H
    have A5 := Aside0.mk A50
    clear A50
    by_cases c6 : t288 = true
    · subst c6
      have H1 : ((outlawkit_Pick.f a1 (wrap64 ((l0.length : Int) + 1))).bind fun t289 => (outlawlaw23_AuditTexts.l0 k l0 t289 (⟨#[]⟩ : ByteArray) 0)) = some r := by rw [if_pos rfl] at H; exact H
      clear H
      have H := H1
      clear H1
      replace H := Option.bind_eq_some_iff.mp H
      obtain ⟨t289, A70, H⟩ := H
      replace H : (outlawlaw23_AuditTexts.l0 k l0 t289 (⟨#[]⟩ : ByteArray) 0) = some r := H
      have A7 := Aside0.mk A70
      clear A70
      have H' := Aside0.mk H
      clear H
      go_enter Tryd.func3, Tryd.ntmps3
      go_wp2_with (first | ((with_reducible refine gate_callee (f := 7) rfl ?_); refine goesL_ (some 8) rfl rfl Tryd.func7 (by kernel_rfl) rfl #[] rfl (by (try simp only [List.map_toArray, List.map_cons, List.map_nil]); first | done | rfl | (simp only [List.length_drop, List.length_take]; rfl)) ?_; (with_reducible refine (outlawlaw23_lives.calls k  true _ A3.out).mono ?_); rintro e w8 ⟨rfl, hb⟩; refine ⟨_, rfl, ?_⟩; have n0_ := Aside0.mk (below_step (by repeat (first | (with_reducible first | exact HB.out | apply below_alloc | apply pw_below_drewN | apply below_drew1) | exact HB.out)) hb); clear HB; have HB := n0_; clear n0_; (try clear hb); (try clear hb2); (try clear hk); (try clear hi)) | ((with_reducible refine gate_callee (f := 8) rfl ?_); refine goesL_ (some 11) rfl rfl Tryd.func8 (by kernel_rfl) rfl #[.slice A0 l0.length c0, .int .i64 60] rfl (by (try simp only [List.map_toArray, List.map_cons, List.map_nil]); first | done | rfl | (simp only [List.length_drop, List.length_take]; rfl)) ?_; (with_reducible refine (outlawkit_LightNotes.calls k _ _ l0 60 true _ ?side1 ?side2 A5.out).mono ?_); (case side1 => repeat (first | exact (Kd.C_below HR0.out HB.out) | (with_reducible refine Kd.C_alloc ?_ _) | (with_reducible refine Kd.C_drewN ?_ _) | (with_reducible refine Kd.C_drew ?_))); (case side2 => exact HC0.out); rintro e w9 ⟨rfl, hb⟩; refine ⟨_, rfl, ?_⟩; have n0_ := Aside0.mk (below_step (by repeat (first | (with_reducible first | exact HB.out | apply below_alloc | apply pw_below_drewN | apply below_drew1) | exact HB.out)) hb); clear HB; have HB := n0_; clear n0_; (try clear hb); (try clear hb2); (try clear hk); (try clear hi)) | ((with_reducible refine gate_callee (f := 9) rfl ?_); refine goesL_ (some 17) rfl rfl Tryd.func9 (by kernel_rfl) rfl #[.int .i64 a1, .int .i64 (wrap64 ((l0.length : Int) + 1))] rfl (by (try simp only [List.map_toArray, List.map_cons, List.map_nil]); first | done | rfl | (simp only [List.length_drop, List.length_take]; rfl)) ?_; (with_reducible refine (outlawkit_Pick.calls a1 (wrap64 ((l0.length : Int) + 1)) t289 _ A7.out).mono ?_); rintro e w' ⟨rfl, ⟨nd, rfl⟩⟩; refine ⟨_, rfl, ?_⟩))
      go_loopg [6, 7] k (fun kq v6 v7 w' => ∃ (x6_1 : ByteArray) (x7_1 : Int), v6 = .string x6_1 ∧ v7 = .int .i64 x7_1 ∧ Aside0 (outlawlaw23_AuditTexts.l0 kq l0 t289 x6_1 x7_1 = some r) ∧ Aside0 (kq ≤ k) ∧ Aside0 (Below w.heap.size w w'))
      case atStart => exact ⟨((⟨#[]⟩ : ByteArray)), (0), (by first | rfl | (simp; done) | (simp [*]; done) | (simp [bneNil_, beqNil_]; done) | (simp [bneNil_, beqNil_, *]; done) | (simp_all; done)), (by first | rfl | (simp; done) | (simp [*]; done) | (simp [bneNil_, beqNil_]; done) | (simp [bneNil_, beqNil_, *]; done) | (simp_all; done)), H', ⟨Nat.le_refl _⟩, ⟨by repeat (first | (with_reducible first | exact HB.out | apply below_alloc | apply pw_below_drewN | apply below_drew1) | exact HB.out)⟩⟩
      case round =>
        clear H'
        try clear p2
        try clear c3
        try clear c4
        try clear c6
        try clear p6
        try clear c7
        try clear c8
        try clear c9
        obtain ⟨x6_1, x7_1, rfl, rfl, HA, HK1, HB⟩ := hrel
        cases gk with
        | zero => exact absurd HA.out (by simp [outlawlaw23_AuditTexts.l0])
        | succ k1 =>
          have H := HA.out
          clear HA
          simp only [outlawlaw23_AuditTexts.l0] at H
          by_cases c10 : x7_1 < (l0.length : Int)
          · rw [if_pos c10] at H
            have c10b0 : decide (x7_1 < (l0.length : Int)) = true := decide_eq_true c10
            clear c10
            by_cases c11 : 0 ≤ x7_1
            · rw [if_pos c11] at H
              have c11b0 : decide (0 ≤ x7_1) = true := decide_eq_true c11
              clear c11
              replace H := Option.bind_eq_some_iff.mp H
              obtain ⟨t291, A120, H⟩ := H
              replace H : (if x6_1.size + t291.size ≤ 9223372036854775807 then (if (x6_1 ++ t291).size + 1 ≤ 9223372036854775807 then (outlawlaw23_AuditTexts.l0 k1 l0 t289 ((x6_1 ++ t291) ++ (⟨#[10]⟩ : ByteArray)) (wrap64 (x7_1 + 1))) else (none)) else (none)) = some r := H
              have A12 := Aside0.mk A120
              clear A120
              by_cases c13 : x6_1.size + t291.size ≤ 9223372036854775807
              · rw [if_pos c13] at H
                have c13b0 := eq_true c13
                have c13b1 : decide (x6_1.size + t291.size ≤ 9223372036854775807) = true := decide_eq_true c13
                try have c13b2 : (9223372036854775807 < x6_1.size + t291.size) = False := eq_false (Nat.not_lt.2 c13)
                by_cases c14 : (x6_1 ++ t291).size + 1 ≤ 9223372036854775807
                · rw [if_pos c14] at H
                  have c14b2n : (9223372036854775807 < x6_1.size + t291.size + 1) = False := eq_false (by have := c14; rw [ByteArray.size_append] at this; omega)
                  have c14b0 := eq_true c14
                  have c14b1 : decide ((x6_1 ++ t291).size + 1 ≤ 9223372036854775807) = true := decide_eq_true c14
                  (try (have c14b1n := c14b1; simp only [ByteArray.size_append, Int.natCast_add, size_one_, size_two_, size_three_] at c14b1n))
                  try have c14b2 : (9223372036854775807 < (x6_1 ++ t291).size + 1) = False := eq_false (Nat.not_lt.2 c14)
                  (try (have c14b2n := c14b2; simp only [ByteArray.size_append, size_one_, size_two_, size_three_] at c14b2n))
                  (try (have c14b2m : (9223372036854775806 < (x6_1 ++ t291).size) = False := eq_false (by have := of_eq_false c14b2; omega); simp only [ByteArray.size_append, size_one_, size_two_, size_three_] at c14b2m))
                  have H' := Aside0.mk H
                  clear H
                  have p290 : 0 ≤ (x7_1 : Int) := of_decide_eq_true (by first | (with_reducible assumption) | assumption)
                  have q290 : x7_1 < (l0.length : Int) := of_decide_eq_true (by first | (with_reducible assumption) | assumption)
                  obtain ⟨ad290, e290, hx290_0, hx290_1, hx290_2, hx290_3, hx290_4, hx290_5, hx290_6, hx290_7, hx290_8⟩ := at_T30 HR0.out x7_1 p290 q290
                  cases e290
                  replace hx290_0 := (HB.out.cell (World.block_lt_of_cell? w _ hx290_0)).trans hx290_0
                  replace hx290_1 := (HB.out.cell (World.block_lt_of_cell? w _ hx290_1)).trans hx290_1
                  replace hx290_2 := (HB.out.cell (World.block_lt_of_cell? w _ hx290_2)).trans hx290_2
                  replace hx290_3 := (HB.out.cell (World.block_lt_of_cell? w _ hx290_3)).trans hx290_3
                  replace hx290_4 := (HB.out.cell (World.block_lt_of_cell? w _ hx290_4)).trans hx290_4
                  replace hx290_5 := (HB.out.cell (World.block_lt_of_cell? w _ hx290_5)).trans hx290_5
                  replace hx290_6 := (HB.out.cell (World.block_lt_of_cell? w _ hx290_6)).trans hx290_6
                  replace hx290_7 := (HB.out.cell (World.block_lt_of_cell? w _ hx290_7)).trans hx290_7
                  replace hx290_8 := (HB.out.cell (World.block_lt_of_cell? w _ hx290_8)).trans hx290_8
                  replace p290 := eq_true p290
                  replace q290 := eq_true q290
                  go_wp2_with (first | ((with_reducible refine gate_callee (f := 10) rfl ?_); refine goesL_ (some 29) rfl rfl Tryd.func10 (by kernel_rfl) rfl #[.agg #[.int .i64 ((rd_T30 l0 x7_1).f0), .int .i64 ((rd_T30 l0 x7_1).f1), .int .i64 ((rd_T30 l0 x7_1).f2.f0), .string ((rd_T30 l0 x7_1).f2.f1), .string ((rd_T30 l0 x7_1).f2.f2), .string ((rd_T30 l0 x7_1).f2.f3), .string ((rd_T30 l0 x7_1).f2.f4), .int .i64 ((rd_T30 l0 x7_1).f3), .string ((rd_T30 l0 x7_1).f4)]] rfl (by (try simp only [List.map_toArray, List.map_cons, List.map_nil]); first | done | rfl | (simp only [List.length_drop, List.length_take]; rfl)) ?_; (with_reducible refine (audit_Line.calls ((rd_T30 l0 x7_1).f0) ((rd_T30 l0 x7_1).f1) ((rd_T30 l0 x7_1).f2.f0) ((rd_T30 l0 x7_1).f2.f1) ((rd_T30 l0 x7_1).f2.f2) ((rd_T30 l0 x7_1).f2.f3) ((rd_T30 l0 x7_1).f2.f4) ((rd_T30 l0 x7_1).f3) ((rd_T30 l0 x7_1).f4) t291 _ ?side1 A12.out).mono ?_); (case side1 => exact Tab.at HTTab_.out (by repeat (first | (with_reducible first | exact HB.out | apply below_alloc | apply pw_below_drewN | apply below_drew1) | exact HB.out))); rintro e w15 ⟨rfl, hb⟩; refine ⟨_, rfl, ?_⟩; have n0_ := Aside0.mk (below_step (by repeat (first | (with_reducible first | exact HB.out | apply below_alloc | apply pw_below_drewN | apply below_drew1) | exact HB.out)) hb); clear HB; have HB := n0_; clear n0_; (try clear hb); (try clear hb2); (try clear hk); (try clear hi)))
                  go_roundg k1
                  case measure => have := HK1.out; omega
                  case rel => exact ⟨((x6_1 ++ t291) ++ (⟨#[10]⟩ : ByteArray)), (wrap64 (x7_1 + 1)), (by first | rfl | (simp; done) | (simp [*]; done) | (simp [bneNil_, beqNil_]; done) | (simp [bneNil_, beqNil_, *]; done) | (simp_all; done)), (by first | rfl | (simp; done) | (simp [*]; done) | (simp [bneNil_, beqNil_]; done) | (simp [bneNil_, beqNil_, *]; done) | (simp_all; done)), H', ⟨by have := HK1.out; omega⟩, ⟨by repeat (first | (with_reducible first | exact HB.out | apply below_alloc | apply pw_below_drewN | apply below_drew1) | exact HB.out)⟩⟩
                · rw [if_neg c14] at H
                  exact absurd H (by simp)
              · rw [if_neg c13] at H
                exact absurd H (by simp)
            · rw [if_neg c11] at H
              exact absurd H (by simp)
          · rw [if_neg c10] at H
            have c10b0 : decide (x7_1 < (l0.length : Int)) = false := decide_eq_false c10
            clear c10
            replace H := Option.bind_eq_some_iff.mp H
            obtain ⟨t292, A160, H⟩ := H
            replace H : (if t292.toList = x6_1.toList then (if 0 ≤ t289 then (if t289 ≤ (l0.length : Int) then ((audit_Text.f (l0.take (t289 : Int).toNat)).bind fun t297 => ((audit_Text.f (l0.drop (t289 : Int).toNat)).bind fun t302 => (if t297.size + t302.size ≤ 9223372036854775807 then (some ((t297 ++ t302).toList == x6_1.toList)) else (none)))) else (none)) else (none)) else (some false)) = some r := H
            have A16 := Aside0.mk A160
            clear A160
            by_cases c17 : t292.toList = x6_1.toList
            · rw [if_pos c17] at H
              have c17b0 : (t292.toList == x6_1.toList) = true := beq_iff_eq.mpr c17
              have c17b1 : (t292.toList != x6_1.toList) = false := bne_eq_false_iff_eq.mpr c17
              clear c17
              by_cases c18 : 0 ≤ t289
              · rw [if_pos c18] at H
                have c18b0 := eq_true c18
                have c18b1 : decide (0 ≤ t289) = true := decide_eq_true c18
                clear c18
                by_cases c19 : t289 ≤ (l0.length : Int)
                · rw [if_pos c19] at H
                  have c19b0 := eq_true c19
                  have c19b1 : decide (t289 ≤ (l0.length : Int)) = true := decide_eq_true c19
                  clear c19
                  obtain ⟨y293, hy293⟩ : ∃ y_ : List (S30), y_ = (l0.take (t289 : Int).toNat) := ⟨_, rfl⟩
                  replace H : ((audit_Text.f y293).bind fun t297 => ((audit_Text.f (l0.drop (t289 : Int).toNat)).bind fun t302 => (if t297.size + t302.size ≤ 9223372036854775807 then (some ((t297 ++ t302).toList == x6_1.toList)) else (none)))) = some r := by first | (rw [hy293]; with_reducible exact H) | (have H2_ := (Option.bind_some _ _).symm.trans H; rw [hy293]; with_reducible exact H2_) | (have H2_ := (Option.bind_some _ _).symm.trans H; with_reducible exact H2_) | with_reducible exact H | (rw [hy293]; exact H) | exact H
                  have Ny293 := Aside0.mk hy293
                  clear hy293
                  replace H := Option.bind_eq_some_iff.mp H
                  obtain ⟨t297, A200, H⟩ := H
                  replace H : ((audit_Text.f (l0.drop (t289 : Int).toNat)).bind fun t302 => (if t297.size + t302.size ≤ 9223372036854775807 then (some ((t297 ++ t302).toList == x6_1.toList)) else (none))) = some r := H
                  have A20 := Aside0.mk A200
                  clear A200
                  have c21b0 := eq_true (of_decide_eq_true (by first | (with_reducible assumption) | assumption) : 0 ≤ t289)
                  have c22b0 := eq_true (of_decide_eq_true (by first | (with_reducible assumption) | assumption) : t289 ≤ (l0.length : Int))
                  obtain ⟨y298, hy298⟩ : ∃ y_ : List (S30), y_ = (l0.drop (t289 : Int).toNat) := ⟨_, rfl⟩
                  replace H : ((audit_Text.f y298).bind fun t302 => (if t297.size + t302.size ≤ 9223372036854775807 then (some ((t297 ++ t302).toList == x6_1.toList)) else (none))) = some r := by first | (rw [hy298]; with_reducible exact H) | (have H2_ := (Option.bind_some _ _).symm.trans H; rw [hy298]; with_reducible exact H2_) | (have H2_ := (Option.bind_some _ _).symm.trans H; with_reducible exact H2_) | with_reducible exact H | (rw [hy298]; exact H) | exact H
                  have Ny298 := Aside0.mk hy298
                  clear hy298
                  replace H := Option.bind_eq_some_iff.mp H
                  obtain ⟨t302, A230, H⟩ := H
                  replace H : (if t297.size + t302.size ≤ 9223372036854775807 then (some ((t297 ++ t302).toList == x6_1.toList)) else (none)) = some r := H
                  have A23 := Aside0.mk A230
                  clear A230
                  by_cases c24 : t297.size + t302.size ≤ 9223372036854775807
                  · rw [if_pos c24] at H
                    have c24b0 := eq_true c24
                    have c24b1 : decide (t297.size + t302.size ≤ 9223372036854775807) = true := decide_eq_true c24
                    try have c24b2 : (9223372036854775807 < t297.size + t302.size) = False := eq_false (Nat.not_lt.2 c24)
                    obtain rfl := Option.some.inj H
                    try go_wp2
                    have n0_ := Aside0.mk (below_drew1 HB.out)
                    clear HB
                    have HB := n0_
                    clear n0_
                    refine start_ (n := 18) (S := fun w' => True) (ds := []) #[false, false, false, false, false, false, false, false, false, false, false, false, false, false, false, false, false, false] (by kernel_rfl) rfl rfl trivial (fun hHeld => ?_); refine with_tabW outlawlaw23_AuditTexts.tab11 outlawlaw23_AuditTexts.bits11 (fun HT_ HW_ => ?_)
                    generalize wr.drew = w25 at HB hHeld ⊢
                    refine pure_ (i := 0) (N := some 32) (v := ?_) (a' := ?_) #[true, false, false, false, false, false, false, false, false, false, false, false, false, false, false, false, false, false] rfl rfl (any_of HT_.out (by kernel_rfl)) (fun _ _ _ h => h) (Or.inl ⟨by rfl, ?_⟩) ?_ ?_
                    rotate_left
                    · intro w'
                      go_simp
                      first | with_reducible rfl | (rw [if_neg (by have hm_ : ∀ x : UInt8, (⟨#[x]⟩ : ByteArray).size = 1 := fun _ => rfl; have hm2_ : ∀ x y : UInt8, (⟨#[x, y]⟩ : ByteArray).size = 2 := fun _ _ => rfl; have hm3_ : ∀ x y z : UInt8, (⟨#[x, y, z]⟩ : ByteArray).size = 3 := fun _ _ _ => rfl; (try simp only [ByteArray.size_append, ByteArray.size_extract, hm_, hm2_, hm3_, strOfNums_size]); (try have h_c13b0 := of_eq_true c13b0); (try have h_c14b0 := of_eq_true c14b0); (try have h_c18b0 := of_eq_true c18b0); (try have h_c19b0 := of_eq_true c19b0); (try have h_c21b0 := of_eq_true c21b0); (try have h_c22b0 := of_eq_true c22b0); (try have h_c24b0 := of_eq_true c24b0); (try have h_c13 := c13); (try have h_c14 := c14); (try have h_c24 := c24); (try simp only [ByteArray.size_append, ByteArray.size_extract, hm_, hm2_, hm3_, strOfNums_size, List.size_toArray, List.length_cons, List.length_nil, Nat.zero_add] at h_c13); (try simp only [ByteArray.size_append, ByteArray.size_extract, hm_, hm2_, hm3_, strOfNums_size, List.size_toArray, List.length_cons, List.length_nil, Nat.zero_add] at h_c14); (try simp only [ByteArray.size_append, ByteArray.size_extract, hm_, hm2_, hm3_, strOfNums_size, List.size_toArray, List.length_cons, List.length_nil, Nat.zero_add] at h_c24); omega)]; try with_reducible rfl)
                    rotate_left
                    · simp only [Act.put, List.setIfInBounds_toArray, List.set_cons_zero, List.set_cons_succ, i64_w, i32_w]
                      rfl
                    refine pure_ (i := 2) (N := some 34) (v := ?_) (a' := ?_) #[true, false, true, false, false, false, false, false, false, false, false, false, false, false, false, false, false, false] rfl rfl (any_of HT_.out (by kernel_rfl)) (fun _ _ _ h => h) (Or.inl ⟨by rfl, ?_⟩) ?_ ?_
                    rotate_left
                    · intro w'
                      go_simp
                      first | with_reducible rfl | (rw [if_neg (by have hm_ : ∀ x : UInt8, (⟨#[x]⟩ : ByteArray).size = 1 := fun _ => rfl; have hm2_ : ∀ x y : UInt8, (⟨#[x, y]⟩ : ByteArray).size = 2 := fun _ _ => rfl; have hm3_ : ∀ x y z : UInt8, (⟨#[x, y, z]⟩ : ByteArray).size = 3 := fun _ _ _ => rfl; (try simp only [ByteArray.size_append, ByteArray.size_extract, hm_, hm2_, hm3_, strOfNums_size]); (try have h_c13b0 := of_eq_true c13b0); (try have h_c14b0 := of_eq_true c14b0); (try have h_c18b0 := of_eq_true c18b0); (try have h_c19b0 := of_eq_true c19b0); (try have h_c21b0 := of_eq_true c21b0); (try have h_c22b0 := of_eq_true c22b0); (try have h_c24b0 := of_eq_true c24b0); (try have h_c13 := c13); (try have h_c14 := c14); (try have h_c24 := c24); (try simp only [ByteArray.size_append, ByteArray.size_extract, hm_, hm2_, hm3_, strOfNums_size, List.size_toArray, List.length_cons, List.length_nil, Nat.zero_add] at h_c13); (try simp only [ByteArray.size_append, ByteArray.size_extract, hm_, hm2_, hm3_, strOfNums_size, List.size_toArray, List.length_cons, List.length_nil, Nat.zero_add] at h_c14); (try simp only [ByteArray.size_append, ByteArray.size_extract, hm_, hm2_, hm3_, strOfNums_size, List.size_toArray, List.length_cons, List.length_nil, Nat.zero_add] at h_c24); omega)]; try with_reducible rfl)
                    rotate_left
                    · simp only [Act.put, List.setIfInBounds_toArray, List.set_cons_zero, List.set_cons_succ, i64_w, i32_w]
                      rfl
                    refine one_ (i := 1) (N := some 33) #[true, true, true, false, false, false, false, false, false, false, false, false, false, false, false, false, false, false] rfl rfl (one_of HT_.out (by kernel_rfl)) (by decide) (fun K hK => ?_)
                    refine goes_ Tryd.func11 (by kernel_rfl) rfl #[.slice A0 l0.length c0] (by rfl) rfl rfl (by (try simp only [List.map_toArray, List.map_cons, List.map_nil]); first | done | rfl | (simp only [List.length_drop, List.length_take]; rfl)) ?_
                    with_reducible refine (audit_Text.calls _ _ l0 t292 _ ?side3 ?side1 ?side2 A16.out).mono ?_
                    (case side1 => repeat (first | exact (Kd.C_below HR0.out HB.out) | (with_reducible refine Kd.C_alloc ?_ _) | (with_reducible refine Kd.C_drewN ?_ _) | (with_reducible refine Kd.C_drew ?_)))
                    (case side2 => exact HC0.out)
                    (case side3 => exact Tab.at HTTab_.out (by repeat (first | (with_reducible first | exact HB.out | apply below_alloc | apply pw_below_drewN | apply below_drew1) | exact HB.out)))
                    rintro e w26 ⟨rfl, hb⟩
                    refine ⟨_, rfl, ?_⟩
                    have n0_ := Aside0.mk (below_step (by repeat (first | (with_reducible first | exact HB.out | apply below_alloc | apply pw_below_drewN | apply below_drew1) | exact HB.out)) hb)
                    clear HB
                    have HB := n0_
                    clear n0_
                    (try clear hb)
                    (try clear hb2)
                    (try clear hk)
                    (try clear hi)
                    have q27 : (t289 : Int) ≤ ((l0.length : Int) : Int) := of_decide_eq_true (by first | (with_reducible assumption) | assumption)
                    obtain ⟨i027, hi027, _, hsz27, _⟩ := info_parts info30
                    have hroom27 : l0.length ≤ c0 := HC0.out
                    have hC27 : Kd.C k30 _ A0 l0.length l0 := HR0.out
                    have hcut27 := cut_to (P := Tryd.prog) 22 30 .i64 Tryd.underlying22 hi027 A0 l0.length c0 t289 (of_decide_eq_true (by first | (with_reducible assumption) | assumption)) q27 hroom27
                    have hr27 := Kd.C_take (m := (t289 : Int).toNat) hC27 (by omega)
                    have hy27 : y293.length = (t289 : Int).toNat := (by rw [Ny293.out, List.length_take]; omega)
                    rw [← Ny293.out] at hr27
                    rw [← hy27] at hcut27
                    have HR296 := Aside0.mk hr27
                    have HC296 := Aside0.mk (show y293.length ≤ c0 from by omega)
                    clear hr27 hC27 hroom27 hi027 hsz27
                    have KY27 := Aside0.mk hy27
                    clear hy27
                    replace q27 := eq_true q27
                    refine hK.out _ _ trivial (fun hHeld => ?_)
                    clear hK K
                    refine norm_ (a' := ?_) ?_ ?_
                    rotate_left
                    · show Act.put _ (some 33) _ = _
                      simp only [Act.put, List.setIfInBounds_toArray, List.set_cons_zero, List.set_cons_succ, i64_w, i32_w]
                      rfl
                    refine pure_ (i := 3) (N := some 35) (v := ?_) (a' := ?_) #[true, true, true, true, false, false, false, false, false, false, false, false, false, false, false, false, false, false] rfl rfl (any_of HT_.out (by kernel_rfl)) (fun _ _ _ h => h) (Or.inl ⟨by rfl, ?_⟩) ?_ ?_
                    rotate_left
                    · intro w'
                      go_simp
                      first | with_reducible rfl | (rw [if_neg (by have hm_ : ∀ x : UInt8, (⟨#[x]⟩ : ByteArray).size = 1 := fun _ => rfl; have hm2_ : ∀ x y : UInt8, (⟨#[x, y]⟩ : ByteArray).size = 2 := fun _ _ => rfl; have hm3_ : ∀ x y z : UInt8, (⟨#[x, y, z]⟩ : ByteArray).size = 3 := fun _ _ _ => rfl; (try simp only [ByteArray.size_append, ByteArray.size_extract, hm_, hm2_, hm3_, strOfNums_size]); (try have h_c13b0 := of_eq_true c13b0); (try have h_c14b0 := of_eq_true c14b0); (try have h_c18b0 := of_eq_true c18b0); (try have h_c19b0 := of_eq_true c19b0); (try have h_c21b0 := of_eq_true c21b0); (try have h_c22b0 := of_eq_true c22b0); (try have h_c24b0 := of_eq_true c24b0); (try have h_c13 := c13); (try have h_c14 := c14); (try have h_c24 := c24); (try simp only [ByteArray.size_append, ByteArray.size_extract, hm_, hm2_, hm3_, strOfNums_size, List.size_toArray, List.length_cons, List.length_nil, Nat.zero_add] at h_c13); (try simp only [ByteArray.size_append, ByteArray.size_extract, hm_, hm2_, hm3_, strOfNums_size, List.size_toArray, List.length_cons, List.length_nil, Nat.zero_add] at h_c14); (try simp only [ByteArray.size_append, ByteArray.size_extract, hm_, hm2_, hm3_, strOfNums_size, List.size_toArray, List.length_cons, List.length_nil, Nat.zero_add] at h_c24); omega)]; try with_reducible rfl)
                    rotate_left
                    · simp only [Act.put, List.setIfInBounds_toArray, List.set_cons_zero, List.set_cons_succ, i64_w, i32_w]
                      rfl
                    refine pure_ (i := 4) (N := some 36) (v := ?_) (a' := ?_) #[true, true, true, true, true, false, false, false, false, false, false, false, false, false, false, false, false, false] rfl rfl (any_of HT_.out (by kernel_rfl)) (fun _ _ _ h => h) (Or.inl ⟨by rfl, ?_⟩) ?_ ?_
                    rotate_left
                    · intro w'
                      go_simp
                      first | with_reducible rfl | (rw [if_neg (by have hm_ : ∀ x : UInt8, (⟨#[x]⟩ : ByteArray).size = 1 := fun _ => rfl; have hm2_ : ∀ x y : UInt8, (⟨#[x, y]⟩ : ByteArray).size = 2 := fun _ _ => rfl; have hm3_ : ∀ x y z : UInt8, (⟨#[x, y, z]⟩ : ByteArray).size = 3 := fun _ _ _ => rfl; (try simp only [ByteArray.size_append, ByteArray.size_extract, hm_, hm2_, hm3_, strOfNums_size]); (try have h_c13b0 := of_eq_true c13b0); (try have h_c14b0 := of_eq_true c14b0); (try have h_c18b0 := of_eq_true c18b0); (try have h_c19b0 := of_eq_true c19b0); (try have h_c21b0 := of_eq_true c21b0); (try have h_c22b0 := of_eq_true c22b0); (try have h_c24b0 := of_eq_true c24b0); (try have h_c13 := c13); (try have h_c14 := c14); (try have h_c24 := c24); (try simp only [ByteArray.size_append, ByteArray.size_extract, hm_, hm2_, hm3_, strOfNums_size, List.size_toArray, List.length_cons, List.length_nil, Nat.zero_add] at h_c13); (try simp only [ByteArray.size_append, ByteArray.size_extract, hm_, hm2_, hm3_, strOfNums_size, List.size_toArray, List.length_cons, List.length_nil, Nat.zero_add] at h_c14); (try simp only [ByteArray.size_append, ByteArray.size_extract, hm_, hm2_, hm3_, strOfNums_size, List.size_toArray, List.length_cons, List.length_nil, Nat.zero_add] at h_c24); omega)]; try with_reducible rfl)
                    rotate_left
                    · simp only [Act.put, List.setIfInBounds_toArray, List.set_cons_zero, List.set_cons_succ, i64_w, i32_w]
                      rfl
                    refine pure_ (i := 5) (N := some 37) (v := ?_) (a' := ?_) #[true, true, true, true, true, true, false, false, false, false, false, false, false, false, false, false, false, false] rfl rfl (any_of HT_.out (by kernel_rfl)) (fun _ _ _ h => h) (Or.inl ⟨by rfl, ?_⟩) ?_ ?_
                    rotate_left
                    · intro w'
                      go_simp
                      first | with_reducible rfl | (rw [if_neg (by have hm_ : ∀ x : UInt8, (⟨#[x]⟩ : ByteArray).size = 1 := fun _ => rfl; have hm2_ : ∀ x y : UInt8, (⟨#[x, y]⟩ : ByteArray).size = 2 := fun _ _ => rfl; have hm3_ : ∀ x y z : UInt8, (⟨#[x, y, z]⟩ : ByteArray).size = 3 := fun _ _ _ => rfl; (try simp only [ByteArray.size_append, ByteArray.size_extract, hm_, hm2_, hm3_, strOfNums_size]); (try have h_c13b0 := of_eq_true c13b0); (try have h_c14b0 := of_eq_true c14b0); (try have h_c18b0 := of_eq_true c18b0); (try have h_c19b0 := of_eq_true c19b0); (try have h_c21b0 := of_eq_true c21b0); (try have h_c22b0 := of_eq_true c22b0); (try have h_c24b0 := of_eq_true c24b0); (try have h_c13 := c13); (try have h_c14 := c14); (try have h_c24 := c24); (try simp only [ByteArray.size_append, ByteArray.size_extract, hm_, hm2_, hm3_, strOfNums_size, List.size_toArray, List.length_cons, List.length_nil, Nat.zero_add] at h_c13); (try simp only [ByteArray.size_append, ByteArray.size_extract, hm_, hm2_, hm3_, strOfNums_size, List.size_toArray, List.length_cons, List.length_nil, Nat.zero_add] at h_c14); (try simp only [ByteArray.size_append, ByteArray.size_extract, hm_, hm2_, hm3_, strOfNums_size, List.size_toArray, List.length_cons, List.length_nil, Nat.zero_add] at h_c24); omega)]; try with_reducible rfl)
                    rotate_left
                    · simp only [Act.put, List.setIfInBounds_toArray, List.set_cons_zero, List.set_cons_succ, i64_w, i32_w]
                      rfl
                    refine pure_ (i := 6) (N := some 38) (v := ?_) (a' := ?_) #[true, true, true, true, true, true, true, false, false, false, false, false, false, false, false, false, false, false] rfl rfl (any_of HT_.out (by kernel_rfl)) (fun _ _ _ h => h) (Or.inl ⟨by rfl, ?_⟩) ?_ ?_
                    rotate_left
                    · intro w'
                      go_simp
                      first | with_reducible rfl | (rw [if_neg (by have hm_ : ∀ x : UInt8, (⟨#[x]⟩ : ByteArray).size = 1 := fun _ => rfl; have hm2_ : ∀ x y : UInt8, (⟨#[x, y]⟩ : ByteArray).size = 2 := fun _ _ => rfl; have hm3_ : ∀ x y z : UInt8, (⟨#[x, y, z]⟩ : ByteArray).size = 3 := fun _ _ _ => rfl; (try simp only [ByteArray.size_append, ByteArray.size_extract, hm_, hm2_, hm3_, strOfNums_size]); (try have h_c13b0 := of_eq_true c13b0); (try have h_c14b0 := of_eq_true c14b0); (try have h_c18b0 := of_eq_true c18b0); (try have h_c19b0 := of_eq_true c19b0); (try have h_c21b0 := of_eq_true c21b0); (try have h_c22b0 := of_eq_true c22b0); (try have h_c24b0 := of_eq_true c24b0); (try have h_c13 := c13); (try have h_c14 := c14); (try have h_c24 := c24); (try simp only [ByteArray.size_append, ByteArray.size_extract, hm_, hm2_, hm3_, strOfNums_size, List.size_toArray, List.length_cons, List.length_nil, Nat.zero_add] at h_c13); (try simp only [ByteArray.size_append, ByteArray.size_extract, hm_, hm2_, hm3_, strOfNums_size, List.size_toArray, List.length_cons, List.length_nil, Nat.zero_add] at h_c14); (try simp only [ByteArray.size_append, ByteArray.size_extract, hm_, hm2_, hm3_, strOfNums_size, List.size_toArray, List.length_cons, List.length_nil, Nat.zero_add] at h_c24); omega)]; try with_reducible rfl)
                    rotate_left
                    · simp only [Act.put, List.setIfInBounds_toArray, List.set_cons_zero, List.set_cons_succ, i64_w, i32_w]
                      rfl
                    refine pure_ (i := 7) (N := some 39) (v := ?_) (a' := ?_) #[true, true, true, true, true, true, true, true, false, false, false, false, false, false, false, false, false, false] rfl rfl (any_of HT_.out (by kernel_rfl)) (fun _ _ _ h => h) (Or.inl ⟨by rfl, ?_⟩) ?_ ?_
                    rotate_left
                    · intro w'
                      go_simp
                      first | with_reducible rfl | (rw [if_neg (by have hm_ : ∀ x : UInt8, (⟨#[x]⟩ : ByteArray).size = 1 := fun _ => rfl; have hm2_ : ∀ x y : UInt8, (⟨#[x, y]⟩ : ByteArray).size = 2 := fun _ _ => rfl; have hm3_ : ∀ x y z : UInt8, (⟨#[x, y, z]⟩ : ByteArray).size = 3 := fun _ _ _ => rfl; (try simp only [ByteArray.size_append, ByteArray.size_extract, hm_, hm2_, hm3_, strOfNums_size]); (try have h_c13b0 := of_eq_true c13b0); (try have h_c14b0 := of_eq_true c14b0); (try have h_c18b0 := of_eq_true c18b0); (try have h_c19b0 := of_eq_true c19b0); (try have h_c21b0 := of_eq_true c21b0); (try have h_c22b0 := of_eq_true c22b0); (try have h_c24b0 := of_eq_true c24b0); (try have h_c13 := c13); (try have h_c14 := c14); (try have h_c24 := c24); (try simp only [ByteArray.size_append, ByteArray.size_extract, hm_, hm2_, hm3_, strOfNums_size, List.size_toArray, List.length_cons, List.length_nil, Nat.zero_add] at h_c13); (try simp only [ByteArray.size_append, ByteArray.size_extract, hm_, hm2_, hm3_, strOfNums_size, List.size_toArray, List.length_cons, List.length_nil, Nat.zero_add] at h_c14); (try simp only [ByteArray.size_append, ByteArray.size_extract, hm_, hm2_, hm3_, strOfNums_size, List.size_toArray, List.length_cons, List.length_nil, Nat.zero_add] at h_c24); omega)]; try with_reducible rfl)
                    rotate_left
                    · simp only [Act.put, List.setIfInBounds_toArray, List.set_cons_zero, List.set_cons_succ, i64_w, i32_w]
                      rfl
                    refine pure_ (i := 9) (N := some 41) (v := ?_) (a' := ?_) #[true, true, true, true, true, true, true, true, false, true, false, false, false, false, false, false, false, false] rfl rfl (any_of HT_.out (by kernel_rfl)) (fun _ _ _ h => h) (Or.inl ⟨by rfl, ?_⟩) ?_ ?_
                    rotate_left
                    · intro w'
                      go_simp
                      first | with_reducible rfl | (rw [if_neg (by have hm_ : ∀ x : UInt8, (⟨#[x]⟩ : ByteArray).size = 1 := fun _ => rfl; have hm2_ : ∀ x y : UInt8, (⟨#[x, y]⟩ : ByteArray).size = 2 := fun _ _ => rfl; have hm3_ : ∀ x y z : UInt8, (⟨#[x, y, z]⟩ : ByteArray).size = 3 := fun _ _ _ => rfl; (try simp only [ByteArray.size_append, ByteArray.size_extract, hm_, hm2_, hm3_, strOfNums_size]); (try have h_c13b0 := of_eq_true c13b0); (try have h_c14b0 := of_eq_true c14b0); (try have h_c18b0 := of_eq_true c18b0); (try have h_c19b0 := of_eq_true c19b0); (try have h_c21b0 := of_eq_true c21b0); (try have h_c22b0 := of_eq_true c22b0); (try have h_c24b0 := of_eq_true c24b0); (try have h_c13 := c13); (try have h_c14 := c14); (try have h_c24 := c24); (try simp only [ByteArray.size_append, ByteArray.size_extract, hm_, hm2_, hm3_, strOfNums_size, List.size_toArray, List.length_cons, List.length_nil, Nat.zero_add] at h_c13); (try simp only [ByteArray.size_append, ByteArray.size_extract, hm_, hm2_, hm3_, strOfNums_size, List.size_toArray, List.length_cons, List.length_nil, Nat.zero_add] at h_c14); (try simp only [ByteArray.size_append, ByteArray.size_extract, hm_, hm2_, hm3_, strOfNums_size, List.size_toArray, List.length_cons, List.length_nil, Nat.zero_add] at h_c24); omega)]; try with_reducible rfl)
                    rotate_left
                    · simp only [Act.put, List.setIfInBounds_toArray, List.set_cons_zero, List.set_cons_succ, i64_w, i32_w]
                      rfl
                    refine pure_ (i := 10) (N := some 42) (v := ?_) (a' := ?_) #[true, true, true, true, true, true, true, true, false, true, true, false, false, false, false, false, false, false] rfl rfl (any_of HT_.out (by kernel_rfl)) (fun _ _ _ h => h) (Or.inl ⟨by rfl, ?_⟩) ?_ ?_
                    rotate_left
                    · intro w'
                      go_simp
                      first | with_reducible rfl | (rw [if_neg (by have hm_ : ∀ x : UInt8, (⟨#[x]⟩ : ByteArray).size = 1 := fun _ => rfl; have hm2_ : ∀ x y : UInt8, (⟨#[x, y]⟩ : ByteArray).size = 2 := fun _ _ => rfl; have hm3_ : ∀ x y z : UInt8, (⟨#[x, y, z]⟩ : ByteArray).size = 3 := fun _ _ _ => rfl; (try simp only [ByteArray.size_append, ByteArray.size_extract, hm_, hm2_, hm3_, strOfNums_size]); (try have h_c13b0 := of_eq_true c13b0); (try have h_c14b0 := of_eq_true c14b0); (try have h_c18b0 := of_eq_true c18b0); (try have h_c19b0 := of_eq_true c19b0); (try have h_c21b0 := of_eq_true c21b0); (try have h_c22b0 := of_eq_true c22b0); (try have h_c24b0 := of_eq_true c24b0); (try have h_c13 := c13); (try have h_c14 := c14); (try have h_c24 := c24); (try simp only [ByteArray.size_append, ByteArray.size_extract, hm_, hm2_, hm3_, strOfNums_size, List.size_toArray, List.length_cons, List.length_nil, Nat.zero_add] at h_c13); (try simp only [ByteArray.size_append, ByteArray.size_extract, hm_, hm2_, hm3_, strOfNums_size, List.size_toArray, List.length_cons, List.length_nil, Nat.zero_add] at h_c14); (try simp only [ByteArray.size_append, ByteArray.size_extract, hm_, hm2_, hm3_, strOfNums_size, List.size_toArray, List.length_cons, List.length_nil, Nat.zero_add] at h_c24); omega)]; try with_reducible rfl)
                    rotate_left
                    · simp only [Act.put, List.setIfInBounds_toArray, List.set_cons_zero, List.set_cons_succ, i64_w, i32_w]
                      rfl
                    have q29 : (t289 : Int) ≤ ((l0.length : Int) : Int) := of_decide_eq_true (by first | (with_reducible assumption) | assumption)
                    obtain ⟨i029, hi029, _, hsz29, _⟩ := info_parts info30
                    have hroom29 : l0.length ≤ c0 := HC0.out
                    have hC29 : Kd.C k30 _ A0 l0.length l0 := HR0.out
                    have q029 : (0 : Int) ≤ (t289 : Int) := of_decide_eq_true (by first | (with_reducible assumption) | assumption)
                    have hcut29 := cut_from (P := Tryd.prog) 22 30 .i64 Tryd.underlying22 hi029 9 hsz29 A0 l0.length c0 t289 q029 q29
                    have hr29 := Kd.C_drop (m := (t289 : Int).toNat) (c := c0) hC29 (by omega) hroom29
                    obtain ⟨A29, hA29⟩ : ∃ A1, A1 = (if c0 = (t289 : Int).toNat then A0 else (A0 : Option Addr).map (·.add ((t289 : Int).toNat * 9))) := ⟨_, rfl⟩
                    obtain ⟨c29, hc29⟩ : ∃ c1, c1 = c0 - (t289 : Int).toNat := ⟨_, rfl⟩
                    have hy29 : y298.length = l0.length - (t289 : Int).toNat := (by rw [Ny298.out, List.length_drop] <;> omega)
                    rw [show (l0).drop (t289 : Int).toNat = y298 from Ny298.out.symm] at hr29
                    replace hr29 : Kd.C k30 _ A29 y298.length y298 := (by rw [hA29]; exact hr29)
                    rw [← hy29, ← hA29, ← hc29] at hcut29
                    have HR301 := Aside0.mk hr29
                    have HC301 := Aside0.mk (show y298.length ≤ c29 from by rw [hy29, hc29]; exact Nat.sub_le_sub_right hroom29 _)
                    have KC29 := Aside0.mk hc29
                    clear hr29 hC29 hroom29 hi029 hsz29 hc29
                    have KY29 := Aside0.mk hy29
                    have KA29 := Aside0.mk hA29
                    clear hy29 hA29
                    replace q29 := eq_true q29
                    refine pure_ (i := 11) (N := some 43) (v := ?_) (a' := ?_) #[true, true, true, true, true, true, true, true, false, true, true, true, false, false, false, false, false, false] rfl rfl (any_of HT_.out (by kernel_rfl)) (fun _ _ _ h => h) (Or.inl ⟨by rfl, ?_⟩) ?_ ?_
                    rotate_left
                    · intro w'
                      go_simp
                      first | with_reducible rfl | (rw [if_neg (by have hm_ : ∀ x : UInt8, (⟨#[x]⟩ : ByteArray).size = 1 := fun _ => rfl; have hm2_ : ∀ x y : UInt8, (⟨#[x, y]⟩ : ByteArray).size = 2 := fun _ _ => rfl; have hm3_ : ∀ x y z : UInt8, (⟨#[x, y, z]⟩ : ByteArray).size = 3 := fun _ _ _ => rfl; (try simp only [ByteArray.size_append, ByteArray.size_extract, hm_, hm2_, hm3_, strOfNums_size]); (try have h_c13b0 := of_eq_true c13b0); (try have h_c14b0 := of_eq_true c14b0); (try have h_c18b0 := of_eq_true c18b0); (try have h_c19b0 := of_eq_true c19b0); (try have h_c21b0 := of_eq_true c21b0); (try have h_c22b0 := of_eq_true c22b0); (try have h_c24b0 := of_eq_true c24b0); (try have h_c13 := c13); (try have h_c14 := c14); (try have h_c24 := c24); (try simp only [ByteArray.size_append, ByteArray.size_extract, hm_, hm2_, hm3_, strOfNums_size, List.size_toArray, List.length_cons, List.length_nil, Nat.zero_add] at h_c13); (try simp only [ByteArray.size_append, ByteArray.size_extract, hm_, hm2_, hm3_, strOfNums_size, List.size_toArray, List.length_cons, List.length_nil, Nat.zero_add] at h_c14); (try simp only [ByteArray.size_append, ByteArray.size_extract, hm_, hm2_, hm3_, strOfNums_size, List.size_toArray, List.length_cons, List.length_nil, Nat.zero_add] at h_c24); omega)]; try with_reducible rfl)
                    rotate_left
                    · simp only [Act.put, List.setIfInBounds_toArray, List.set_cons_zero, List.set_cons_succ, i64_w, i32_w]
                      rfl
                    refine pure_ (i := 14) (N := some 46) (v := ?_) (a' := ?_) #[true, true, true, true, true, true, true, true, false, true, true, true, false, false, true, false, false, false] rfl rfl (any_of HT_.out (by kernel_rfl)) (fun _ _ _ h => h) (Or.inl ⟨by rfl, ?_⟩) ?_ ?_
                    rotate_left
                    · intro w'
                      go_simp
                      first | with_reducible rfl | (rw [if_neg (by have hm_ : ∀ x : UInt8, (⟨#[x]⟩ : ByteArray).size = 1 := fun _ => rfl; have hm2_ : ∀ x y : UInt8, (⟨#[x, y]⟩ : ByteArray).size = 2 := fun _ _ => rfl; have hm3_ : ∀ x y z : UInt8, (⟨#[x, y, z]⟩ : ByteArray).size = 3 := fun _ _ _ => rfl; (try simp only [ByteArray.size_append, ByteArray.size_extract, hm_, hm2_, hm3_, strOfNums_size]); (try have h_c13b0 := of_eq_true c13b0); (try have h_c14b0 := of_eq_true c14b0); (try have h_c18b0 := of_eq_true c18b0); (try have h_c19b0 := of_eq_true c19b0); (try have h_c21b0 := of_eq_true c21b0); (try have h_c22b0 := of_eq_true c22b0); (try have h_c24b0 := of_eq_true c24b0); (try have h_c13 := c13); (try have h_c14 := c14); (try have h_c24 := c24); (try simp only [ByteArray.size_append, ByteArray.size_extract, hm_, hm2_, hm3_, strOfNums_size, List.size_toArray, List.length_cons, List.length_nil, Nat.zero_add] at h_c13); (try simp only [ByteArray.size_append, ByteArray.size_extract, hm_, hm2_, hm3_, strOfNums_size, List.size_toArray, List.length_cons, List.length_nil, Nat.zero_add] at h_c14); (try simp only [ByteArray.size_append, ByteArray.size_extract, hm_, hm2_, hm3_, strOfNums_size, List.size_toArray, List.length_cons, List.length_nil, Nat.zero_add] at h_c24); omega)]; try with_reducible rfl)
                    rotate_left
                    · simp only [Act.put, List.setIfInBounds_toArray, List.set_cons_zero, List.set_cons_succ, i64_w, i32_w]
                      rfl
                    refine one_ (i := 8) (N := some 40) #[true, true, true, true, true, true, true, true, true, true, true, true, false, false, true, false, false, false] rfl rfl (one_of HT_.out (by kernel_rfl)) (by decide) (fun K hK => ?_)
                    refine goes_ Tryd.func11 (by kernel_rfl) rfl #[.slice A0 y293.length c0] (by rfl) rfl rfl (by (try simp only [List.map_toArray, List.map_cons, List.map_nil]); first | done | rfl | (simp only [List.length_drop, List.length_take]; rfl)) ?_
                    with_reducible refine (audit_Text.calls _ _ y293 t297 _ ?side3 ?side1 ?side2 A20.out).mono ?_
                    (case side1 => repeat (first | exact (Kd.C_below HR296.out HB.out) | (with_reducible refine Kd.C_alloc ?_ _) | (with_reducible refine Kd.C_drewN ?_ _) | (with_reducible refine Kd.C_drew ?_)))
                    (case side2 => exact HC296.out)
                    (case side3 => exact Tab.at HTTab_.out (by repeat (first | (with_reducible first | exact HB.out | apply below_alloc | apply pw_below_drewN | apply below_drew1) | exact HB.out)))
                    rintro e w28 ⟨rfl, hb⟩
                    refine ⟨_, rfl, ?_⟩
                    have n0_ := Aside0.mk (below_step (by repeat (first | (with_reducible first | exact HB.out | apply below_alloc | apply pw_below_drewN | apply below_drew1) | exact HB.out)) hb)
                    clear HB
                    have HB := n0_
                    clear n0_
                    (try clear hb)
                    (try clear hb2)
                    (try clear hk)
                    (try clear hi)
                    refine hK.out _ _ trivial (fun hHeld => ?_)
                    clear hK K
                    refine norm_ (a' := ?_) ?_ ?_
                    rotate_left
                    · show Act.put _ (some 40) _ = _
                      simp only [Act.put, List.setIfInBounds_toArray, List.set_cons_zero, List.set_cons_succ, i64_w, i32_w]
                      rfl
                    refine one_ (i := 12) (N := some 44) #[true, true, true, true, true, true, true, true, true, true, true, true, true, false, true, false, false, false] rfl rfl (one_of HT_.out (by kernel_rfl)) (by decide) (fun K hK => ?_)
                    refine goes_ Tryd.func11 (by kernel_rfl) rfl #[.slice A29 y298.length c29] (by rfl) rfl rfl (by (try simp only [List.map_toArray, List.map_cons, List.map_nil]); first | done | rfl | (simp only [List.length_drop, List.length_take]; rfl)) ?_
                    with_reducible refine (audit_Text.calls _ _ y298 t302 _ ?side3 ?side1 ?side2 A23.out).mono ?_
                    (case side1 => repeat (first | exact (Kd.C_below HR301.out HB.out) | (with_reducible refine Kd.C_alloc ?_ _) | (with_reducible refine Kd.C_drewN ?_ _) | (with_reducible refine Kd.C_drew ?_)))
                    (case side2 => exact HC301.out)
                    (case side3 => exact Tab.at HTTab_.out (by repeat (first | (with_reducible first | exact HB.out | apply below_alloc | apply pw_below_drewN | apply below_drew1) | exact HB.out)))
                    rintro e w30 ⟨rfl, hb⟩
                    refine ⟨_, rfl, ?_⟩
                    have n0_ := Aside0.mk (below_step (by repeat (first | (with_reducible first | exact HB.out | apply below_alloc | apply pw_below_drewN | apply below_drew1) | exact HB.out)) hb)
                    clear HB
                    have HB := n0_
                    clear n0_
                    (try clear hb)
                    (try clear hb2)
                    (try clear hk)
                    (try clear hi)
                    refine hK.out _ _ trivial (fun hHeld => ?_)
                    clear hK K
                    refine norm_ (a' := ?_) ?_ ?_
                    rotate_left
                    · show Act.put _ (some 44) _ = _
                      simp only [Act.put, List.setIfInBounds_toArray, List.set_cons_zero, List.set_cons_succ, i64_w, i32_w]
                      rfl
                    refine pure_ (i := 13) (N := some 45) (v := ?_) (a' := ?_) #[true, true, true, true, true, true, true, true, true, true, true, true, true, true, true, false, false, false] rfl rfl (any_of HT_.out (by kernel_rfl)) (fun _ _ _ h => h) (Or.inl ⟨by rfl, ?_⟩) ?_ ?_
                    rotate_left
                    · intro w'
                      go_simp
                      first | with_reducible rfl | (rw [if_neg (by have hm_ : ∀ x : UInt8, (⟨#[x]⟩ : ByteArray).size = 1 := fun _ => rfl; have hm2_ : ∀ x y : UInt8, (⟨#[x, y]⟩ : ByteArray).size = 2 := fun _ _ => rfl; have hm3_ : ∀ x y z : UInt8, (⟨#[x, y, z]⟩ : ByteArray).size = 3 := fun _ _ _ => rfl; (try simp only [ByteArray.size_append, ByteArray.size_extract, hm_, hm2_, hm3_, strOfNums_size]); (try have h_c13b0 := of_eq_true c13b0); (try have h_c14b0 := of_eq_true c14b0); (try have h_c18b0 := of_eq_true c18b0); (try have h_c19b0 := of_eq_true c19b0); (try have h_c21b0 := of_eq_true c21b0); (try have h_c22b0 := of_eq_true c22b0); (try have h_c24b0 := of_eq_true c24b0); (try have h_c13 := c13); (try have h_c14 := c14); (try have h_c24 := c24); (try simp only [ByteArray.size_append, ByteArray.size_extract, hm_, hm2_, hm3_, strOfNums_size, List.size_toArray, List.length_cons, List.length_nil, Nat.zero_add] at h_c13); (try simp only [ByteArray.size_append, ByteArray.size_extract, hm_, hm2_, hm3_, strOfNums_size, List.size_toArray, List.length_cons, List.length_nil, Nat.zero_add] at h_c14); (try simp only [ByteArray.size_append, ByteArray.size_extract, hm_, hm2_, hm3_, strOfNums_size, List.size_toArray, List.length_cons, List.length_nil, Nat.zero_add] at h_c24); omega)]; try with_reducible rfl)
                    rotate_left
                    · simp only [Act.put, List.setIfInBounds_toArray, List.set_cons_zero, List.set_cons_succ, i64_w, i32_w]
                      rfl
                    refine pure_ (i := 15) (N := some 47) (v := ?_) (a' := ?_) #[true, true, true, true, true, true, true, true, true, true, true, true, true, true, true, true, false, false] rfl rfl (any_of HT_.out (by kernel_rfl)) (fun _ _ _ h => h) (Or.inl ⟨by rfl, ?_⟩) ?_ ?_
                    rotate_left
                    · intro w'
                      go_simp
                      first | with_reducible rfl | (rw [if_neg (by have hm_ : ∀ x : UInt8, (⟨#[x]⟩ : ByteArray).size = 1 := fun _ => rfl; have hm2_ : ∀ x y : UInt8, (⟨#[x, y]⟩ : ByteArray).size = 2 := fun _ _ => rfl; have hm3_ : ∀ x y z : UInt8, (⟨#[x, y, z]⟩ : ByteArray).size = 3 := fun _ _ _ => rfl; (try simp only [ByteArray.size_append, ByteArray.size_extract, hm_, hm2_, hm3_, strOfNums_size]); (try have h_c13b0 := of_eq_true c13b0); (try have h_c14b0 := of_eq_true c14b0); (try have h_c18b0 := of_eq_true c18b0); (try have h_c19b0 := of_eq_true c19b0); (try have h_c21b0 := of_eq_true c21b0); (try have h_c22b0 := of_eq_true c22b0); (try have h_c24b0 := of_eq_true c24b0); (try have h_c13 := c13); (try have h_c14 := c14); (try have h_c24 := c24); (try simp only [ByteArray.size_append, ByteArray.size_extract, hm_, hm2_, hm3_, strOfNums_size, List.size_toArray, List.length_cons, List.length_nil, Nat.zero_add] at h_c13); (try simp only [ByteArray.size_append, ByteArray.size_extract, hm_, hm2_, hm3_, strOfNums_size, List.size_toArray, List.length_cons, List.length_nil, Nat.zero_add] at h_c14); (try simp only [ByteArray.size_append, ByteArray.size_extract, hm_, hm2_, hm3_, strOfNums_size, List.size_toArray, List.length_cons, List.length_nil, Nat.zero_add] at h_c24); omega)]; try with_reducible rfl)
                    rotate_left
                    · simp only [Act.put, List.setIfInBounds_toArray, List.set_cons_zero, List.set_cons_succ, i64_w, i32_w]
                      rfl
                    refine pure_ (i := 16) (N := some 48) (v := ?_) (a' := ?_) #[true, true, true, true, true, true, true, true, true, true, true, true, true, true, true, true, true, false] rfl rfl (any_of HT_.out (by kernel_rfl)) (fun _ _ _ h => h) (Or.inl ⟨by rfl, ?_⟩) ?_ ?_
                    rotate_left
                    · intro w'
                      go_simp
                      first | with_reducible rfl | (rw [if_neg (by have hm_ : ∀ x : UInt8, (⟨#[x]⟩ : ByteArray).size = 1 := fun _ => rfl; have hm2_ : ∀ x y : UInt8, (⟨#[x, y]⟩ : ByteArray).size = 2 := fun _ _ => rfl; have hm3_ : ∀ x y z : UInt8, (⟨#[x, y, z]⟩ : ByteArray).size = 3 := fun _ _ _ => rfl; (try simp only [ByteArray.size_append, ByteArray.size_extract, hm_, hm2_, hm3_, strOfNums_size]); (try have h_c13b0 := of_eq_true c13b0); (try have h_c14b0 := of_eq_true c14b0); (try have h_c18b0 := of_eq_true c18b0); (try have h_c19b0 := of_eq_true c19b0); (try have h_c21b0 := of_eq_true c21b0); (try have h_c22b0 := of_eq_true c22b0); (try have h_c24b0 := of_eq_true c24b0); (try have h_c13 := c13); (try have h_c14 := c14); (try have h_c24 := c24); (try simp only [ByteArray.size_append, ByteArray.size_extract, hm_, hm2_, hm3_, strOfNums_size, List.size_toArray, List.length_cons, List.length_nil, Nat.zero_add] at h_c13); (try simp only [ByteArray.size_append, ByteArray.size_extract, hm_, hm2_, hm3_, strOfNums_size, List.size_toArray, List.length_cons, List.length_nil, Nat.zero_add] at h_c14); (try simp only [ByteArray.size_append, ByteArray.size_extract, hm_, hm2_, hm3_, strOfNums_size, List.size_toArray, List.length_cons, List.length_nil, Nat.zero_add] at h_c24); omega)]; try with_reducible rfl)
                    rotate_left
                    · simp only [Act.put, List.setIfInBounds_toArray, List.set_cons_zero, List.set_cons_succ, i64_w, i32_w]
                      rfl
                    refine pure_ (i := 17) (N := some 4) (v := ?_) (a' := ?_) #[true, true, true, true, true, true, true, true, true, true, true, true, true, true, true, true, true, true] rfl rfl (any_of HT_.out (by kernel_rfl)) (fun _ _ _ h => h) (Or.inl ⟨by rfl, ?_⟩) ?_ ?_
                    rotate_left
                    · intro w'
                      go_simp
                      first | with_reducible rfl | (rw [if_neg (by have hm_ : ∀ x : UInt8, (⟨#[x]⟩ : ByteArray).size = 1 := fun _ => rfl; have hm2_ : ∀ x y : UInt8, (⟨#[x, y]⟩ : ByteArray).size = 2 := fun _ _ => rfl; have hm3_ : ∀ x y z : UInt8, (⟨#[x, y, z]⟩ : ByteArray).size = 3 := fun _ _ _ => rfl; (try simp only [ByteArray.size_append, ByteArray.size_extract, hm_, hm2_, hm3_, strOfNums_size]); (try have h_c13b0 := of_eq_true c13b0); (try have h_c14b0 := of_eq_true c14b0); (try have h_c18b0 := of_eq_true c18b0); (try have h_c19b0 := of_eq_true c19b0); (try have h_c21b0 := of_eq_true c21b0); (try have h_c22b0 := of_eq_true c22b0); (try have h_c24b0 := of_eq_true c24b0); (try have h_c13 := c13); (try have h_c14 := c14); (try have h_c24 := c24); (try simp only [ByteArray.size_append, ByteArray.size_extract, hm_, hm2_, hm3_, strOfNums_size, List.size_toArray, List.length_cons, List.length_nil, Nat.zero_add] at h_c13); (try simp only [ByteArray.size_append, ByteArray.size_extract, hm_, hm2_, hm3_, strOfNums_size, List.size_toArray, List.length_cons, List.length_nil, Nat.zero_add] at h_c14); (try simp only [ByteArray.size_append, ByteArray.size_extract, hm_, hm2_, hm3_, strOfNums_size, List.size_toArray, List.length_cons, List.length_nil, Nat.zero_add] at h_c24); omega)]; try with_reducible rfl)
                    rotate_left
                    · simp only [Act.put, List.setIfInBounds_toArray, List.set_cons_zero, List.set_cons_succ, i64_w, i32_w]
                      rfl
                    refine done_ (done_of HT_.out (by kernel_rfl)) ?_
                    try go_wp2
                    go_ret
                    exact ⟨by first | rfl | (simp [errW_none, errW_some] <;> rfl) | (simp [*, errW_none, errW_some] <;> rfl), by repeat (first | (with_reducible first | exact HB.out | apply below_alloc | apply pw_below_drewN | apply below_drew1) | exact HB.out)⟩
                  · rw [if_neg c24] at H
                    exact absurd H (by simp)
                · rw [if_neg c19] at H
                  exact absurd H (by simp)
              · rw [if_neg c18] at H
                exact absurd H (by simp)
            · rw [if_neg c17] at H
              have c17b0 : (t292.toList == x6_1.toList) = false := beq_eq_false_iff_ne.mpr c17
              have c17b1 : (t292.toList != x6_1.toList) = true := bne_iff_ne.mpr c17
              exact absurd ((Option.some.inj H).trans hr_.out) (by decide)
    · replace c6 := Bool.eq_false_iff.mpr c6
      subst c6
      have H1 : (some true) = some r := by rw [if_neg (show ¬ (false = true) by decide)] at H; exact H
      clear H
      have H := H1
      clear H1
      obtain rfl := Option.some.inj H
      go_enter Tryd.func3, Tryd.ntmps3
      go_wp2_with (first | ((with_reducible refine gate_callee (f := 7) rfl ?_); refine goesL_ (some 8) rfl rfl Tryd.func7 (by kernel_rfl) rfl #[] rfl (by (try simp only [List.map_toArray, List.map_cons, List.map_nil]); first | done | rfl | (simp only [List.length_drop, List.length_take]; rfl)) ?_; (with_reducible refine (outlawlaw23_lives.calls k  true _ A3.out).mono ?_); rintro e w31 ⟨rfl, hb⟩; refine ⟨_, rfl, ?_⟩; have n0_ := Aside0.mk (below_step (by repeat (first | (with_reducible first | exact HB.out | apply below_alloc | apply pw_below_drewN | apply below_drew1) | exact HB.out)) hb); clear HB; have HB := n0_; clear n0_; (try clear hb); (try clear hb2); (try clear hk); (try clear hi)) | ((with_reducible refine gate_callee (f := 8) rfl ?_); refine goesL_ (some 11) rfl rfl Tryd.func8 (by kernel_rfl) rfl #[.slice A0 l0.length c0, .int .i64 60] rfl (by (try simp only [List.map_toArray, List.map_cons, List.map_nil]); first | done | rfl | (simp only [List.length_drop, List.length_take]; rfl)) ?_; (with_reducible refine (outlawkit_LightNotes.calls k _ _ l0 60 false _ ?side1 ?side2 A5.out).mono ?_); (case side1 => repeat (first | exact (Kd.C_below HR0.out HB.out) | (with_reducible refine Kd.C_alloc ?_ _) | (with_reducible refine Kd.C_drewN ?_ _) | (with_reducible refine Kd.C_drew ?_))); (case side2 => exact HC0.out); rintro e w32 ⟨rfl, hb⟩; refine ⟨_, rfl, ?_⟩; have n0_ := Aside0.mk (below_step (by repeat (first | (with_reducible first | exact HB.out | apply below_alloc | apply pw_below_drewN | apply below_drew1) | exact HB.out)) hb); clear HB; have HB := n0_; clear n0_; (try clear hb); (try clear hb2); (try clear hk); (try clear hi)))
      go_ret
      exact ⟨by first | rfl | (simp [errW_none, errW_some] <;> rfl) | (simp [*, errW_none, errW_some] <;> rfl), by repeat (first | (with_reducible first | exact HB.out | apply below_alloc | apply pw_below_drewN | apply below_drew1) | exact HB.out)⟩
  · replace c4 := Bool.eq_false_iff.mpr c4
    subst c4
    have H1 : (some false) = some r := by rw [if_neg (show ¬ (false = true) by decide)] at H; exact H
    clear H
    have H := H1
    clear H1
    exact absurd ((Option.some.inj H).trans hr_.out) (by decide)

end Go.Proofs.YtlmhgnkkdjpkcaaDoor.PA
