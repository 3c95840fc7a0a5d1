import Derived.Test.YtlmhgnkkdjpkcaaDoorWm
import Derived.Test.YtlmhgnkkdjpkcaaDoorPAx0m
import Derived.Test.YtlmhgnkkdjpkcaaDoorPAx3
import Derived.Test.YtlmhgnkkdjpkcaaDoorB3
import Derived.Test.YtlmhgnkkdjpkcaaDoorB5
namespace Go.Proofs.YtlmhgnkkdjpkcaaDoor.PA
open Go.RowKit Go.Proofs.YtlmhgnkkdjpkcaaDoorW.PrintWords Go.Proofs.YtlmhgnkkdjpkcaaDoorW.PrintLast Go.Proofs.YtlmhgnkkdjpkcaaDoorW.PrintMore Go.Proofs.YtlmhgnkkdjpkcaaDoorG
attribute [local go_sem] max2_int min2_int max_two min_two max_three min_three max_four min_four
set_option linter.unusedVariables false
set_option linter.unusedSimpArgs false
def outlawlaw23_lives.f (k : Nat)  : Option (Bool) := (outlawlaw23_note.f 3 1).bind fun bt104 => ((outlawlaw23_note.f 4 1).bind fun bt113 => ((outlawlaw23_note.f 4 1).bind fun bt122 => ((outlawlaw23_note.f 5 1).bind fun bt131 => ((outlawlaw23_note.f 3 2).bind fun bt140 => ((some (([(⟨bt104.1, bt104.2.1, (⟨bt104.2.2.1, bt104.2.2.2.1, bt104.2.2.2.2.1, bt104.2.2.2.2.2.1, bt104.2.2.2.2.2.2.1⟩ : S28), bt104.2.2.2.2.2.2.2.1, bt104.2.2.2.2.2.2.2.2⟩ : S30), (⟨bt113.1, bt113.2.1, (⟨bt113.2.2.1, bt113.2.2.2.1, bt113.2.2.2.2.1, bt113.2.2.2.2.2.1, bt113.2.2.2.2.2.2.1⟩ : S28), bt113.2.2.2.2.2.2.2.1, bt113.2.2.2.2.2.2.2.2⟩ : S30), (⟨bt122.1, bt122.2.1, (⟨bt122.2.2.1, bt122.2.2.2.1, bt122.2.2.2.2.1, bt122.2.2.2.2.2.1, bt122.2.2.2.2.2.2.1⟩ : S28), bt122.2.2.2.2.2.2.2.1, bt122.2.2.2.2.2.2.2.2⟩ : S30), (⟨bt131.1, bt131.2.1, (⟨bt131.2.2.1, bt131.2.2.2.1, bt131.2.2.2.2.1, bt131.2.2.2.2.2.1, bt131.2.2.2.2.2.2.1⟩ : S28), bt131.2.2.2.2.2.2.2.1, bt131.2.2.2.2.2.2.2.2⟩ : S30), (⟨bt140.1, bt140.2.1, (⟨bt140.2.2.1, bt140.2.2.2.1, bt140.2.2.2.2.1, bt140.2.2.2.2.2.1, bt140.2.2.2.2.2.2.1⟩ : S28), bt140.2.2.2.2.2.2.2.1, bt140.2.2.2.2.2.2.2.2⟩ : S30)] : List (S30)) : List (S30))).bind fun y149 => (if 0 < (y149.length : Int) then (if 3 < (y149.length : Int) then ((some (([(⟨(rd_T30 y149 0).f0, (rd_T30 y149 0).f1, (⟨(rd_T30 y149 0).f2.f0, (rd_T30 y149 0).f2.f1, (rd_T30 y149 0).f2.f2, (rd_T30 y149 0).f2.f3, (rd_T30 y149 0).f2.f4⟩ : S28), (rd_T30 y149 0).f3, (rd_T30 y149 0).f4⟩ : S30), (⟨(rd_T30 y149 3).f0, (rd_T30 y149 3).f1, (⟨(rd_T30 y149 3).f2.f0, (rd_T30 y149 3).f2.f1, (rd_T30 y149 3).f2.f2, (rd_T30 y149 3).f2.f3, (rd_T30 y149 3).f2.f4⟩ : S28), (rd_T30 y149 3).f3, (rd_T30 y149 3).f4⟩ : S30)] : List (S30)) : List (S30))).bind fun y154 => ((audit_Life.f y149).bind fun t157 => (if t157 = (-1) then ((audit_Open.f y149).bind fun t158 => ((outlawkit_Same_int64.f k t158 (([2] : List Int))).bind fun t164 => (if t164 = true then ((audit_Life.f y154).bind fun t165 => (if t165 = 1 then ((audit_Open.f y154).bind fun t166 => (some ((t166.length : Int) == 0))) else (some false))) else (some false)))) else (some false)))) else (none)) else (none)))))))
theorem outlawlaw23_lives.mono : ∀ k, LeO (outlawlaw23_lives.f k ) (outlawlaw23_lives.f (k + 1) ) := by
 intro  k
 unfold outlawlaw23_lives.f
 repeat' first
   | (with_reducible exact outlawkit_Same_int64.mono _ _ _)
   | (with_reducible exact LeO.refl _)
   | (with_reducible exact LeO.none _)
   | (with_reducible refine LeO.ite ?_ ?_)
   | (with_reducible refine LeO.bind ?_ (fun _ => ?_))
   | refine LeO.ite ?_ ?_
   | refine LeO.bind ?_ (fun _ => ?_)
def outlawlaw23_lives.T2 : Bool × List (List Nat × List Nat) := (true, [([], []), ([0], [0]), ([1], [1]), ([], []), ([3], [3]), ([4], [4]), ([2, 5], [2, 5]), ([6, 0, 1, 2, 3, 4, 5, 6], [6])])
def outlawlaw23_lives.B2 : List Nat := [0, 1, 3, 0, 8, 24, 63, 127]
theorem outlawlaw23_lives.tab2 : rtab .any (opsOf Tryd.f7 2) = outlawlaw23_lives.T2 := by kernel_rfl
theorem outlawlaw23_lives.bits2 : waitsOk outlawlaw23_lives.T2.2 outlawlaw23_lives.B2 = true := by kernel_rfl
set_option maxHeartbeats 8000000 in
set_option maxRecDepth 100000 in
theorem outlawlaw23_lives.calls (k : Nat)  (r : Bool) (w : World) (h : outlawlaw23_lives.f k  = some r) :
  Calls Tryd.prog 7 #[] w fun e w' => e = .returned (.bool r) ∧ Below w.heap.size w w' := by
 have hu30 := Tryd.underlying30
 have HB := Aside0.mk (Below.refl w.heap.size w)
 have H : ((outlawlaw23_note.f 3 1).bind fun bt104 => ((outlawlaw23_note.f 4 1).bind fun bt113 => ((outlawlaw23_note.f 4 1).bind fun bt122 => ((outlawlaw23_note.f 5 1).bind fun bt131 => ((outlawlaw23_note.f 3 2).bind fun bt140 => ((some (([(⟨bt104.1, bt104.2.1, (⟨bt104.2.2.1, bt104.2.2.2.1, bt104.2.2.2.2.1, bt104.2.2.2.2.2.1, bt104.2.2.2.2.2.2.1⟩ : S28), bt104.2.2.2.2.2.2.2.1, bt104.2.2.2.2.2.2.2.2⟩ : S30), (⟨bt113.1, bt113.2.1, (⟨bt113.2.2.1, bt113.2.2.2.1, bt113.2.2.2.2.1, bt113.2.2.2.2.2.1, bt113.2.2.2.2.2.2.1⟩ : S28), bt113.2.2.2.2.2.2.2.1, bt113.2.2.2.2.2.2.2.2⟩ : S30), (⟨bt122.1, bt122.2.1, (⟨bt122.2.2.1, bt122.2.2.2.1, bt122.2.2.2.2.1, bt122.2.2.2.2.2.1, bt122.2.2.2.2.2.2.1⟩ : S28), bt122.2.2.2.2.2.2.2.1, bt122.2.2.2.2.2.2.2.2⟩ : S30), (⟨bt131.1, bt131.2.1, (⟨bt131.2.2.1, bt131.2.2.2.1, bt131.2.2.2.2.1, bt131.2.2.2.2.2.1, bt131.2.2.2.2.2.2.1⟩ : S28), bt131.2.2.2.2.2.2.2.1, bt131.2.2.2.2.2.2.2.2⟩ : S30), (⟨bt140.1, bt140.2.1, (⟨bt140.2.2.1, bt140.2.2.2.1, bt140.2.2.2.2.1, bt140.2.2.2.2.2.1, bt140.2.2.2.2.2.2.1⟩ : S28), bt140.2.2.2.2.2.2.2.1, bt140.2.2.2.2.2.2.2.2⟩ : S30)] : List (S30)) : List (S30))).bind fun y149 => (if 0 < (y149.length : Int) then (if 3 < (y149.length : Int) then ((some (([(⟨(rd_T30 y149 0).f0, (rd_T30 y149 0).f1, (⟨(rd_T30 y149 0).f2.f0, (rd_T30 y149 0).f2.f1, (rd_T30 y149 0).f2.f2, (rd_T30 y149 0).f2.f3, (rd_T30 y149 0).f2.f4⟩ : S28), (rd_T30 y149 0).f3, (rd_T30 y149 0).f4⟩ : S30), (⟨(rd_T30 y149 3).f0, (rd_T30 y149 3).f1, (⟨(rd_T30 y149 3).f2.f0, (rd_T30 y149 3).f2.f1, (rd_T30 y149 3).f2.f2, (rd_T30 y149 3).f2.f3, (rd_T30 y149 3).f2.f4⟩ : S28), (rd_T30 y149 3).f3, (rd_T30 y149 3).f4⟩ : S30)] : List (S30)) : List (S30))).bind fun y154 => ((audit_Life.f y149).bind fun t157 => (if t157 = (-1) then ((audit_Open.f y149).bind fun t158 => ((outlawkit_Same_int64.f k t158 (([2] : List Int))).bind fun t164 => (if t164 = true then ((audit_Life.f y154).bind fun t165 => (if t165 = 1 then ((audit_Open.f y154).bind fun t166 => (some ((t166.length : Int) == 0))) else (some false))) else (some false)))) else (some false)))) else (none)) else (none)))))))) = some r := h
 clear h
 replace H := Option.bind_eq_some_iff.mp H
 obtain ⟨⟨t104, t105, t106, t107, t108, t109, t110, t111, t112⟩, A10, H⟩ := H
 have A1 := Aside0.mk A10
 clear A10
 replace H := Option.bind_eq_some_iff.mp H
 obtain ⟨⟨t113, t114, t115, t116, t117, t118, t119, t120, t121⟩, A20, H⟩ := H
 have A2 := Aside0.mk A20
 clear A20
 replace H := Option.bind_eq_some_iff.mp H
 obtain ⟨⟨t122, t123, t124, t125, t126, t127, t128, t129, t130⟩, A30, H⟩ := H
 have A3 := Aside0.mk A30
 clear A30
 replace H := Option.bind_eq_some_iff.mp H
 obtain ⟨⟨t131, t132, t133, t134, t135, t136, t137, t138, t139⟩, A40, H⟩ := H
 have A4 := Aside0.mk A40
 clear A40
 replace H := Option.bind_eq_some_iff.mp H
 obtain ⟨⟨t140, t141, t142, t143, t144, t145, t146, t147, t148⟩, A50, H⟩ := H
 have A5 := Aside0.mk A50
 clear A50
 obtain ⟨y149, hy149⟩ : ∃ y_ : List (S30), y_ = (([(⟨t104, t105, (⟨t106, t107, t108, t109, t110⟩ : S28), t111, t112⟩ : S30), (⟨t113, t114, (⟨t115, t116, t117, t118, t119⟩ : S28), t120, t121⟩ : S30), (⟨t122, t123, (⟨t124, t125, t126, t127, t128⟩ : S28), t129, t130⟩ : S30), (⟨t131, t132, (⟨t133, t134, t135, t136, t137⟩ : S28), t138, t139⟩ : S30), (⟨t140, t141, (⟨t142, t143, t144, t145, t146⟩ : S28), t147, t148⟩ : S30)] : List (S30))) := ⟨_, rfl⟩
 first | rw [← hy149, Option.bind_some] at H | rw [← hy149] at H
 have Ny149 := Aside0.mk hy149
 clear hy149
 by_cases c6 : 0 < (y149.length : Int)
 ·rw [if_pos c6] at H
  have c6b0 : decide (0 < (y149.length : Int)) = true := decide_eq_true c6
  have c6b1 : decide (0 < y149.length) = true := decide_eq_true (by omega)
  clear c6
  by_cases c7 : 3 < (y149.length : Int)
  ·rw [if_pos c7] at H
   have c7b0 : decide (3 < (y149.length : Int)) = true := decide_eq_true c7
   have c7b1 : decide (3 < y149.length) = true := decide_eq_true (by omega)
   clear c7
   obtain ⟨y154, hy154⟩ : ∃ y_ : List (S30), y_ = (([(⟨(rd_T30 y149 0).f0, (rd_T30 y149 0).f1, (⟨(rd_T30 y149 0).f2.f0, (rd_T30 y149 0).f2.f1, (rd_T30 y149 0).f2.f2, (rd_T30 y149 0).f2.f3, (rd_T30 y149 0).f2.f4⟩ : S28), (rd_T30 y149 0).f3, (rd_T30 y149 0).f4⟩ : S30), (⟨(rd_T30 y149 3).f0, (rd_T30 y149 3).f1, (⟨(rd_T30 y149 3).f2.f0, (rd_T30 y149 3).f2.f1, (rd_T30 y149 3).f2.f2, (rd_T30 y149 3).f2.f3, (rd_T30 y149 3).f2.f4⟩ : S28), (rd_T30 y149 3).f3, (rd_T30 y149 3).f4⟩ : S30)] : List (S30))) := ⟨_, rfl⟩
   first | rw [← hy154, Option.bind_some] at H | rw [← hy154] at H
   have Ny154 := Aside0.mk hy154
   clear hy154
   replace H := Option.bind_eq_some_iff.mp H
   obtain ⟨t157, A80, H⟩ := H
   have A8 := Aside0.mk A80
   clear A80
   by_cases c9 : t157 = (-1)
   ·rw [if_pos c9] at H
    have c9b0 : (t157 == (-1)) = true := beq_iff_eq.mpr c9
    have c9b1 : (t157 != (-1)) = false := bne_eq_false_iff_eq.mpr c9
    clear c9
    replace H := Option.bind_eq_some_iff.mp H
    obtain ⟨t158, A100, H⟩ := H
    have A10 := Aside0.mk A100
    clear A100
    obtain ⟨y161, hy161⟩ : ∃ y_ : List Int, y_ = (([2] : List Int)) := ⟨_, rfl⟩
    first | rw [← hy161, Option.bind_some] at H | rw [← hy161] at H
    have Ny161 := Aside0.mk hy161
    clear hy161
    replace H := Option.bind_eq_some_iff.mp H
    obtain ⟨t164, A110, H⟩ := H
    have A11 := Aside0.mk A110
    clear A110
    by_cases c12 : t164 = true
    ·subst c12
     rw [if_pos rfl] at H
     replace H := Option.bind_eq_some_iff.mp H
     obtain ⟨t165, A130, H⟩ := H
     have A13 := Aside0.mk A130
     clear A130
     by_cases c14 : t165 = 1
     ·rw [if_pos c14] at H
      have c14b0 : (t165 == 1) = true := beq_iff_eq.mpr c14
      have c14b1 : (t165 != 1) = false := bne_eq_false_iff_eq.mpr c14
      clear c14
      replace H := Option.bind_eq_some_iff.mp H
      obtain ⟨t166, A150, H⟩ := H
      have A15 := Aside0.mk A150
      clear A150
      obtain rfl := Option.some.inj H
      go_enter Tryd.func7, Tryd.ntmps7
      try go_wp2_with (first | ((first | ((with_reducible refine gate_callee (f := 12) rfl ?_); refine goesL_ (some 3) rfl rfl Tryd.func12 (by kernel_rfl) rfl #[.int .i64 3, .int .i64 1] rfl (by (try simp only [List.map_toArray, List.map_cons, List.map_nil]); first | done | rfl | (simp only [List.length_drop, List.length_take]; rfl)) ?_; (with_reducible refine (outlawlaw23_note.calls 3 1 t104 t105 t106 t107 t108 t109 t110 t111 t112 _ A1.out).mono ?_)) | ((with_reducible refine gate_callee (f := 12) rfl ?_); refine goesL_ (some 4) rfl rfl Tryd.func12 (by kernel_rfl) rfl #[.int .i64 4, .int .i64 1] rfl (by (try simp only [List.map_toArray, List.map_cons, List.map_nil]); first | done | rfl | (simp only [List.length_drop, List.length_take]; rfl)) ?_; (with_reducible refine (outlawlaw23_note.calls 4 1 t113 t114 t115 t116 t117 t118 t119 t120 t121 _ A2.out).mono ?_)) | ((with_reducible refine gate_callee (f := 12) rfl ?_); refine goesL_ (some 5) rfl rfl Tryd.func12 (by kernel_rfl) rfl #[.int .i64 4, .int .i64 1] rfl (by (try simp only [List.map_toArray, List.map_cons, List.map_nil]); first | done | rfl | (simp only [List.length_drop, List.length_take]; rfl)) ?_; (with_reducible refine (outlawlaw23_note.calls 4 1 t122 t123 t124 t125 t126 t127 t128 t129 t130 _ A3.out).mono ?_)) | ((with_reducible refine gate_callee (f := 12) rfl ?_); refine goesL_ (some 6) rfl rfl Tryd.func12 (by kernel_rfl) rfl #[.int .i64 5, .int .i64 1] rfl (by (try simp only [List.map_toArray, List.map_cons, List.map_nil]); first | done | rfl | (simp only [List.length_drop, List.length_take]; rfl)) ?_; (with_reducible refine (outlawlaw23_note.calls 5 1 t131 t132 t133 t134 t135 t136 t137 t138 t139 _ A4.out).mono ?_)) | ((with_reducible refine gate_callee (f := 12) rfl ?_); refine goesL_ (some 7) rfl rfl Tryd.func12 (by kernel_rfl) rfl #[.int .i64 3, .int .i64 2] rfl (by (try simp only [List.map_toArray, List.map_cons, List.map_nil]); first | done | rfl | (simp only [List.length_drop, List.length_take]; rfl)) ?_; (with_reducible refine (outlawlaw23_note.calls 3 2 t140 t141 t142 t143 t144 t145 t146 t147 t148 _ A5.out).mono ?_))); rintro e w16 ⟨rfl, hb⟩; refine ⟨_, rfl, ?_⟩; have n0_ := Aside0.mk (below_step (by repeat (first | (with_reducible first | exact HB.out | apply a1_ | apply a2_ | apply a3_) | exact HB.out)) hb); clear HB; have HB := n0_; clear n0_; (try clear hb); (try clear hk)) | ((with_reducible refine gate_dst (N := 8) rfl ?_); (try (refine gate_guard (by rfl) ?_; dsimp only)); refine Kd.R_lit k30 _ 30 ?hg (N := 8) ?hd (xs := ([(⟨t104, t105, (⟨t106, t107, t108, t109, t110⟩ : S28), t111, t112⟩ : S30), (⟨t113, t114, (⟨t115, t116, t117, t118, t119⟩ : S28), t120, t121⟩ : S30), (⟨t122, t123, (⟨t124, t125, t126, t127, t128⟩ : S28), t129, t130⟩ : S30), (⟨t131, t132, (⟨t133, t134, t135, t136, t137⟩ : S28), t138, t139⟩ : S30), (⟨t140, t141, (⟨t142, t143, t144, t145, t146⟩ : S28), t147, t148⟩ : S30)] : List (S30))) (inner := [.int .i64 t104, .int .i64 t105, .int .i64 t106, .string t107, .string t108, .string t109, .string t110, .int .i64 t111, .string t112, .int .i64 t113, .int .i64 t114, .int .i64 t115, .string t116, .string t117, .string t118, .string t119, .int .i64 t120, .string t121, .int .i64 t122, .int .i64 t123, .int .i64 t124, .string t125, .string t126, .string t127, .string t128, .int .i64 t129, .string t130, .int .i64 t131, .int .i64 t132, .int .i64 t133, .string t134, .string t135, .string t136, .string t137, .int .i64 t138, .string t139, .int .i64 t140, .int .i64 t141, .int .i64 t142, .string t143, .string t144, .string t145, .string t146, .int .i64 t147, .string t148]) (ok := fun _ => True) (okp := fun _ => True) ?hr ?hp (fun _ hk => hk) trivial (Below.refl _ _) (Nat.le_refl _) (by simp) ?_; (case hd => rfl); (case hg => rfl); (case hr => first | (go_simp; done) | (go_simp; rfl)); (case hp => exact (Reps.c9 (show Kd.M k30 _ _ _ (⟨t104, t105, (⟨t106, t107, t108, t109, t110⟩ : S28), t111, t112⟩ : S30) [.int .i64 t104, .int .i64 t105, .int .i64 t106, .string t107, .string t108, .string t109, .string t110, .int .i64 t111, .string t112] from (k30_mkM _ _ _ (⟨t104, t105, (⟨t106, t107, t108, t109, t110⟩ : S28), t111, t112⟩ : S30) )) (Reps.c9 (show Kd.M k30 _ _ _ (⟨t113, t114, (⟨t115, t116, t117, t118, t119⟩ : S28), t120, t121⟩ : S30) [.int .i64 t113, .int .i64 t114, .int .i64 t115, .string t116, .string t117, .string t118, .string t119, .int .i64 t120, .string t121] from (k30_mkM _ _ _ (⟨t113, t114, (⟨t115, t116, t117, t118, t119⟩ : S28), t120, t121⟩ : S30) )) (Reps.c9 (show Kd.M k30 _ _ _ (⟨t122, t123, (⟨t124, t125, t126, t127, t128⟩ : S28), t129, t130⟩ : S30) [.int .i64 t122, .int .i64 t123, .int .i64 t124, .string t125, .string t126, .string t127, .string t128, .int .i64 t129, .string t130] from (k30_mkM _ _ _ (⟨t122, t123, (⟨t124, t125, t126, t127, t128⟩ : S28), t129, t130⟩ : S30) )) (Reps.c9 (show Kd.M k30 _ _ _ (⟨t131, t132, (⟨t133, t134, t135, t136, t137⟩ : S28), t138, t139⟩ : S30) [.int .i64 t131, .int .i64 t132, .int .i64 t133, .string t134, .string t135, .string t136, .string t137, .int .i64 t138, .string t139] from (k30_mkM _ _ _ (⟨t131, t132, (⟨t133, t134, t135, t136, t137⟩ : S28), t138, t139⟩ : S30) )) (Reps.c9 (show Kd.M k30 _ _ _ (⟨t140, t141, (⟨t142, t143, t144, t145, t146⟩ : S28), t147, t148⟩ : S30) [.int .i64 t140, .int .i64 t141, .int .i64 t142, .string t143, .string t144, .string t145, .string t146, .int .i64 t147, .string t148] from (k30_mkM _ _ _ (⟨t140, t141, (⟨t142, t143, t144, t145, t146⟩ : S28), t147, t148⟩ : S30) )) (Reps.none _ _))))))); intro v150 w21 ho22 hb hg_ hnew_; clear hg_ hnew_; (first | rw [← Ny149.out] at ho22 | (simp only [Int.reduceToNat] at ho22; rw [← Ny149.out] at ho22)); have n0_ := Aside0.mk (Kd.R_lower ho22 (below_size (by repeat (first | (with_reducible first | exact HB.out | apply a1_ | apply a2_ | apply a3_) | exact HB.out)))); have n1_ := Aside0.mk (below_step (by repeat (first | (with_reducible first | exact HB.out | apply a1_ | apply a2_ | apply a3_) | exact HB.out)) hb); clear HB; have HO151 := n0_; have HB := n1_; clear n0_ n1_; clear hb ho22))
      have n0_ := Aside0.mk (Kd.R_drew HO151.out)
      have n1_ := Aside0.mk (below_drew1 HB.out)
      clear HO151
      clear HB
      have HO151 := n0_
      have HB := n1_
      clear n0_ n1_
      obtain ⟨Ao24, co24, eo24⟩ := Kd.R_slice HO151.out
      (first | subst eo24 | (injection eo24 with f1_ f2_ f3_; have f4_ := f1_.symm; have f5_ := f3_.symm; clear f1_ f2_ f3_; subst f4_; subst f5_))
      have p152 : 0 ≤ (0 : Int) := (by omega)
      have q152 : 0 < (y149.length : Int) := of_decide_eq_true (by first | (with_reducible assumption) | assumption)
      obtain ⟨ad152, e152, hx152_0, hx152_1, hx152_2, hx152_3, hx152_4, hx152_5, hx152_6, hx152_7, hx152_8⟩ := at_T30 (Kd.R_reads' HO151.out).2.2 0 p152 q152
      cases e152
      have qi152 : (0 < y149.length) = True := eq_true (by omega)
      (try rw [show ((0 : Int)).toNat = 0 from rfl] at hx152_0)
      (try rw [show 0 * 9 = 0 from rfl] at hx152_0)
      (try rw [Addr.add_zero'] at hx152_0)
      (try rw [show ((0 : Int)).toNat = 0 from rfl] at hx152_1)
      (try rw [show 0 * 9 = 0 from rfl] at hx152_1)
      (try rw [Addr.add_zero'] at hx152_1)
      (try rw [show ((0 : Int)).toNat = 0 from rfl] at hx152_2)
      (try rw [show 0 * 9 = 0 from rfl] at hx152_2)
      (try rw [Addr.add_zero'] at hx152_2)
      (try rw [show ((0 : Int)).toNat = 0 from rfl] at hx152_3)
      (try rw [show 0 * 9 = 0 from rfl] at hx152_3)
      (try rw [Addr.add_zero'] at hx152_3)
      (try rw [show ((0 : Int)).toNat = 0 from rfl] at hx152_4)
      (try rw [show 0 * 9 = 0 from rfl] at hx152_4)
      (try rw [Addr.add_zero'] at hx152_4)
      (try rw [show ((0 : Int)).toNat = 0 from rfl] at hx152_5)
      (try rw [show 0 * 9 = 0 from rfl] at hx152_5)
      (try rw [Addr.add_zero'] at hx152_5)
      (try rw [show ((0 : Int)).toNat = 0 from rfl] at hx152_6)
      (try rw [show 0 * 9 = 0 from rfl] at hx152_6)
      (try rw [Addr.add_zero'] at hx152_6)
      (try rw [show ((0 : Int)).toNat = 0 from rfl] at hx152_7)
      (try rw [show 0 * 9 = 0 from rfl] at hx152_7)
      (try rw [Addr.add_zero'] at hx152_7)
      (try rw [show ((0 : Int)).toNat = 0 from rfl] at hx152_8)
      (try rw [show 0 * 9 = 0 from rfl] at hx152_8)
      (try rw [Addr.add_zero'] at hx152_8)
      replace p152 := eq_true p152
      replace q152 := eq_true q152
      have p153 : 0 ≤ (3 : Int) := (by omega)
      have q153 : 3 < (y149.length : Int) := of_decide_eq_true (by first | (with_reducible assumption) | assumption)
      obtain ⟨ad153, e153, hx153_0, hx153_1, hx153_2, hx153_3, hx153_4, hx153_5, hx153_6, hx153_7, hx153_8⟩ := at_T30 (Kd.R_reads' HO151.out).2.2 3 p153 q153
      obtain rfl : ad152 = ad153 := (by injection e153)
      (try simp only [show (3 : Int).toNat = 3 from rfl, Nat.reduceMul, Nat.reduceEqDiff, Go.Addr.add, ↓reduceIte] at hx153_0)
      (try simp only [show (3 : Int).toNat = 3 from rfl, Nat.reduceMul, Nat.reduceEqDiff, Go.Addr.add, ↓reduceIte] at hx153_1)
      (try simp only [show (3 : Int).toNat = 3 from rfl, Nat.reduceMul, Nat.reduceEqDiff, Go.Addr.add, ↓reduceIte] at hx153_2)
      (try simp only [show (3 : Int).toNat = 3 from rfl, Nat.reduceMul, Nat.reduceEqDiff, Go.Addr.add, ↓reduceIte] at hx153_3)
      (try simp only [show (3 : Int).toNat = 3 from rfl, Nat.reduceMul, Nat.reduceEqDiff, Go.Addr.add, ↓reduceIte] at hx153_4)
      (try simp only [show (3 : Int).toNat = 3 from rfl, Nat.reduceMul, Nat.reduceEqDiff, Go.Addr.add, ↓reduceIte] at hx153_5)
      (try simp only [show (3 : Int).toNat = 3 from rfl, Nat.reduceMul, Nat.reduceEqDiff, Go.Addr.add, ↓reduceIte] at hx153_6)
      (try simp only [show (3 : Int).toNat = 3 from rfl, Nat.reduceMul, Nat.reduceEqDiff, Go.Addr.add, ↓reduceIte] at hx153_7)
      (try simp only [show (3 : Int).toNat = 3 from rfl, Nat.reduceMul, Nat.reduceEqDiff, Go.Addr.add, ↓reduceIte] at hx153_8)
      have qi153 : (3 < y149.length) = True := eq_true (by omega)
      (try rw [show ((3 : Int)).toNat = 3 from rfl] at hx153_0)
      (try rw [show 3 * 9 = 27 from rfl] at hx153_0)
      (try rw [show ((3 : Int)).toNat = 3 from rfl] at hx153_1)
      (try rw [show 3 * 9 = 27 from rfl] at hx153_1)
      (try rw [show ((3 : Int)).toNat = 3 from rfl] at hx153_2)
      (try rw [show 3 * 9 = 27 from rfl] at hx153_2)
      (try rw [show ((3 : Int)).toNat = 3 from rfl] at hx153_3)
      (try rw [show 3 * 9 = 27 from rfl] at hx153_3)
      (try rw [show ((3 : Int)).toNat = 3 from rfl] at hx153_4)
      (try rw [show 3 * 9 = 27 from rfl] at hx153_4)
      (try rw [show ((3 : Int)).toNat = 3 from rfl] at hx153_5)
      (try rw [show 3 * 9 = 27 from rfl] at hx153_5)
      (try rw [show ((3 : Int)).toNat = 3 from rfl] at hx153_6)
      (try rw [show 3 * 9 = 27 from rfl] at hx153_6)
      (try rw [show ((3 : Int)).toNat = 3 from rfl] at hx153_7)
      (try rw [show 3 * 9 = 27 from rfl] at hx153_7)
      (try rw [show ((3 : Int)).toNat = 3 from rfl] at hx153_8)
      (try rw [show 3 * 9 = 27 from rfl] at hx153_8)
      replace p153 := eq_true p153
      replace q153 := eq_true q153
      refine start_ (n := 8) (S := fun w' => w'.cell? ad152 = some (.int .i64 ((rd_T30 y149 0).f0)) ∧ w'.cell? ⟨ad152.block, ad152.off + 1, none⟩ = some (.int .i64 ((rd_T30 y149 0).f1)) ∧ w'.cell? ⟨ad152.block, ad152.off + 2, none⟩ = some (.int .i64 ((rd_T30 y149 0).f2.f0)) ∧ w'.cell? ⟨ad152.block, ad152.off + 3, none⟩ = some (.string ((rd_T30 y149 0).f2.f1)) ∧ w'.cell? ⟨ad152.block, ad152.off + 4, none⟩ = some (.string ((rd_T30 y149 0).f2.f2)) ∧ w'.cell? ⟨ad152.block, ad152.off + 5, none⟩ = some (.string ((rd_T30 y149 0).f2.f3)) ∧ w'.cell? ⟨ad152.block, ad152.off + 6, none⟩ = some (.string ((rd_T30 y149 0).f2.f4)) ∧ w'.cell? ⟨ad152.block, ad152.off + 7, none⟩ = some (.int .i64 ((rd_T30 y149 0).f3)) ∧ w'.cell? ⟨ad152.block, ad152.off + 8, none⟩ = some (.string ((rd_T30 y149 0).f4)) ∧ w'.cell? ⟨ad152.block, ad152.off + 27, none⟩ = some (.int .i64 ((rd_T30 y149 3).f0)) ∧ w'.cell? ⟨ad152.block, ad152.off + 27 + 1, none⟩ = some (.int .i64 ((rd_T30 y149 3).f1)) ∧ w'.cell? ⟨ad152.block, ad152.off + 27 + 2, none⟩ = some (.int .i64 ((rd_T30 y149 3).f2.f0)) ∧ w'.cell? ⟨ad152.block, ad152.off + 27 + 3, none⟩ = some (.string ((rd_T30 y149 3).f2.f1)) ∧ w'.cell? ⟨ad152.block, ad152.off + 27 + 4, none⟩ = some (.string ((rd_T30 y149 3).f2.f2)) ∧ w'.cell? ⟨ad152.block, ad152.off + 27 + 5, none⟩ = some (.string ((rd_T30 y149 3).f2.f3)) ∧ w'.cell? ⟨ad152.block, ad152.off + 27 + 6, none⟩ = some (.string ((rd_T30 y149 3).f2.f4)) ∧ w'.cell? ⟨ad152.block, ad152.off + 27 + 7, none⟩ = some (.int .i64 ((rd_T30 y149 3).f3)) ∧ w'.cell? ⟨ad152.block, ad152.off + 27 + 8, none⟩ = some (.string ((rd_T30 y149 3).f4))) (ds := []) #[F_,F_,F_,F_,F_,F_,F_,F_] (by kernel_rfl) rfl rfl ⟨hx152_0, hx152_1, hx152_2, hx152_3, hx152_4, hx152_5, hx152_6, hx152_7, hx152_8, hx153_0, hx153_1, hx153_2, hx153_3, hx153_4, hx153_5, hx153_6, hx153_7, hx153_8⟩ (fun hHeld => ?_); refine with_tabW outlawlaw23_lives.tab2 outlawlaw23_lives.bits2 (fun HT_ HW_ => ?_)
      generalize w21.drew = w23 at HO151 HB hx152_0 hx152_1 hx152_2 hx152_3 hx152_4 hx152_5 hx152_6 hx152_7 hx152_8 hx153_0 hx153_1 hx153_2 hx153_3 hx153_4 hx153_5 hx153_6 hx153_7 hx153_8 hHeld ⊢
      refine pq_ 0 9 (mb_ 8 1) HT_.out ?_
      refine pq_ 1 10 (mb_ 8 3) HT_.out ?_
      refine pq_ 3 12 (mb_ 8 11) HT_.out ?_
      refine pq_ 4 13 (mb_ 8 27) HT_.out ?_
      refine tq_ 2 11 (mb_ 8 31) HT_.out HW_.out hHeld ?_ (hr := by rintro w' ⟨s0, s1, s2, s3, s4, s5, s6, s7, s8, s9, s10, s11, s12, s13, s14, s15, s16, s17⟩; go_simp; with_reducible rfl)
      refine tq_ 5 14 (mb_ 8 63) HT_.out HW_.out hHeld ?_ (hr := by rintro w' ⟨s0, s1, s2, s3, s4, s5, s6, s7, s8, s9, s10, s11, s12, s13, s14, s15, s16, s17⟩; go_simp; with_reducible rfl)
      refine one_ (i := 6) (N := some 15) (mb_ 8 127) rfl rfl (one_of HT_.out (by kernel_rfl)) (by decide) (fun K hK => ?_)
      refine Kd.R_lit_step k30 _ 30 ?hg (N := 15) ?hd (xs := ([(⟨(rd_T30 y149 0).f0, (rd_T30 y149 0).f1, (⟨(rd_T30 y149 0).f2.f0, (rd_T30 y149 0).f2.f1, (rd_T30 y149 0).f2.f2, (rd_T30 y149 0).f2.f3, (rd_T30 y149 0).f2.f4⟩ : S28), (rd_T30 y149 0).f3, (rd_T30 y149 0).f4⟩ : S30), (⟨(rd_T30 y149 3).f0, (rd_T30 y149 3).f1, (⟨(rd_T30 y149 3).f2.f0, (rd_T30 y149 3).f2.f1, (rd_T30 y149 3).f2.f2, (rd_T30 y149 3).f2.f3, (rd_T30 y149 3).f2.f4⟩ : S28), (rd_T30 y149 3).f3, (rd_T30 y149 3).f4⟩ : S30)] : List (S30))) (inner := [.int .i64 ((rd_T30 y149 0).f0), .int .i64 ((rd_T30 y149 0).f1), .int .i64 ((rd_T30 y149 0).f2.f0), .string ((rd_T30 y149 0).f2.f1), .string ((rd_T30 y149 0).f2.f2), .string ((rd_T30 y149 0).f2.f3), .string ((rd_T30 y149 0).f2.f4), .int .i64 ((rd_T30 y149 0).f3), .string ((rd_T30 y149 0).f4), .int .i64 ((rd_T30 y149 3).f0), .int .i64 ((rd_T30 y149 3).f1), .int .i64 ((rd_T30 y149 3).f2.f0), .string ((rd_T30 y149 3).f2.f1), .string ((rd_T30 y149 3).f2.f2), .string ((rd_T30 y149 3).f2.f3), .string ((rd_T30 y149 3).f2.f4), .int .i64 ((rd_T30 y149 3).f3), .string ((rd_T30 y149 3).f4)]) (ok := fun _ => True) (okp := fun _ => True) ?hr ?hp (fun _ hk => hk) trivial (Below.refl _ _) (Nat.le_refl _) (by simp) ?_; (case hd => rfl); (case hg => rfl); (case hr => first | (go_simp; done) | (go_simp; rfl)); (case hp => exact (Reps.c9 (show Kd.M k30 _ _ _ (⟨(rd_T30 y149 0).f0, (rd_T30 y149 0).f1, (⟨(rd_T30 y149 0).f2.f0, (rd_T30 y149 0).f2.f1, (rd_T30 y149 0).f2.f2, (rd_T30 y149 0).f2.f3, (rd_T30 y149 0).f2.f4⟩ : S28), (rd_T30 y149 0).f3, (rd_T30 y149 0).f4⟩ : S30) [.int .i64 ((rd_T30 y149 0).f0), .int .i64 ((rd_T30 y149 0).f1), .int .i64 ((rd_T30 y149 0).f2.f0), .string ((rd_T30 y149 0).f2.f1), .string ((rd_T30 y149 0).f2.f2), .string ((rd_T30 y149 0).f2.f3), .string ((rd_T30 y149 0).f2.f4), .int .i64 ((rd_T30 y149 0).f3), .string ((rd_T30 y149 0).f4)] from (k30_mkM _ _ _ (⟨(rd_T30 y149 0).f0, (rd_T30 y149 0).f1, (⟨(rd_T30 y149 0).f2.f0, (rd_T30 y149 0).f2.f1, (rd_T30 y149 0).f2.f2, (rd_T30 y149 0).f2.f3, (rd_T30 y149 0).f2.f4⟩ : S28), (rd_T30 y149 0).f3, (rd_T30 y149 0).f4⟩ : S30) )) (Reps.c9 (show Kd.M k30 _ _ _ (⟨(rd_T30 y149 3).f0, (rd_T30 y149 3).f1, (⟨(rd_T30 y149 3).f2.f0, (rd_T30 y149 3).f2.f1, (rd_T30 y149 3).f2.f2, (rd_T30 y149 3).f2.f3, (rd_T30 y149 3).f2.f4⟩ : S28), (rd_T30 y149 3).f3, (rd_T30 y149 3).f4⟩ : S30) [.int .i64 ((rd_T30 y149 3).f0), .int .i64 ((rd_T30 y149 3).f1), .int .i64 ((rd_T30 y149 3).f2.f0), .string ((rd_T30 y149 3).f2.f1), .string ((rd_T30 y149 3).f2.f2), .string ((rd_T30 y149 3).f2.f3), .string ((rd_T30 y149 3).f2.f4), .int .i64 ((rd_T30 y149 3).f3), .string ((rd_T30 y149 3).f4)] from (k30_mkM _ _ _ (⟨(rd_T30 y149 3).f0, (rd_T30 y149 3).f1, (⟨(rd_T30 y149 3).f2.f0, (rd_T30 y149 3).f2.f1, (rd_T30 y149 3).f2.f2, (rd_T30 y149 3).f2.f3, (rd_T30 y149 3).f2.f4⟩ : S28), (rd_T30 y149 3).f3, (rd_T30 y149 3).f4⟩ : S30) )) (Reps.none _ _))))
      intro v155 w25 ho26 hb hg_ hnew_
      have HS0_ := (hb.cell (World.block_lt_of_cell? _ _ (hHeld.1))).trans (hHeld.1)
      have HS1_ := (hb.cell (World.block_lt_of_cell? _ _ (hHeld.2.1))).trans (hHeld.2.1)
      have HS2_ := (hb.cell (World.block_lt_of_cell? _ _ (hHeld.2.2.1))).trans (hHeld.2.2.1)
      have HS3_ := (hb.cell (World.block_lt_of_cell? _ _ (hHeld.2.2.2.1))).trans (hHeld.2.2.2.1)
      have HS4_ := (hb.cell (World.block_lt_of_cell? _ _ (hHeld.2.2.2.2.1))).trans (hHeld.2.2.2.2.1)
      have HS5_ := (hb.cell (World.block_lt_of_cell? _ _ (hHeld.2.2.2.2.2.1))).trans (hHeld.2.2.2.2.2.1)
      have HS6_ := (hb.cell (World.block_lt_of_cell? _ _ (hHeld.2.2.2.2.2.2.1))).trans (hHeld.2.2.2.2.2.2.1)
      have HS7_ := (hb.cell (World.block_lt_of_cell? _ _ (hHeld.2.2.2.2.2.2.2.1))).trans (hHeld.2.2.2.2.2.2.2.1)
      have HS8_ := (hb.cell (World.block_lt_of_cell? _ _ (hHeld.2.2.2.2.2.2.2.2.1))).trans (hHeld.2.2.2.2.2.2.2.2.1)
      have HS9_ := (hb.cell (World.block_lt_of_cell? _ _ (hHeld.2.2.2.2.2.2.2.2.2.1))).trans (hHeld.2.2.2.2.2.2.2.2.2.1)
      have HS10_ := (hb.cell (World.block_lt_of_cell? _ _ (hHeld.2.2.2.2.2.2.2.2.2.2.1))).trans (hHeld.2.2.2.2.2.2.2.2.2.2.1)
      have HS11_ := (hb.cell (World.block_lt_of_cell? _ _ (hHeld.2.2.2.2.2.2.2.2.2.2.2.1))).trans (hHeld.2.2.2.2.2.2.2.2.2.2.2.1)
      have HS12_ := (hb.cell (World.block_lt_of_cell? _ _ (hHeld.2.2.2.2.2.2.2.2.2.2.2.2.1))).trans (hHeld.2.2.2.2.2.2.2.2.2.2.2.2.1)
      have HS13_ := (hb.cell (World.block_lt_of_cell? _ _ (hHeld.2.2.2.2.2.2.2.2.2.2.2.2.2.1))).trans (hHeld.2.2.2.2.2.2.2.2.2.2.2.2.2.1)
      have HS14_ := (hb.cell (World.block_lt_of_cell? _ _ (hHeld.2.2.2.2.2.2.2.2.2.2.2.2.2.2.1))).trans (hHeld.2.2.2.2.2.2.2.2.2.2.2.2.2.2.1)
      have HS15_ := (hb.cell (World.block_lt_of_cell? _ _ (hHeld.2.2.2.2.2.2.2.2.2.2.2.2.2.2.2.1))).trans (hHeld.2.2.2.2.2.2.2.2.2.2.2.2.2.2.2.1)
      have HS16_ := (hb.cell (World.block_lt_of_cell? _ _ (hHeld.2.2.2.2.2.2.2.2.2.2.2.2.2.2.2.2.1))).trans (hHeld.2.2.2.2.2.2.2.2.2.2.2.2.2.2.2.2.1)
      have HS17_ := (hb.cell (World.block_lt_of_cell? _ _ (hHeld.2.2.2.2.2.2.2.2.2.2.2.2.2.2.2.2.2))).trans (hHeld.2.2.2.2.2.2.2.2.2.2.2.2.2.2.2.2.2)
      clear hg_ hnew_
      (first | rw [← Ny154.out] at ho26 | (simp only [Int.reduceToNat] at ho26; rw [← Ny154.out] at ho26))
      have n0_ := Aside0.mk (Kd.R_elder' (by (with_reducible repeat (first | apply Kd.R_alloc | apply Kd.R_drewN | apply Kd.R_drew)); exact HO151.out) (Kd.R_base ho26) hb)
      have n1_ := Aside0.mk (Kd.R_lower (Kd.R_new' ho26 (Kd.R_lt (by (with_reducible repeat (first | apply Kd.R_alloc | apply Kd.R_drewN | apply Kd.R_drew)); exact HO151.out))) (below_size (by repeat (first | (with_reducible first | exact HB.out | apply a1_ | apply a2_ | apply a3_) | exact HB.out))))
      have n2_ := Aside0.mk (below_step (by repeat (first | (with_reducible first | exact HB.out | apply a1_ | apply a2_ | apply a3_) | exact HB.out)) hb)
      clear HO151
      clear HB
      have HO151 := n0_
      have HO156 := n1_
      have HB := n2_
      clear n0_ n1_ n2_
      clear hb ho26
      refine hK.out _ _ ⟨HS0_, HS1_, HS2_, HS3_, HS4_, HS5_, HS6_, HS7_, HS8_, HS9_, HS10_, HS11_, HS12_, HS13_, HS14_, HS15_, HS16_, HS17_⟩ (fun hHeld => ?_)
      clear hK K
      refine norm_ (a' := ?_) ?_ ?_
      rotate_left
      ·show Act.put _ (some 15) _ = _
       simp only [Act.put, List.setIfInBounds_toArray, List.set_cons_zero, List.set_cons_succ, i64_w, i32_w]
       rfl
      refine pq_ 7 2 (mb_ 8 255) HT_.out ?_
      refine done_ (done_of HT_.out (by kernel_rfl)) ?_
      try go_wp2_with (first | ((with_reducible refine gate_callee (f := 16) rfl ?_); refine goesL_ (some 17) rfl rfl Tryd.func16 (by kernel_rfl) rfl #[.slice (some ad152) y149.length co24] rfl (by (try simp only [List.map_toArray, List.map_cons, List.map_nil]); first | done | rfl | (simp only [List.length_drop, List.length_take]; rfl)) ?_; (with_reducible refine (audit_Life.calls _ _ y149 t157 _ ?side1 ?side2 A8.out).mono ?_); (case side1 => repeat (first | exact (Kd.R_reads' HO151.out).2.2 | (with_reducible refine Kd.C_alloc ?_ _) | (with_reducible refine Kd.C_drewN ?_ _) | (with_reducible refine Kd.C_drew ?_))); (case side2 => exact (Kd.R_reads' HO151.out).2.1); rintro e w27 ⟨rfl, hb⟩; refine ⟨_, rfl, ?_⟩; have n0_ := Aside0.mk (Kd.R_below (by (with_reducible repeat (first | apply Kd.R_alloc | apply Kd.R_drewN | apply Kd.R_drew)); exact HO151.out) hb); have n1_ := Aside0.mk (Kd.R_below (by (with_reducible repeat (first | apply Kd.R_alloc | apply Kd.R_drewN | apply Kd.R_drew)); exact HO156.out) hb); have n2_ := Aside0.mk (below_step (by repeat (first | (with_reducible first | exact HB.out | apply a1_ | apply a2_ | apply a3_) | exact HB.out)) hb); clear HO151; clear HO156; clear HB; have HO151 := n0_; have HO156 := n1_; have HB := n2_; clear n0_ n1_ n2_; (try clear hb); (try clear hk)) | (go_at_call 25; (with_reducible refine (audit_Open.calls _ _ y149 t158 _ ?side1 ?side2 A10.out).mono ?_); (case side1 => repeat (first | exact (Kd.R_reads' HO151.out).2.2 | (with_reducible refine Kd.C_alloc ?_ _) | (with_reducible refine Kd.C_drewN ?_ _) | (with_reducible refine Kd.C_drew ?_))); (case side2 => exact (Kd.R_reads' HO151.out).2.1); rintro e w28 ⟨v159, rfl, ho0, hb⟩; have n0_ := Aside0.mk (Kd.R_below (by (with_reducible repeat (first | apply Kd.R_alloc | apply Kd.R_drewN | apply Kd.R_drew)); exact HO151.out) hb); have n1_ := Aside0.mk (Kd.R_below (by (with_reducible repeat (first | apply Kd.R_alloc | apply Kd.R_drewN | apply Kd.R_drew)); exact HO156.out) hb); have n2_ := Aside0.mk (Kd.R_lower ho0 (below_size (by repeat (first | (with_reducible first | exact HB.out | apply a1_ | apply a2_ | apply a3_) | exact HB.out)))); have n3_ := Aside0.mk (below_step (by repeat (first | (with_reducible first | exact HB.out | apply a1_ | apply a2_ | apply a3_) | exact HB.out)) hb); clear HO151; clear HO156; clear HB; have HO151 := n0_; have HO156 := n1_; have HO160 := n2_; have HB := n3_; clear n0_ n1_ n2_ n3_; (try clear hb); (try clear hk); (try clear ho0)) | ((with_reducible refine gate_dst (N := 22) rfl ?_); (try (refine gate_guard (by rfl) ?_; dsimp only)); refine Kd.R_lit (Kd.int .i64) _ 2 ?hg (N := 22) ?hd (xs := ([2] : List Int)) (inner := [.int .i64 2]) (ok := fun _ => True) (okp := fun _ => True) ?hr ?hp (fun _ hk => hk) trivial (Below.refl _ _) (Nat.le_refl _) (by simp) ?_; (case hd => rfl); (case hg => rfl); (case hr => first | (go_simp; done) | (go_simp; rfl)); (case hp => exact (Reps.one (show Kd.M (Kd.int .i64) _ _ _ 2 [.int .i64 2] from rfl) (Reps.none _ _))); intro v162 w29 ho30 hb hg_ hnew_; clear hg_ hnew_; (first | rw [← Ny161.out] at ho30 | (simp only [Int.reduceToNat] at ho30; rw [← Ny161.out] at ho30)); have n0_ := Aside0.mk (Kd.R_below (by (with_reducible repeat (first | apply Kd.R_alloc | apply Kd.R_drewN | apply Kd.R_drew)); exact HO151.out) hb); have n1_ := Aside0.mk (Kd.R_below (by (with_reducible repeat (first | apply Kd.R_alloc | apply Kd.R_drewN | apply Kd.R_drew)); exact HO156.out) hb); have n2_ := Aside0.mk (Kd.R_elder' (by (with_reducible repeat (first | apply Kd.R_alloc | apply Kd.R_drewN | apply Kd.R_drew)); exact HO160.out) (Kd.R_base ho30) hb); have n3_ := Aside0.mk (Kd.R_lower (Kd.R_new' ho30 (Kd.R_lt (by (with_reducible repeat (first | apply Kd.R_alloc | apply Kd.R_drewN | apply Kd.R_drew)); exact HO160.out))) (below_size (by repeat (first | (with_reducible first | exact HB.out | apply a1_ | apply a2_ | apply a3_) | exact HB.out)))); have n4_ := Aside0.mk (below_step (by repeat (first | (with_reducible first | exact HB.out | apply a1_ | apply a2_ | apply a3_) | exact HB.out)) hb); clear HO151; clear HO156; clear HO160; clear HB; have HO151 := n0_; have HO156 := n1_; have HO160 := n2_; have HO163 := n3_; have HB := n4_; clear n0_ n1_ n2_ n3_ n4_; clear hb ho30; obtain ⟨Ao31, co31, eo31⟩ := Kd.R_slice HO160.out; subst eo31; obtain ⟨Ao32, co32, eo32⟩ := Kd.R_slice HO163.out; subst eo32) | (go_at_call 24; (with_reducible refine (outlawkit_Same_int64.calls k _ _ t158 _ _ y161 true _ ?side1 ?side2 ?side3 ?side4 A11.out).mono ?_); (case side1 => repeat (first | exact (Kd.R_reads' HO160.out).2.2 | (with_reducible refine Kd.C_alloc ?_ _) | (with_reducible refine Kd.C_drewN ?_ _) | (with_reducible refine Kd.C_drew ?_))); (case side2 => exact (Kd.R_reads' HO160.out).2.1); (case side3 => repeat (first | exact (Kd.R_reads' HO163.out).2.2 | (with_reducible refine Kd.C_alloc ?_ _) | (with_reducible refine Kd.C_drewN ?_ _) | (with_reducible refine Kd.C_drew ?_))); (case side4 => exact (Kd.R_reads' HO163.out).2.1); rintro e w' ⟨rfl, ⟨nd, rfl⟩⟩; obtain ⟨Ao33, co33, eo33⟩ := Kd.R_slice HO156.out; subst eo33) | (go_at_call 16; (with_reducible refine (audit_Life.calls _ _ y154 t165 _ ?side1 ?side2 A13.out).mono ?_); (case side1 => repeat (first | exact (Kd.R_reads' HO156.out).2.2 | (with_reducible refine Kd.C_alloc ?_ _) | (with_reducible refine Kd.C_drewN ?_ _) | (with_reducible refine Kd.C_drew ?_))); (case side2 => exact (Kd.R_reads' HO156.out).2.1); rintro e w34 ⟨rfl, hb⟩; have n0_ := Aside0.mk (Kd.R_below (by (with_reducible repeat (first | apply Kd.R_alloc | apply Kd.R_drewN | apply Kd.R_drew)); exact HO151.out) hb); have n1_ := Aside0.mk (Kd.R_below (by (with_reducible repeat (first | apply Kd.R_alloc | apply Kd.R_drewN | apply Kd.R_drew)); exact HO156.out) hb); have n2_ := Aside0.mk (Kd.R_below (by (with_reducible repeat (first | apply Kd.R_alloc | apply Kd.R_drewN | apply Kd.R_drew)); exact HO160.out) hb); have n3_ := Aside0.mk (Kd.R_below (by (with_reducible repeat (first | apply Kd.R_alloc | apply Kd.R_drewN | apply Kd.R_drew)); exact HO163.out) hb); have n4_ := Aside0.mk (below_step (by repeat (first | (with_reducible first | exact HB.out | apply a1_ | apply a2_ | apply a3_) | exact HB.out)) hb); clear HO151; clear HO156; clear HO160; clear HO163; clear HB; have HO151 := n0_; have HO156 := n1_; have HO160 := n2_; have HO163 := n3_; have HB := n4_; clear n0_ n1_ n2_ n3_ n4_; (try clear hb); (try clear hk)) | (go_at_call 25; (with_reducible refine (audit_Open.calls _ _ y154 t166 _ ?side1 ?side2 A15.out).mono ?_); (case side1 => repeat (first | exact (Kd.R_reads' HO156.out).2.2 | (with_reducible refine Kd.C_alloc ?_ _) | (with_reducible refine Kd.C_drewN ?_ _) | (with_reducible refine Kd.C_drew ?_))); (case side2 => exact (Kd.R_reads' HO156.out).2.1); rintro e w35 ⟨v167, rfl, ho0, hb⟩; have n0_ := Aside0.mk (Kd.R_below (by (with_reducible repeat (first | apply Kd.R_alloc | apply Kd.R_drewN | apply Kd.R_drew)); exact HO151.out) hb); have n1_ := Aside0.mk (Kd.R_below (by (with_reducible repeat (first | apply Kd.R_alloc | apply Kd.R_drewN | apply Kd.R_drew)); exact HO156.out) hb); have n2_ := Aside0.mk (Kd.R_elder' (by (with_reducible repeat (first | apply Kd.R_alloc | apply Kd.R_drewN | apply Kd.R_drew)); exact HO160.out) (Kd.R_base ho0) hb); have n3_ := Aside0.mk (Kd.R_elder' (by (with_reducible repeat (first | apply Kd.R_alloc | apply Kd.R_drewN | apply Kd.R_drew)); exact HO163.out) (Kd.R_base ho0) hb); have n4_ := Aside0.mk (Kd.R_lower (Kd.R_new' (Kd.R_new' ho0 (Kd.R_lt (by (with_reducible repeat (first | apply Kd.R_alloc | apply Kd.R_drewN | apply Kd.R_drew)); exact HO160.out))) (Kd.R_lt (by (with_reducible repeat (first | apply Kd.R_alloc | apply Kd.R_drewN | apply Kd.R_drew)); exact HO163.out))) (below_size (by repeat (first | (with_reducible first | exact HB.out | apply a1_ | apply a2_ | apply a3_) | exact HB.out)))); have n5_ := Aside0.mk (below_step (by repeat (first | (with_reducible first | exact HB.out | apply a1_ | apply a2_ | apply a3_) | exact HB.out)) hb); clear HO151; clear HO156; clear HO160; clear HO163; clear HB; have HO151 := n0_; have HO156 := n1_; have HO160 := n2_; have HO163 := n3_; have HO168 := n4_; have HB := n5_; clear n0_ n1_ n2_ n3_ n4_ n5_; (try clear hb); (try clear hk); (try clear ho0); obtain ⟨Ao36, co36, eo36⟩ := Kd.R_slice HO168.out; subst eo36))
      go_ret
      exact ⟨by first | rfl | (simp [errW_none, errW_some] <;> rfl) | (simp [*, errW_none, errW_some] <;> rfl), by repeat (first | (with_reducible first | exact HB.out | apply a1_ | apply a2_ | apply a3_) | exact HB.out)⟩
     ·rw [if_neg c14] at H
      have c14b0 : (t165 == 1) = false := beq_eq_false_iff_ne.mpr c14
      have c14b1 : (t165 != 1) = true := bne_iff_ne.mpr c14
      obtain rfl := Option.some.inj H
      go_enter Tryd.func7, Tryd.ntmps7
      try go_wp2_with (first | ((first | ((with_reducible refine gate_callee (f := 12) rfl ?_); refine goesL_ (some 3) rfl rfl Tryd.func12 (by kernel_rfl) rfl #[.int .i64 3, .int .i64 1] rfl (by (try simp only [List.map_toArray, List.map_cons, List.map_nil]); first | done | rfl | (simp only [List.length_drop, List.length_take]; rfl)) ?_; (with_reducible refine (outlawlaw23_note.calls 3 1 t104 t105 t106 t107 t108 t109 t110 t111 t112 _ A1.out).mono ?_)) | ((with_reducible refine gate_callee (f := 12) rfl ?_); refine goesL_ (some 4) rfl rfl Tryd.func12 (by kernel_rfl) rfl #[.int .i64 4, .int .i64 1] rfl (by (try simp only [List.map_toArray, List.map_cons, List.map_nil]); first | done | rfl | (simp only [List.length_drop, List.length_take]; rfl)) ?_; (with_reducible refine (outlawlaw23_note.calls 4 1 t113 t114 t115 t116 t117 t118 t119 t120 t121 _ A2.out).mono ?_)) | ((with_reducible refine gate_callee (f := 12) rfl ?_); refine goesL_ (some 5) rfl rfl Tryd.func12 (by kernel_rfl) rfl #[.int .i64 4, .int .i64 1] rfl (by (try simp only [List.map_toArray, List.map_cons, List.map_nil]); first | done | rfl | (simp only [List.length_drop, List.length_take]; rfl)) ?_; (with_reducible refine (outlawlaw23_note.calls 4 1 t122 t123 t124 t125 t126 t127 t128 t129 t130 _ A3.out).mono ?_)) | ((with_reducible refine gate_callee (f := 12) rfl ?_); refine goesL_ (some 6) rfl rfl Tryd.func12 (by kernel_rfl) rfl #[.int .i64 5, .int .i64 1] rfl (by (try simp only [List.map_toArray, List.map_cons, List.map_nil]); first | done | rfl | (simp only [List.length_drop, List.length_take]; rfl)) ?_; (with_reducible refine (outlawlaw23_note.calls 5 1 t131 t132 t133 t134 t135 t136 t137 t138 t139 _ A4.out).mono ?_)) | ((with_reducible refine gate_callee (f := 12) rfl ?_); refine goesL_ (some 7) rfl rfl Tryd.func12 (by kernel_rfl) rfl #[.int .i64 3, .int .i64 2] rfl (by (try simp only [List.map_toArray, List.map_cons, List.map_nil]); first | done | rfl | (simp only [List.length_drop, List.length_take]; rfl)) ?_; (with_reducible refine (outlawlaw23_note.calls 3 2 t140 t141 t142 t143 t144 t145 t146 t147 t148 _ A5.out).mono ?_))); rintro e w37 ⟨rfl, hb⟩; refine ⟨_, rfl, ?_⟩; have n0_ := Aside0.mk (below_step (by repeat (first | (with_reducible first | exact HB.out | apply a1_ | apply a2_ | apply a3_) | exact HB.out)) hb); clear HB; have HB := n0_; clear n0_; (try clear hb); (try clear hk)) | ((with_reducible refine gate_dst (N := 8) rfl ?_); (try (refine gate_guard (by rfl) ?_; dsimp only)); refine Kd.R_lit k30 _ 30 ?hg (N := 8) ?hd (xs := ([(⟨t104, t105, (⟨t106, t107, t108, t109, t110⟩ : S28), t111, t112⟩ : S30), (⟨t113, t114, (⟨t115, t116, t117, t118, t119⟩ : S28), t120, t121⟩ : S30), (⟨t122, t123, (⟨t124, t125, t126, t127, t128⟩ : S28), t129, t130⟩ : S30), (⟨t131, t132, (⟨t133, t134, t135, t136, t137⟩ : S28), t138, t139⟩ : S30), (⟨t140, t141, (⟨t142, t143, t144, t145, t146⟩ : S28), t147, t148⟩ : S30)] : List (S30))) (inner := [.int .i64 t104, .int .i64 t105, .int .i64 t106, .string t107, .string t108, .string t109, .string t110, .int .i64 t111, .string t112, .int .i64 t113, .int .i64 t114, .int .i64 t115, .string t116, .string t117, .string t118, .string t119, .int .i64 t120, .string t121, .int .i64 t122, .int .i64 t123, .int .i64 t124, .string t125, .string t126, .string t127, .string t128, .int .i64 t129, .string t130, .int .i64 t131, .int .i64 t132, .int .i64 t133, .string t134, .string t135, .string t136, .string t137, .int .i64 t138, .string t139, .int .i64 t140, .int .i64 t141, .int .i64 t142, .string t143, .string t144, .string t145, .string t146, .int .i64 t147, .string t148]) (ok := fun _ => True) (okp := fun _ => True) ?hr ?hp (fun _ hk => hk) trivial (Below.refl _ _) (Nat.le_refl _) (by simp) ?_; (case hd => rfl); (case hg => rfl); (case hr => first | (go_simp; done) | (go_simp; rfl)); (case hp => exact (Reps.c9 (show Kd.M k30 _ _ _ (⟨t104, t105, (⟨t106, t107, t108, t109, t110⟩ : S28), t111, t112⟩ : S30) [.int .i64 t104, .int .i64 t105, .int .i64 t106, .string t107, .string t108, .string t109, .string t110, .int .i64 t111, .string t112] from (k30_mkM _ _ _ (⟨t104, t105, (⟨t106, t107, t108, t109, t110⟩ : S28), t111, t112⟩ : S30) )) (Reps.c9 (show Kd.M k30 _ _ _ (⟨t113, t114, (⟨t115, t116, t117, t118, t119⟩ : S28), t120, t121⟩ : S30) [.int .i64 t113, .int .i64 t114, .int .i64 t115, .string t116, .string t117, .string t118, .string t119, .int .i64 t120, .string t121] from (k30_mkM _ _ _ (⟨t113, t114, (⟨t115, t116, t117, t118, t119⟩ : S28), t120, t121⟩ : S30) )) (Reps.c9 (show Kd.M k30 _ _ _ (⟨t122, t123, (⟨t124, t125, t126, t127, t128⟩ : S28), t129, t130⟩ : S30) [.int .i64 t122, .int .i64 t123, .int .i64 t124, .string t125, .string t126, .string t127, .string t128, .int .i64 t129, .string t130] from (k30_mkM _ _ _ (⟨t122, t123, (⟨t124, t125, t126, t127, t128⟩ : S28), t129, t130⟩ : S30) )) (Reps.c9 (show Kd.M k30 _ _ _ (⟨t131, t132, (⟨t133, t134, t135, t136, t137⟩ : S28), t138, t139⟩ : S30) [.int .i64 t131, .int .i64 t132, .int .i64 t133, .string t134, .string t135, .string t136, .string t137, .int .i64 t138, .string t139] from (k30_mkM _ _ _ (⟨t131, t132, (⟨t133, t134, t135, t136, t137⟩ : S28), t138, t139⟩ : S30) )) (Reps.c9 (show Kd.M k30 _ _ _ (⟨t140, t141, (⟨t142, t143, t144, t145, t146⟩ : S28), t147, t148⟩ : S30) [.int .i64 t140, .int .i64 t141, .int .i64 t142, .string t143, .string t144, .string t145, .string t146, .int .i64 t147, .string t148] from (k30_mkM _ _ _ (⟨t140, t141, (⟨t142, t143, t144, t145, t146⟩ : S28), t147, t148⟩ : S30) )) (Reps.none _ _))))))); intro v150 w42 ho43 hb hg_ hnew_; clear hg_ hnew_; (first | rw [← Ny149.out] at ho43 | (simp only [Int.reduceToNat] at ho43; rw [← Ny149.out] at ho43)); have n0_ := Aside0.mk (Kd.R_lower ho43 (below_size (by repeat (first | (with_reducible first | exact HB.out | apply a1_ | apply a2_ | apply a3_) | exact HB.out)))); have n1_ := Aside0.mk (below_step (by repeat (first | (with_reducible first | exact HB.out | apply a1_ | apply a2_ | apply a3_) | exact HB.out)) hb); clear HB; have HO151 := n0_; have HB := n1_; clear n0_ n1_; clear hb ho43))
      have n0_ := Aside0.mk (Kd.R_drew HO151.out)
      have n1_ := Aside0.mk (below_drew1 HB.out)
      clear HO151
      clear HB
      have HO151 := n0_
      have HB := n1_
      clear n0_ n1_
      obtain ⟨Ao45, co45, eo45⟩ := Kd.R_slice HO151.out
      (first | subst eo45 | (injection eo45 with f1_ f2_ f3_; have f4_ := f1_.symm; have f5_ := f3_.symm; clear f1_ f2_ f3_; subst f4_; subst f5_))
      have p152 : 0 ≤ (0 : Int) := (by omega)
      have q152 : 0 < (y149.length : Int) := of_decide_eq_true (by first | (with_reducible assumption) | assumption)
      obtain ⟨ad152, e152, hx152_0, hx152_1, hx152_2, hx152_3, hx152_4, hx152_5, hx152_6, hx152_7, hx152_8⟩ := at_T30 (Kd.R_reads' HO151.out).2.2 0 p152 q152
      cases e152
      have qi152 : (0 < y149.length) = True := eq_true (by omega)
      (try rw [show ((0 : Int)).toNat = 0 from rfl] at hx152_0)
      (try rw [show 0 * 9 = 0 from rfl] at hx152_0)
      (try rw [Addr.add_zero'] at hx152_0)
      (try rw [show ((0 : Int)).toNat = 0 from rfl] at hx152_1)
      (try rw [show 0 * 9 = 0 from rfl] at hx152_1)
      (try rw [Addr.add_zero'] at hx152_1)
      (try rw [show ((0 : Int)).toNat = 0 from rfl] at hx152_2)
      (try rw [show 0 * 9 = 0 from rfl] at hx152_2)
      (try rw [Addr.add_zero'] at hx152_2)
      (try rw [show ((0 : Int)).toNat = 0 from rfl] at hx152_3)
      (try rw [show 0 * 9 = 0 from rfl] at hx152_3)
      (try rw [Addr.add_zero'] at hx152_3)
      (try rw [show ((0 : Int)).toNat = 0 from rfl] at hx152_4)
      (try rw [show 0 * 9 = 0 from rfl] at hx152_4)
      (try rw [Addr.add_zero'] at hx152_4)
      (try rw [show ((0 : Int)).toNat = 0 from rfl] at hx152_5)
      (try rw [show 0 * 9 = 0 from rfl] at hx152_5)
      (try rw [Addr.add_zero'] at hx152_5)
      (try rw [show ((0 : Int)).toNat = 0 from rfl] at hx152_6)
      (try rw [show 0 * 9 = 0 from rfl] at hx152_6)
      (try rw [Addr.add_zero'] at hx152_6)
      (try rw [show ((0 : Int)).toNat = 0 from rfl] at hx152_7)
      (try rw [show 0 * 9 = 0 from rfl] at hx152_7)
      (try rw [Addr.add_zero'] at hx152_7)
      (try rw [show ((0 : Int)).toNat = 0 from rfl] at hx152_8)
      (try rw [show 0 * 9 = 0 from rfl] at hx152_8)
      (try rw [Addr.add_zero'] at hx152_8)
      replace p152 := eq_true p152
      replace q152 := eq_true q152
      have p153 : 0 ≤ (3 : Int) := (by omega)
      have q153 : 3 < (y149.length : Int) := of_decide_eq_true (by first | (with_reducible assumption) | assumption)
      obtain ⟨ad153, e153, hx153_0, hx153_1, hx153_2, hx153_3, hx153_4, hx153_5, hx153_6, hx153_7, hx153_8⟩ := at_T30 (Kd.R_reads' HO151.out).2.2 3 p153 q153
      obtain rfl : ad152 = ad153 := (by injection e153)
      (try simp only [show (3 : Int).toNat = 3 from rfl, Nat.reduceMul, Nat.reduceEqDiff, Go.Addr.add, ↓reduceIte] at hx153_0)
      (try simp only [show (3 : Int).toNat = 3 from rfl, Nat.reduceMul, Nat.reduceEqDiff, Go.Addr.add, ↓reduceIte] at hx153_1)
      (try simp only [show (3 : Int).toNat = 3 from rfl, Nat.reduceMul, Nat.reduceEqDiff, Go.Addr.add, ↓reduceIte] at hx153_2)
      (try simp only [show (3 : Int).toNat = 3 from rfl, Nat.reduceMul, Nat.reduceEqDiff, Go.Addr.add, ↓reduceIte] at hx153_3)
      (try simp only [show (3 : Int).toNat = 3 from rfl, Nat.reduceMul, Nat.reduceEqDiff, Go.Addr.add, ↓reduceIte] at hx153_4)
      (try simp only [show (3 : Int).toNat = 3 from rfl, Nat.reduceMul, Nat.reduceEqDiff, Go.Addr.add, ↓reduceIte] at hx153_5)
      (try simp only [show (3 : Int).toNat = 3 from rfl, Nat.reduceMul, Nat.reduceEqDiff, Go.Addr.add, ↓reduceIte] at hx153_6)
      (try simp only [show (3 : Int).toNat = 3 from rfl, Nat.reduceMul, Nat.reduceEqDiff, Go.Addr.add, ↓reduceIte] at hx153_7)
      (try simp only [show (3 : Int).toNat = 3 from rfl, Nat.reduceMul, Nat.reduceEqDiff, Go.Addr.add, ↓reduceIte] at hx153_8)
      have qi153 : (3 < y149.length) = True := eq_true (by omega)
      (try rw [show ((3 : Int)).toNat = 3 from rfl] at hx153_0)
      (try rw [show 3 * 9 = 27 from rfl] at hx153_0)
      (try rw [show ((3 : Int)).toNat = 3 from rfl] at hx153_1)
      (try rw [show 3 * 9 = 27 from rfl] at hx153_1)
      (try rw [show ((3 : Int)).toNat = 3 from rfl] at hx153_2)
      (try rw [show 3 * 9 = 27 from rfl] at hx153_2)
      (try rw [show ((3 : Int)).toNat = 3 from rfl] at hx153_3)
      (try rw [show 3 * 9 = 27 from rfl] at hx153_3)
      (try rw [show ((3 : Int)).toNat = 3 from rfl] at hx153_4)
      (try rw [show 3 * 9 = 27 from rfl] at hx153_4)
      (try rw [show ((3 : Int)).toNat = 3 from rfl] at hx153_5)
      (try rw [show 3 * 9 = 27 from rfl] at hx153_5)
      (try rw [show ((3 : Int)).toNat = 3 from rfl] at hx153_6)
      (try rw [show 3 * 9 = 27 from rfl] at hx153_6)
      (try rw [show ((3 : Int)).toNat = 3 from rfl] at hx153_7)
      (try rw [show 3 * 9 = 27 from rfl] at hx153_7)
      (try rw [show ((3 : Int)).toNat = 3 from rfl] at hx153_8)
      (try rw [show 3 * 9 = 27 from rfl] at hx153_8)
      replace p153 := eq_true p153
      replace q153 := eq_true q153
      refine start_ (n := 8) (S := fun w' => w'.cell? ad152 = some (.int .i64 ((rd_T30 y149 0).f0)) ∧ w'.cell? ⟨ad152.block, ad152.off + 1, none⟩ = some (.int .i64 ((rd_T30 y149 0).f1)) ∧ w'.cell? ⟨ad152.block, ad152.off + 2, none⟩ = some (.int .i64 ((rd_T30 y149 0).f2.f0)) ∧ w'.cell? ⟨ad152.block, ad152.off + 3, none⟩ = some (.string ((rd_T30 y149 0).f2.f1)) ∧ w'.cell? ⟨ad152.block, ad152.off + 4, none⟩ = some (.string ((rd_T30 y149 0).f2.f2)) ∧ w'.cell? ⟨ad152.block, ad152.off + 5, none⟩ = some (.string ((rd_T30 y149 0).f2.f3)) ∧ w'.cell? ⟨ad152.block, ad152.off + 6, none⟩ = some (.string ((rd_T30 y149 0).f2.f4)) ∧ w'.cell? ⟨ad152.block, ad152.off + 7, none⟩ = some (.int .i64 ((rd_T30 y149 0).f3)) ∧ w'.cell? ⟨ad152.block, ad152.off + 8, none⟩ = some (.string ((rd_T30 y149 0).f4)) ∧ w'.cell? ⟨ad152.block, ad152.off + 27, none⟩ = some (.int .i64 ((rd_T30 y149 3).f0)) ∧ w'.cell? ⟨ad152.block, ad152.off + 27 + 1, none⟩ = some (.int .i64 ((rd_T30 y149 3).f1)) ∧ w'.cell? ⟨ad152.block, ad152.off + 27 + 2, none⟩ = some (.int .i64 ((rd_T30 y149 3).f2.f0)) ∧ w'.cell? ⟨ad152.block, ad152.off + 27 + 3, none⟩ = some (.string ((rd_T30 y149 3).f2.f1)) ∧ w'.cell? ⟨ad152.block, ad152.off + 27 + 4, none⟩ = some (.string ((rd_T30 y149 3).f2.f2)) ∧ w'.cell? ⟨ad152.block, ad152.off + 27 + 5, none⟩ = some (.string ((rd_T30 y149 3).f2.f3)) ∧ w'.cell? ⟨ad152.block, ad152.off + 27 + 6, none⟩ = some (.string ((rd_T30 y149 3).f2.f4)) ∧ w'.cell? ⟨ad152.block, ad152.off + 27 + 7, none⟩ = some (.int .i64 ((rd_T30 y149 3).f3)) ∧ w'.cell? ⟨ad152.block, ad152.off + 27 + 8, none⟩ = some (.string ((rd_T30 y149 3).f4))) (ds := []) #[F_,F_,F_,F_,F_,F_,F_,F_] (by kernel_rfl) rfl rfl ⟨hx152_0, hx152_1, hx152_2, hx152_3, hx152_4, hx152_5, hx152_6, hx152_7, hx152_8, hx153_0, hx153_1, hx153_2, hx153_3, hx153_4, hx153_5, hx153_6, hx153_7, hx153_8⟩ (fun hHeld => ?_); refine with_tabW outlawlaw23_lives.tab2 outlawlaw23_lives.bits2 (fun HT_ HW_ => ?_)
      generalize w42.drew = w44 at HO151 HB hx152_0 hx152_1 hx152_2 hx152_3 hx152_4 hx152_5 hx152_6 hx152_7 hx152_8 hx153_0 hx153_1 hx153_2 hx153_3 hx153_4 hx153_5 hx153_6 hx153_7 hx153_8 hHeld ⊢
      refine pq_ 0 9 (mb_ 8 1) HT_.out ?_
      refine pq_ 1 10 (mb_ 8 3) HT_.out ?_
      refine pq_ 3 12 (mb_ 8 11) HT_.out ?_
      refine pq_ 4 13 (mb_ 8 27) HT_.out ?_
      refine tq_ 2 11 (mb_ 8 31) HT_.out HW_.out hHeld ?_ (hr := by rintro w' ⟨s0, s1, s2, s3, s4, s5, s6, s7, s8, s9, s10, s11, s12, s13, s14, s15, s16, s17⟩; go_simp; with_reducible rfl)
      refine tq_ 5 14 (mb_ 8 63) HT_.out HW_.out hHeld ?_ (hr := by rintro w' ⟨s0, s1, s2, s3, s4, s5, s6, s7, s8, s9, s10, s11, s12, s13, s14, s15, s16, s17⟩; go_simp; with_reducible rfl)
      refine one_ (i := 6) (N := some 15) (mb_ 8 127) rfl rfl (one_of HT_.out (by kernel_rfl)) (by decide) (fun K hK => ?_)
      refine Kd.R_lit_step k30 _ 30 ?hg (N := 15) ?hd (xs := ([(⟨(rd_T30 y149 0).f0, (rd_T30 y149 0).f1, (⟨(rd_T30 y149 0).f2.f0, (rd_T30 y149 0).f2.f1, (rd_T30 y149 0).f2.f2, (rd_T30 y149 0).f2.f3, (rd_T30 y149 0).f2.f4⟩ : S28), (rd_T30 y149 0).f3, (rd_T30 y149 0).f4⟩ : S30), (⟨(rd_T30 y149 3).f0, (rd_T30 y149 3).f1, (⟨(rd_T30 y149 3).f2.f0, (rd_T30 y149 3).f2.f1, (rd_T30 y149 3).f2.f2, (rd_T30 y149 3).f2.f3, (rd_T30 y149 3).f2.f4⟩ : S28), (rd_T30 y149 3).f3, (rd_T30 y149 3).f4⟩ : S30)] : List (S30))) (inner := [.int .i64 ((rd_T30 y149 0).f0), .int .i64 ((rd_T30 y149 0).f1), .int .i64 ((rd_T30 y149 0).f2.f0), .string ((rd_T30 y149 0).f2.f1), .string ((rd_T30 y149 0).f2.f2), .string ((rd_T30 y149 0).f2.f3), .string ((rd_T30 y149 0).f2.f4), .int .i64 ((rd_T30 y149 0).f3), .string ((rd_T30 y149 0).f4), .int .i64 ((rd_T30 y149 3).f0), .int .i64 ((rd_T30 y149 3).f1), .int .i64 ((rd_T30 y149 3).f2.f0), .string ((rd_T30 y149 3).f2.f1), .string ((rd_T30 y149 3).f2.f2), .string ((rd_T30 y149 3).f2.f3), .string ((rd_T30 y149 3).f2.f4), .int .i64 ((rd_T30 y149 3).f3), .string ((rd_T30 y149 3).f4)]) (ok := fun _ => True) (okp := fun _ => True) ?hr ?hp (fun _ hk => hk) trivial (Below.refl _ _) (Nat.le_refl _) (by simp) ?_; (case hd => rfl); (case hg => rfl); (case hr => first | (go_simp; done) | (go_simp; rfl)); (case hp => exact (Reps.c9 (show Kd.M k30 _ _ _ (⟨(rd_T30 y149 0).f0, (rd_T30 y149 0).f1, (⟨(rd_T30 y149 0).f2.f0, (rd_T30 y149 0).f2.f1, (rd_T30 y149 0).f2.f2, (rd_T30 y149 0).f2.f3, (rd_T30 y149 0).f2.f4⟩ : S28), (rd_T30 y149 0).f3, (rd_T30 y149 0).f4⟩ : S30) [.int .i64 ((rd_T30 y149 0).f0), .int .i64 ((rd_T30 y149 0).f1), .int .i64 ((rd_T30 y149 0).f2.f0), .string ((rd_T30 y149 0).f2.f1), .string ((rd_T30 y149 0).f2.f2), .string ((rd_T30 y149 0).f2.f3), .string ((rd_T30 y149 0).f2.f4), .int .i64 ((rd_T30 y149 0).f3), .string ((rd_T30 y149 0).f4)] from (k30_mkM _ _ _ (⟨(rd_T30 y149 0).f0, (rd_T30 y149 0).f1, (⟨(rd_T30 y149 0).f2.f0, (rd_T30 y149 0).f2.f1, (rd_T30 y149 0).f2.f2, (rd_T30 y149 0).f2.f3, (rd_T30 y149 0).f2.f4⟩ : S28), (rd_T30 y149 0).f3, (rd_T30 y149 0).f4⟩ : S30) )) (Reps.c9 (show Kd.M k30 _ _ _ (⟨(rd_T30 y149 3).f0, (rd_T30 y149 3).f1, (⟨(rd_T30 y149 3).f2.f0, (rd_T30 y149 3).f2.f1, (rd_T30 y149 3).f2.f2, (rd_T30 y149 3).f2.f3, (rd_T30 y149 3).f2.f4⟩ : S28), (rd_T30 y149 3).f3, (rd_T30 y149 3).f4⟩ : S30) [.int .i64 ((rd_T30 y149 3).f0), .int .i64 ((rd_T30 y149 3).f1), .int .i64 ((rd_T30 y149 3).f2.f0), .string ((rd_T30 y149 3).f2.f1), .string ((rd_T30 y149 3).f2.f2), .string ((rd_T30 y149 3).f2.f3), .string ((rd_T30 y149 3).f2.f4), .int .i64 ((rd_T30 y149 3).f3), .string ((rd_T30 y149 3).f4)] from (k30_mkM _ _ _ (⟨(rd_T30 y149 3).f0, (rd_T30 y149 3).f1, (⟨(rd_T30 y149 3).f2.f0, (rd_T30 y149 3).f2.f1, (rd_T30 y149 3).f2.f2, (rd_T30 y149 3).f2.f3, (rd_T30 y149 3).f2.f4⟩ : S28), (rd_T30 y149 3).f3, (rd_T30 y149 3).f4⟩ : S30) )) (Reps.none _ _))))
      intro v155 w46 ho47 hb hg_ hnew_
      have HS0_ := (hb.cell (World.block_lt_of_cell? _ _ (hHeld.1))).trans (hHeld.1)
      have HS1_ := (hb.cell (World.block_lt_of_cell? _ _ (hHeld.2.1))).trans (hHeld.2.1)
      have HS2_ := (hb.cell (World.block_lt_of_cell? _ _ (hHeld.2.2.1))).trans (hHeld.2.2.1)
      have HS3_ := (hb.cell (World.block_lt_of_cell? _ _ (hHeld.2.2.2.1))).trans (hHeld.2.2.2.1)
      have HS4_ := (hb.cell (World.block_lt_of_cell? _ _ (hHeld.2.2.2.2.1))).trans (hHeld.2.2.2.2.1)
      have HS5_ := (hb.cell (World.block_lt_of_cell? _ _ (hHeld.2.2.2.2.2.1))).trans (hHeld.2.2.2.2.2.1)
      have HS6_ := (hb.cell (World.block_lt_of_cell? _ _ (hHeld.2.2.2.2.2.2.1))).trans (hHeld.2.2.2.2.2.2.1)
      have HS7_ := (hb.cell (World.block_lt_of_cell? _ _ (hHeld.2.2.2.2.2.2.2.1))).trans (hHeld.2.2.2.2.2.2.2.1)
      have HS8_ := (hb.cell (World.block_lt_of_cell? _ _ (hHeld.2.2.2.2.2.2.2.2.1))).trans (hHeld.2.2.2.2.2.2.2.2.1)
      have HS9_ := (hb.cell (World.block_lt_of_cell? _ _ (hHeld.2.2.2.2.2.2.2.2.2.1))).trans (hHeld.2.2.2.2.2.2.2.2.2.1)
      have HS10_ := (hb.cell (World.block_lt_of_cell? _ _ (hHeld.2.2.2.2.2.2.2.2.2.2.1))).trans (hHeld.2.2.2.2.2.2.2.2.2.2.1)
      have HS11_ := (hb.cell (World.block_lt_of_cell? _ _ (hHeld.2.2.2.2.2.2.2.2.2.2.2.1))).trans (hHeld.2.2.2.2.2.2.2.2.2.2.2.1)
      have HS12_ := (hb.cell (World.block_lt_of_cell? _ _ (hHeld.2.2.2.2.2.2.2.2.2.2.2.2.1))).trans (hHeld.2.2.2.2.2.2.2.2.2.2.2.2.1)
      have HS13_ := (hb.cell (World.block_lt_of_cell? _ _ (hHeld.2.2.2.2.2.2.2.2.2.2.2.2.2.1))).trans (hHeld.2.2.2.2.2.2.2.2.2.2.2.2.2.1)
      have HS14_ := (hb.cell (World.block_lt_of_cell? _ _ (hHeld.2.2.2.2.2.2.2.2.2.2.2.2.2.2.1))).trans (hHeld.2.2.2.2.2.2.2.2.2.2.2.2.2.2.1)
      have HS15_ := (hb.cell (World.block_lt_of_cell? _ _ (hHeld.2.2.2.2.2.2.2.2.2.2.2.2.2.2.2.1))).trans (hHeld.2.2.2.2.2.2.2.2.2.2.2.2.2.2.2.1)
      have HS16_ := (hb.cell (World.block_lt_of_cell? _ _ (hHeld.2.2.2.2.2.2.2.2.2.2.2.2.2.2.2.2.1))).trans (hHeld.2.2.2.2.2.2.2.2.2.2.2.2.2.2.2.2.1)
      have HS17_ := (hb.cell (World.block_lt_of_cell? _ _ (hHeld.2.2.2.2.2.2.2.2.2.2.2.2.2.2.2.2.2))).trans (hHeld.2.2.2.2.2.2.2.2.2.2.2.2.2.2.2.2.2)
      clear hg_ hnew_
      (first | rw [← Ny154.out] at ho47 | (simp only [Int.reduceToNat] at ho47; rw [← Ny154.out] at ho47))
      have n0_ := Aside0.mk (Kd.R_elder' (by (with_reducible repeat (first | apply Kd.R_alloc | apply Kd.R_drewN | apply Kd.R_drew)); exact HO151.out) (Kd.R_base ho47) hb)
      have n1_ := Aside0.mk (Kd.R_lower (Kd.R_new' ho47 (Kd.R_lt (by (with_reducible repeat (first | apply Kd.R_alloc | apply Kd.R_drewN | apply Kd.R_drew)); exact HO151.out))) (below_size (by repeat (first | (with_reducible first | exact HB.out | apply a1_ | apply a2_ | apply a3_) | exact HB.out))))
      have n2_ := Aside0.mk (below_step (by repeat (first | (with_reducible first | exact HB.out | apply a1_ | apply a2_ | apply a3_) | exact HB.out)) hb)
      clear HO151
      clear HB
      have HO151 := n0_
      have HO156 := n1_
      have HB := n2_
      clear n0_ n1_ n2_
      clear hb ho47
      refine hK.out _ _ ⟨HS0_, HS1_, HS2_, HS3_, HS4_, HS5_, HS6_, HS7_, HS8_, HS9_, HS10_, HS11_, HS12_, HS13_, HS14_, HS15_, HS16_, HS17_⟩ (fun hHeld => ?_)
      clear hK K
      refine norm_ (a' := ?_) ?_ ?_
      rotate_left
      ·show Act.put _ (some 15) _ = _
       simp only [Act.put, List.setIfInBounds_toArray, List.set_cons_zero, List.set_cons_succ, i64_w, i32_w]
       rfl
      refine pq_ 7 2 (mb_ 8 255) HT_.out ?_
      refine done_ (done_of HT_.out (by kernel_rfl)) ?_
      try go_wp2_with (first | ((with_reducible refine gate_callee (f := 16) rfl ?_); refine goesL_ (some 17) rfl rfl Tryd.func16 (by kernel_rfl) rfl #[.slice (some ad152) y149.length co45] rfl (by (try simp only [List.map_toArray, List.map_cons, List.map_nil]); first | done | rfl | (simp only [List.length_drop, List.length_take]; rfl)) ?_; (with_reducible refine (audit_Life.calls _ _ y149 t157 _ ?side1 ?side2 A8.out).mono ?_); (case side1 => repeat (first | exact (Kd.R_reads' HO151.out).2.2 | (with_reducible refine Kd.C_alloc ?_ _) | (with_reducible refine Kd.C_drewN ?_ _) | (with_reducible refine Kd.C_drew ?_))); (case side2 => exact (Kd.R_reads' HO151.out).2.1); rintro e w48 ⟨rfl, hb⟩; refine ⟨_, rfl, ?_⟩; have n0_ := Aside0.mk (Kd.R_below (by (with_reducible repeat (first | apply Kd.R_alloc | apply Kd.R_drewN | apply Kd.R_drew)); exact HO151.out) hb); have n1_ := Aside0.mk (Kd.R_below (by (with_reducible repeat (first | apply Kd.R_alloc | apply Kd.R_drewN | apply Kd.R_drew)); exact HO156.out) hb); have n2_ := Aside0.mk (below_step (by repeat (first | (with_reducible first | exact HB.out | apply a1_ | apply a2_ | apply a3_) | exact HB.out)) hb); clear HO151; clear HO156; clear HB; have HO151 := n0_; have HO156 := n1_; have HB := n2_; clear n0_ n1_ n2_; (try clear hb); (try clear hk)) | (go_at_call 25; (with_reducible refine (audit_Open.calls _ _ y149 t158 _ ?side1 ?side2 A10.out).mono ?_); (case side1 => repeat (first | exact (Kd.R_reads' HO151.out).2.2 | (with_reducible refine Kd.C_alloc ?_ _) | (with_reducible refine Kd.C_drewN ?_ _) | (with_reducible refine Kd.C_drew ?_))); (case side2 => exact (Kd.R_reads' HO151.out).2.1); rintro e w49 ⟨v159, rfl, ho0, hb⟩; have n0_ := Aside0.mk (Kd.R_below (by (with_reducible repeat (first | apply Kd.R_alloc | apply Kd.R_drewN | apply Kd.R_drew)); exact HO151.out) hb); have n1_ := Aside0.mk (Kd.R_below (by (with_reducible repeat (first | apply Kd.R_alloc | apply Kd.R_drewN | apply Kd.R_drew)); exact HO156.out) hb); have n2_ := Aside0.mk (Kd.R_lower ho0 (below_size (by repeat (first | (with_reducible first | exact HB.out | apply a1_ | apply a2_ | apply a3_) | exact HB.out)))); have n3_ := Aside0.mk (below_step (by repeat (first | (with_reducible first | exact HB.out | apply a1_ | apply a2_ | apply a3_) | exact HB.out)) hb); clear HO151; clear HO156; clear HB; have HO151 := n0_; have HO156 := n1_; have HO160 := n2_; have HB := n3_; clear n0_ n1_ n2_ n3_; (try clear hb); (try clear hk); (try clear ho0)) | ((with_reducible refine gate_dst (N := 22) rfl ?_); (try (refine gate_guard (by rfl) ?_; dsimp only)); refine Kd.R_lit (Kd.int .i64) _ 2 ?hg (N := 22) ?hd (xs := ([2] : List Int)) (inner := [.int .i64 2]) (ok := fun _ => True) (okp := fun _ => True) ?hr ?hp (fun _ hk => hk) trivial (Below.refl _ _) (Nat.le_refl _) (by simp) ?_; (case hd => rfl); (case hg => rfl); (case hr => first | (go_simp; done) | (go_simp; rfl)); (case hp => exact (Reps.one (show Kd.M (Kd.int .i64) _ _ _ 2 [.int .i64 2] from rfl) (Reps.none _ _))); intro v162 w50 ho51 hb hg_ hnew_; clear hg_ hnew_; (first | rw [← Ny161.out] at ho51 | (simp only [Int.reduceToNat] at ho51; rw [← Ny161.out] at ho51)); have n0_ := Aside0.mk (Kd.R_below (by (with_reducible repeat (first | apply Kd.R_alloc | apply Kd.R_drewN | apply Kd.R_drew)); exact HO151.out) hb); have n1_ := Aside0.mk (Kd.R_below (by (with_reducible repeat (first | apply Kd.R_alloc | apply Kd.R_drewN | apply Kd.R_drew)); exact HO156.out) hb); have n2_ := Aside0.mk (Kd.R_elder' (by (with_reducible repeat (first | apply Kd.R_alloc | apply Kd.R_drewN | apply Kd.R_drew)); exact HO160.out) (Kd.R_base ho51) hb); have n3_ := Aside0.mk (Kd.R_lower (Kd.R_new' ho51 (Kd.R_lt (by (with_reducible repeat (first | apply Kd.R_alloc | apply Kd.R_drewN | apply Kd.R_drew)); exact HO160.out))) (below_size (by repeat (first | (with_reducible first | exact HB.out | apply a1_ | apply a2_ | apply a3_) | exact HB.out)))); have n4_ := Aside0.mk (below_step (by repeat (first | (with_reducible first | exact HB.out | apply a1_ | apply a2_ | apply a3_) | exact HB.out)) hb); clear HO151; clear HO156; clear HO160; clear HB; have HO151 := n0_; have HO156 := n1_; have HO160 := n2_; have HO163 := n3_; have HB := n4_; clear n0_ n1_ n2_ n3_ n4_; clear hb ho51; obtain ⟨Ao52, co52, eo52⟩ := Kd.R_slice HO160.out; subst eo52; obtain ⟨Ao53, co53, eo53⟩ := Kd.R_slice HO163.out; subst eo53) | (go_at_call 24; (with_reducible refine (outlawkit_Same_int64.calls k _ _ t158 _ _ y161 true _ ?side1 ?side2 ?side3 ?side4 A11.out).mono ?_); (case side1 => repeat (first | exact (Kd.R_reads' HO160.out).2.2 | (with_reducible refine Kd.C_alloc ?_ _) | (with_reducible refine Kd.C_drewN ?_ _) | (with_reducible refine Kd.C_drew ?_))); (case side2 => exact (Kd.R_reads' HO160.out).2.1); (case side3 => repeat (first | exact (Kd.R_reads' HO163.out).2.2 | (with_reducible refine Kd.C_alloc ?_ _) | (with_reducible refine Kd.C_drewN ?_ _) | (with_reducible refine Kd.C_drew ?_))); (case side4 => exact (Kd.R_reads' HO163.out).2.1); rintro e w' ⟨rfl, ⟨nd, rfl⟩⟩; obtain ⟨Ao54, co54, eo54⟩ := Kd.R_slice HO156.out; subst eo54) | (go_at_call 16; (with_reducible refine (audit_Life.calls _ _ y154 t165 _ ?side1 ?side2 A13.out).mono ?_); (case side1 => repeat (first | exact (Kd.R_reads' HO156.out).2.2 | (with_reducible refine Kd.C_alloc ?_ _) | (with_reducible refine Kd.C_drewN ?_ _) | (with_reducible refine Kd.C_drew ?_))); (case side2 => exact (Kd.R_reads' HO156.out).2.1); rintro e w55 ⟨rfl, hb⟩; have n0_ := Aside0.mk (Kd.R_below (by (with_reducible repeat (first | apply Kd.R_alloc | apply Kd.R_drewN | apply Kd.R_drew)); exact HO151.out) hb); have n1_ := Aside0.mk (Kd.R_below (by (with_reducible repeat (first | apply Kd.R_alloc | apply Kd.R_drewN | apply Kd.R_drew)); exact HO156.out) hb); have n2_ := Aside0.mk (Kd.R_below (by (with_reducible repeat (first | apply Kd.R_alloc | apply Kd.R_drewN | apply Kd.R_drew)); exact HO160.out) hb); have n3_ := Aside0.mk (Kd.R_below (by (with_reducible repeat (first | apply Kd.R_alloc | apply Kd.R_drewN | apply Kd.R_drew)); exact HO163.out) hb); have n4_ := Aside0.mk (below_step (by repeat (first | (with_reducible first | exact HB.out | apply a1_ | apply a2_ | apply a3_) | exact HB.out)) hb); clear HO151; clear HO156; clear HO160; clear HO163; clear HB; have HO151 := n0_; have HO156 := n1_; have HO160 := n2_; have HO163 := n3_; have HB := n4_; clear n0_ n1_ n2_ n3_ n4_; (try clear hb); (try clear hk)))
      go_ret
      exact ⟨by first | rfl | (simp [errW_none, errW_some] <;> rfl) | (simp [*, errW_none, errW_some] <;> rfl), by repeat (first | (with_reducible first | exact HB.out | apply a1_ | apply a2_ | apply a3_) | exact HB.out)⟩
    ·replace c12 := Bool.eq_false_iff.mpr c12
     subst c12
     rw [if_neg (show ¬ (false = true) by decide)] at H
     obtain rfl := Option.some.inj H
     go_enter Tryd.func7, Tryd.ntmps7
     try go_wp2_with (first | ((first | ((with_reducible refine gate_callee (f := 12) rfl ?_); refine goesL_ (some 3) rfl rfl Tryd.func12 (by kernel_rfl) rfl #[.int .i64 3, .int .i64 1] rfl (by (try simp only [List.map_toArray, List.map_cons, List.map_nil]); first | done | rfl | (simp only [List.length_drop, List.length_take]; rfl)) ?_; (with_reducible refine (outlawlaw23_note.calls 3 1 t104 t105 t106 t107 t108 t109 t110 t111 t112 _ A1.out).mono ?_)) | ((with_reducible refine gate_callee (f := 12) rfl ?_); refine goesL_ (some 4) rfl rfl Tryd.func12 (by kernel_rfl) rfl #[.int .i64 4, .int .i64 1] rfl (by (try simp only [List.map_toArray, List.map_cons, List.map_nil]); first | done | rfl | (simp only [List.length_drop, List.length_take]; rfl)) ?_; (with_reducible refine (outlawlaw23_note.calls 4 1 t113 t114 t115 t116 t117 t118 t119 t120 t121 _ A2.out).mono ?_)) | ((with_reducible refine gate_callee (f := 12) rfl ?_); refine goesL_ (some 5) rfl rfl Tryd.func12 (by kernel_rfl) rfl #[.int .i64 4, .int .i64 1] rfl (by (try simp only [List.map_toArray, List.map_cons, List.map_nil]); first | done | rfl | (simp only [List.length_drop, List.length_take]; rfl)) ?_; (with_reducible refine (outlawlaw23_note.calls 4 1 t122 t123 t124 t125 t126 t127 t128 t129 t130 _ A3.out).mono ?_)) | ((with_reducible refine gate_callee (f := 12) rfl ?_); refine goesL_ (some 6) rfl rfl Tryd.func12 (by kernel_rfl) rfl #[.int .i64 5, .int .i64 1] rfl (by (try simp only [List.map_toArray, List.map_cons, List.map_nil]); first | done | rfl | (simp only [List.length_drop, List.length_take]; rfl)) ?_; (with_reducible refine (outlawlaw23_note.calls 5 1 t131 t132 t133 t134 t135 t136 t137 t138 t139 _ A4.out).mono ?_)) | ((with_reducible refine gate_callee (f := 12) rfl ?_); refine goesL_ (some 7) rfl rfl Tryd.func12 (by kernel_rfl) rfl #[.int .i64 3, .int .i64 2] rfl (by (try simp only [List.map_toArray, List.map_cons, List.map_nil]); first | done | rfl | (simp only [List.length_drop, List.length_take]; rfl)) ?_; (with_reducible refine (outlawlaw23_note.calls 3 2 t140 t141 t142 t143 t144 t145 t146 t147 t148 _ A5.out).mono ?_))); rintro e w56 ⟨rfl, hb⟩; refine ⟨_, rfl, ?_⟩; have n0_ := Aside0.mk (below_step (by repeat (first | (with_reducible first | exact HB.out | apply a1_ | apply a2_ | apply a3_) | exact HB.out)) hb); clear HB; have HB := n0_; clear n0_; (try clear hb); (try clear hk)) | ((with_reducible refine gate_dst (N := 8) rfl ?_); (try (refine gate_guard (by rfl) ?_; dsimp only)); refine Kd.R_lit k30 _ 30 ?hg (N := 8) ?hd (xs := ([(⟨t104, t105, (⟨t106, t107, t108, t109, t110⟩ : S28), t111, t112⟩ : S30), (⟨t113, t114, (⟨t115, t116, t117, t118, t119⟩ : S28), t120, t121⟩ : S30), (⟨t122, t123, (⟨t124, t125, t126, t127, t128⟩ : S28), t129, t130⟩ : S30), (⟨t131, t132, (⟨t133, t134, t135, t136, t137⟩ : S28), t138, t139⟩ : S30), (⟨t140, t141, (⟨t142, t143, t144, t145, t146⟩ : S28), t147, t148⟩ : S30)] : List (S30))) (inner := [.int .i64 t104, .int .i64 t105, .int .i64 t106, .string t107, .string t108, .string t109, .string t110, .int .i64 t111, .string t112, .int .i64 t113, .int .i64 t114, .int .i64 t115, .string t116, .string t117, .string t118, .string t119, .int .i64 t120, .string t121, .int .i64 t122, .int .i64 t123, .int .i64 t124, .string t125, .string t126, .string t127, .string t128, .int .i64 t129, .string t130, .int .i64 t131, .int .i64 t132, .int .i64 t133, .string t134, .string t135, .string t136, .string t137, .int .i64 t138, .string t139, .int .i64 t140, .int .i64 t141, .int .i64 t142, .string t143, .string t144, .string t145, .string t146, .int .i64 t147, .string t148]) (ok := fun _ => True) (okp := fun _ => True) ?hr ?hp (fun _ hk => hk) trivial (Below.refl _ _) (Nat.le_refl _) (by simp) ?_; (case hd => rfl); (case hg => rfl); (case hr => first | (go_simp; done) | (go_simp; rfl)); (case hp => exact (Reps.c9 (show Kd.M k30 _ _ _ (⟨t104, t105, (⟨t106, t107, t108, t109, t110⟩ : S28), t111, t112⟩ : S30) [.int .i64 t104, .int .i64 t105, .int .i64 t106, .string t107, .string t108, .string t109, .string t110, .int .i64 t111, .string t112] from (k30_mkM _ _ _ (⟨t104, t105, (⟨t106, t107, t108, t109, t110⟩ : S28), t111, t112⟩ : S30) )) (Reps.c9 (show Kd.M k30 _ _ _ (⟨t113, t114, (⟨t115, t116, t117, t118, t119⟩ : S28), t120, t121⟩ : S30) [.int .i64 t113, .int .i64 t114, .int .i64 t115, .string t116, .string t117, .string t118, .string t119, .int .i64 t120, .string t121] from (k30_mkM _ _ _ (⟨t113, t114, (⟨t115, t116, t117, t118, t119⟩ : S28), t120, t121⟩ : S30) )) (Reps.c9 (show Kd.M k30 _ _ _ (⟨t122, t123, (⟨t124, t125, t126, t127, t128⟩ : S28), t129, t130⟩ : S30) [.int .i64 t122, .int .i64 t123, .int .i64 t124, .string t125, .string t126, .string t127, .string t128, .int .i64 t129, .string t130] from (k30_mkM _ _ _ (⟨t122, t123, (⟨t124, t125, t126, t127, t128⟩ : S28), t129, t130⟩ : S30) )) (Reps.c9 (show Kd.M k30 _ _ _ (⟨t131, t132, (⟨t133, t134, t135, t136, t137⟩ : S28), t138, t139⟩ : S30) [.int .i64 t131, .int .i64 t132, .int .i64 t133, .string t134, .string t135, .string t136, .string t137, .int .i64 t138, .string t139] from (k30_mkM _ _ _ (⟨t131, t132, (⟨t133, t134, t135, t136, t137⟩ : S28), t138, t139⟩ : S30) )) (Reps.c9 (show Kd.M k30 _ _ _ (⟨t140, t141, (⟨t142, t143, t144, t145, t146⟩ : S28), t147, t148⟩ : S30) [.int .i64 t140, .int .i64 t141, .int .i64 t142, .string t143, .string t144, .string t145, .string t146, .int .i64 t147, .string t148] from (k30_mkM _ _ _ (⟨t140, t141, (⟨t142, t143, t144, t145, t146⟩ : S28), t147, t148⟩ : S30) )) (Reps.none _ _))))))); intro v150 w61 ho62 hb hg_ hnew_; clear hg_ hnew_; (first | rw [← Ny149.out] at ho62 | (simp only [Int.reduceToNat] at ho62; rw [← Ny149.out] at ho62)); have n0_ := Aside0.mk (Kd.R_lower ho62 (below_size (by repeat (first | (with_reducible first | exact HB.out | apply a1_ | apply a2_ | apply a3_) | exact HB.out)))); have n1_ := Aside0.mk (below_step (by repeat (first | (with_reducible first | exact HB.out | apply a1_ | apply a2_ | apply a3_) | exact HB.out)) hb); clear HB; have HO151 := n0_; have HB := n1_; clear n0_ n1_; clear hb ho62))
     have n0_ := Aside0.mk (Kd.R_drew HO151.out)
     have n1_ := Aside0.mk (below_drew1 HB.out)
     clear HO151
     clear HB
     have HO151 := n0_
     have HB := n1_
     clear n0_ n1_
     obtain ⟨Ao64, co64, eo64⟩ := Kd.R_slice HO151.out
     (first | subst eo64 | (injection eo64 with f1_ f2_ f3_; have f4_ := f1_.symm; have f5_ := f3_.symm; clear f1_ f2_ f3_; subst f4_; subst f5_))
     have p152 : 0 ≤ (0 : Int) := (by omega)
     have q152 : 0 < (y149.length : Int) := of_decide_eq_true (by first | (with_reducible assumption) | assumption)
     obtain ⟨ad152, e152, hx152_0, hx152_1, hx152_2, hx152_3, hx152_4, hx152_5, hx152_6, hx152_7, hx152_8⟩ := at_T30 (Kd.R_reads' HO151.out).2.2 0 p152 q152
     cases e152
     have qi152 : (0 < y149.length) = True := eq_true (by omega)
     (try rw [show ((0 : Int)).toNat = 0 from rfl] at hx152_0)
     (try rw [show 0 * 9 = 0 from rfl] at hx152_0)
     (try rw [Addr.add_zero'] at hx152_0)
     (try rw [show ((0 : Int)).toNat = 0 from rfl] at hx152_1)
     (try rw [show 0 * 9 = 0 from rfl] at hx152_1)
     (try rw [Addr.add_zero'] at hx152_1)
     (try rw [show ((0 : Int)).toNat = 0 from rfl] at hx152_2)
     (try rw [show 0 * 9 = 0 from rfl] at hx152_2)
     (try rw [Addr.add_zero'] at hx152_2)
     (try rw [show ((0 : Int)).toNat = 0 from rfl] at hx152_3)
     (try rw [show 0 * 9 = 0 from rfl] at hx152_3)
     (try rw [Addr.add_zero'] at hx152_3)
     (try rw [show ((0 : Int)).toNat = 0 from rfl] at hx152_4)
     (try rw [show 0 * 9 = 0 from rfl] at hx152_4)
     (try rw [Addr.add_zero'] at hx152_4)
     (try rw [show ((0 : Int)).toNat = 0 from rfl] at hx152_5)
     (try rw [show 0 * 9 = 0 from rfl] at hx152_5)
     (try rw [Addr.add_zero'] at hx152_5)
     (try rw [show ((0 : Int)).toNat = 0 from rfl] at hx152_6)
     (try rw [show 0 * 9 = 0 from rfl] at hx152_6)
     (try rw [Addr.add_zero'] at hx152_6)
     (try rw [show ((0 : Int)).toNat = 0 from rfl] at hx152_7)
     (try rw [show 0 * 9 = 0 from rfl] at hx152_7)
     (try rw [Addr.add_zero'] at hx152_7)
     (try rw [show ((0 : Int)).toNat = 0 from rfl] at hx152_8)
     (try rw [show 0 * 9 = 0 from rfl] at hx152_8)
     (try rw [Addr.add_zero'] at hx152_8)
     replace p152 := eq_true p152
     replace q152 := eq_true q152
     have p153 : 0 ≤ (3 : Int) := (by omega)
     have q153 : 3 < (y149.length : Int) := of_decide_eq_true (by first | (with_reducible assumption) | assumption)
     obtain ⟨ad153, e153, hx153_0, hx153_1, hx153_2, hx153_3, hx153_4, hx153_5, hx153_6, hx153_7, hx153_8⟩ := at_T30 (Kd.R_reads' HO151.out).2.2 3 p153 q153
     obtain rfl : ad152 = ad153 := (by injection e153)
     (try simp only [show (3 : Int).toNat = 3 from rfl, Nat.reduceMul, Nat.reduceEqDiff, Go.Addr.add, ↓reduceIte] at hx153_0)
     (try simp only [show (3 : Int).toNat = 3 from rfl, Nat.reduceMul, Nat.reduceEqDiff, Go.Addr.add, ↓reduceIte] at hx153_1)
     (try simp only [show (3 : Int).toNat = 3 from rfl, Nat.reduceMul, Nat.reduceEqDiff, Go.Addr.add, ↓reduceIte] at hx153_2)
     (try simp only [show (3 : Int).toNat = 3 from rfl, Nat.reduceMul, Nat.reduceEqDiff, Go.Addr.add, ↓reduceIte] at hx153_3)
     (try simp only [show (3 : Int).toNat = 3 from rfl, Nat.reduceMul, Nat.reduceEqDiff, Go.Addr.add, ↓reduceIte] at hx153_4)
     (try simp only [show (3 : Int).toNat = 3 from rfl, Nat.reduceMul, Nat.reduceEqDiff, Go.Addr.add, ↓reduceIte] at hx153_5)
     (try simp only [show (3 : Int).toNat = 3 from rfl, Nat.reduceMul, Nat.reduceEqDiff, Go.Addr.add, ↓reduceIte] at hx153_6)
     (try simp only [show (3 : Int).toNat = 3 from rfl, Nat.reduceMul, Nat.reduceEqDiff, Go.Addr.add, ↓reduceIte] at hx153_7)
     (try simp only [show (3 : Int).toNat = 3 from rfl, Nat.reduceMul, Nat.reduceEqDiff, Go.Addr.add, ↓reduceIte] at hx153_8)
     have qi153 : (3 < y149.length) = True := eq_true (by omega)
     (try rw [show ((3 : Int)).toNat = 3 from rfl] at hx153_0)
     (try rw [show 3 * 9 = 27 from rfl] at hx153_0)
     (try rw [show ((3 : Int)).toNat = 3 from rfl] at hx153_1)
     (try rw [show 3 * 9 = 27 from rfl] at hx153_1)
     (try rw [show ((3 : Int)).toNat = 3 from rfl] at hx153_2)
     (try rw [show 3 * 9 = 27 from rfl] at hx153_2)
     (try rw [show ((3 : Int)).toNat = 3 from rfl] at hx153_3)
     (try rw [show 3 * 9 = 27 from rfl] at hx153_3)
     (try rw [show ((3 : Int)).toNat = 3 from rfl] at hx153_4)
     (try rw [show 3 * 9 = 27 from rfl] at hx153_4)
     (try rw [show ((3 : Int)).toNat = 3 from rfl] at hx153_5)
     (try rw [show 3 * 9 = 27 from rfl] at hx153_5)
     (try rw [show ((3 : Int)).toNat = 3 from rfl] at hx153_6)
     (try rw [show 3 * 9 = 27 from rfl] at hx153_6)
     (try rw [show ((3 : Int)).toNat = 3 from rfl] at hx153_7)
     (try rw [show 3 * 9 = 27 from rfl] at hx153_7)
     (try rw [show ((3 : Int)).toNat = 3 from rfl] at hx153_8)
     (try rw [show 3 * 9 = 27 from rfl] at hx153_8)
     replace p153 := eq_true p153
     replace q153 := eq_true q153
     refine start_ (n := 8) (S := fun w' => w'.cell? ad152 = some (.int .i64 ((rd_T30 y149 0).f0)) ∧ w'.cell? ⟨ad152.block, ad152.off + 1, none⟩ = some (.int .i64 ((rd_T30 y149 0).f1)) ∧ w'.cell? ⟨ad152.block, ad152.off + 2, none⟩ = some (.int .i64 ((rd_T30 y149 0).f2.f0)) ∧ w'.cell? ⟨ad152.block, ad152.off + 3, none⟩ = some (.string ((rd_T30 y149 0).f2.f1)) ∧ w'.cell? ⟨ad152.block, ad152.off + 4, none⟩ = some (.string ((rd_T30 y149 0).f2.f2)) ∧ w'.cell? ⟨ad152.block, ad152.off + 5, none⟩ = some (.string ((rd_T30 y149 0).f2.f3)) ∧ w'.cell? ⟨ad152.block, ad152.off + 6, none⟩ = some (.string ((rd_T30 y149 0).f2.f4)) ∧ w'.cell? ⟨ad152.block, ad152.off + 7, none⟩ = some (.int .i64 ((rd_T30 y149 0).f3)) ∧ w'.cell? ⟨ad152.block, ad152.off + 8, none⟩ = some (.string ((rd_T30 y149 0).f4)) ∧ w'.cell? ⟨ad152.block, ad152.off + 27, none⟩ = some (.int .i64 ((rd_T30 y149 3).f0)) ∧ w'.cell? ⟨ad152.block, ad152.off + 27 + 1, none⟩ = some (.int .i64 ((rd_T30 y149 3).f1)) ∧ w'.cell? ⟨ad152.block, ad152.off + 27 + 2, none⟩ = some (.int .i64 ((rd_T30 y149 3).f2.f0)) ∧ w'.cell? ⟨ad152.block, ad152.off + 27 + 3, none⟩ = some (.string ((rd_T30 y149 3).f2.f1)) ∧ w'.cell? ⟨ad152.block, ad152.off + 27 + 4, none⟩ = some (.string ((rd_T30 y149 3).f2.f2)) ∧ w'.cell? ⟨ad152.block, ad152.off + 27 + 5, none⟩ = some (.string ((rd_T30 y149 3).f2.f3)) ∧ w'.cell? ⟨ad152.block, ad152.off + 27 + 6, none⟩ = some (.string ((rd_T30 y149 3).f2.f4)) ∧ w'.cell? ⟨ad152.block, ad152.off + 27 + 7, none⟩ = some (.int .i64 ((rd_T30 y149 3).f3)) ∧ w'.cell? ⟨ad152.block, ad152.off + 27 + 8, none⟩ = some (.string ((rd_T30 y149 3).f4))) (ds := []) #[F_,F_,F_,F_,F_,F_,F_,F_] (by kernel_rfl) rfl rfl ⟨hx152_0, hx152_1, hx152_2, hx152_3, hx152_4, hx152_5, hx152_6, hx152_7, hx152_8, hx153_0, hx153_1, hx153_2, hx153_3, hx153_4, hx153_5, hx153_6, hx153_7, hx153_8⟩ (fun hHeld => ?_); refine with_tabW outlawlaw23_lives.tab2 outlawlaw23_lives.bits2 (fun HT_ HW_ => ?_)
     generalize w61.drew = w63 at HO151 HB hx152_0 hx152_1 hx152_2 hx152_3 hx152_4 hx152_5 hx152_6 hx152_7 hx152_8 hx153_0 hx153_1 hx153_2 hx153_3 hx153_4 hx153_5 hx153_6 hx153_7 hx153_8 hHeld ⊢
     refine pq_ 0 9 (mb_ 8 1) HT_.out ?_
     refine pq_ 1 10 (mb_ 8 3) HT_.out ?_
     refine pq_ 3 12 (mb_ 8 11) HT_.out ?_
     refine pq_ 4 13 (mb_ 8 27) HT_.out ?_
     refine tq_ 2 11 (mb_ 8 31) HT_.out HW_.out hHeld ?_ (hr := by rintro w' ⟨s0, s1, s2, s3, s4, s5, s6, s7, s8, s9, s10, s11, s12, s13, s14, s15, s16, s17⟩; go_simp; with_reducible rfl)
     refine tq_ 5 14 (mb_ 8 63) HT_.out HW_.out hHeld ?_ (hr := by rintro w' ⟨s0, s1, s2, s3, s4, s5, s6, s7, s8, s9, s10, s11, s12, s13, s14, s15, s16, s17⟩; go_simp; with_reducible rfl)
     refine one_ (i := 6) (N := some 15) (mb_ 8 127) rfl rfl (one_of HT_.out (by kernel_rfl)) (by decide) (fun K hK => ?_)
     refine Kd.R_lit_step k30 _ 30 ?hg (N := 15) ?hd (xs := ([(⟨(rd_T30 y149 0).f0, (rd_T30 y149 0).f1, (⟨(rd_T30 y149 0).f2.f0, (rd_T30 y149 0).f2.f1, (rd_T30 y149 0).f2.f2, (rd_T30 y149 0).f2.f3, (rd_T30 y149 0).f2.f4⟩ : S28), (rd_T30 y149 0).f3, (rd_T30 y149 0).f4⟩ : S30), (⟨(rd_T30 y149 3).f0, (rd_T30 y149 3).f1, (⟨(rd_T30 y149 3).f2.f0, (rd_T30 y149 3).f2.f1, (rd_T30 y149 3).f2.f2, (rd_T30 y149 3).f2.f3, (rd_T30 y149 3).f2.f4⟩ : S28), (rd_T30 y149 3).f3, (rd_T30 y149 3).f4⟩ : S30)] : List (S30))) (inner := [.int .i64 ((rd_T30 y149 0).f0), .int .i64 ((rd_T30 y149 0).f1), .int .i64 ((rd_T30 y149 0).f2.f0), .string ((rd_T30 y149 0).f2.f1), .string ((rd_T30 y149 0).f2.f2), .string ((rd_T30 y149 0).f2.f3), .string ((rd_T30 y149 0).f2.f4), .int .i64 ((rd_T30 y149 0).f3), .string ((rd_T30 y149 0).f4), .int .i64 ((rd_T30 y149 3).f0), .int .i64 ((rd_T30 y149 3).f1), .int .i64 ((rd_T30 y149 3).f2.f0), .string ((rd_T30 y149 3).f2.f1), .string ((rd_T30 y149 3).f2.f2), .string ((rd_T30 y149 3).f2.f3), .string ((rd_T30 y149 3).f2.f4), .int .i64 ((rd_T30 y149 3).f3), .string ((rd_T30 y149 3).f4)]) (ok := fun _ => True) (okp := fun _ => True) ?hr ?hp (fun _ hk => hk) trivial (Below.refl _ _) (Nat.le_refl _) (by simp) ?_; (case hd => rfl); (case hg => rfl); (case hr => first | (go_simp; done) | (go_simp; rfl)); (case hp => exact (Reps.c9 (show Kd.M k30 _ _ _ (⟨(rd_T30 y149 0).f0, (rd_T30 y149 0).f1, (⟨(rd_T30 y149 0).f2.f0, (rd_T30 y149 0).f2.f1, (rd_T30 y149 0).f2.f2, (rd_T30 y149 0).f2.f3, (rd_T30 y149 0).f2.f4⟩ : S28), (rd_T30 y149 0).f3, (rd_T30 y149 0).f4⟩ : S30) [.int .i64 ((rd_T30 y149 0).f0), .int .i64 ((rd_T30 y149 0).f1), .int .i64 ((rd_T30 y149 0).f2.f0), .string ((rd_T30 y149 0).f2.f1), .string ((rd_T30 y149 0).f2.f2), .string ((rd_T30 y149 0).f2.f3), .string ((rd_T30 y149 0).f2.f4), .int .i64 ((rd_T30 y149 0).f3), .string ((rd_T30 y149 0).f4)] from (k30_mkM _ _ _ (⟨(rd_T30 y149 0).f0, (rd_T30 y149 0).f1, (⟨(rd_T30 y149 0).f2.f0, (rd_T30 y149 0).f2.f1, (rd_T30 y149 0).f2.f2, (rd_T30 y149 0).f2.f3, (rd_T30 y149 0).f2.f4⟩ : S28), (rd_T30 y149 0).f3, (rd_T30 y149 0).f4⟩ : S30) )) (Reps.c9 (show Kd.M k30 _ _ _ (⟨(rd_T30 y149 3).f0, (rd_T30 y149 3).f1, (⟨(rd_T30 y149 3).f2.f0, (rd_T30 y149 3).f2.f1, (rd_T30 y149 3).f2.f2, (rd_T30 y149 3).f2.f3, (rd_T30 y149 3).f2.f4⟩ : S28), (rd_T30 y149 3).f3, (rd_T30 y149 3).f4⟩ : S30) [.int .i64 ((rd_T30 y149 3).f0), .int .i64 ((rd_T30 y149 3).f1), .int .i64 ((rd_T30 y149 3).f2.f0), .string ((rd_T30 y149 3).f2.f1), .string ((rd_T30 y149 3).f2.f2), .string ((rd_T30 y149 3).f2.f3), .string ((rd_T30 y149 3).f2.f4), .int .i64 ((rd_T30 y149 3).f3), .string ((rd_T30 y149 3).f4)] from (k30_mkM _ _ _ (⟨(rd_T30 y149 3).f0, (rd_T30 y149 3).f1, (⟨(rd_T30 y149 3).f2.f0, (rd_T30 y149 3).f2.f1, (rd_T30 y149 3).f2.f2, (rd_T30 y149 3).f2.f3, (rd_T30 y149 3).f2.f4⟩ : S28), (rd_T30 y149 3).f3, (rd_T30 y149 3).f4⟩ : S30) )) (Reps.none _ _))))
     intro v155 w65 ho66 hb hg_ hnew_
     have HS0_ := (hb.cell (World.block_lt_of_cell? _ _ (hHeld.1))).trans (hHeld.1)
     have HS1_ := (hb.cell (World.block_lt_of_cell? _ _ (hHeld.2.1))).trans (hHeld.2.1)
     have HS2_ := (hb.cell (World.block_lt_of_cell? _ _ (hHeld.2.2.1))).trans (hHeld.2.2.1)
     have HS3_ := (hb.cell (World.block_lt_of_cell? _ _ (hHeld.2.2.2.1))).trans (hHeld.2.2.2.1)
     have HS4_ := (hb.cell (World.block_lt_of_cell? _ _ (hHeld.2.2.2.2.1))).trans (hHeld.2.2.2.2.1)
     have HS5_ := (hb.cell (World.block_lt_of_cell? _ _ (hHeld.2.2.2.2.2.1))).trans (hHeld.2.2.2.2.2.1)
     have HS6_ := (hb.cell (World.block_lt_of_cell? _ _ (hHeld.2.2.2.2.2.2.1))).trans (hHeld.2.2.2.2.2.2.1)
     have HS7_ := (hb.cell (World.block_lt_of_cell? _ _ (hHeld.2.2.2.2.2.2.2.1))).trans (hHeld.2.2.2.2.2.2.2.1)
     have HS8_ := (hb.cell (World.block_lt_of_cell? _ _ (hHeld.2.2.2.2.2.2.2.2.1))).trans (hHeld.2.2.2.2.2.2.2.2.1)
     have HS9_ := (hb.cell (World.block_lt_of_cell? _ _ (hHeld.2.2.2.2.2.2.2.2.2.1))).trans (hHeld.2.2.2.2.2.2.2.2.2.1)
     have HS10_ := (hb.cell (World.block_lt_of_cell? _ _ (hHeld.2.2.2.2.2.2.2.2.2.2.1))).trans (hHeld.2.2.2.2.2.2.2.2.2.2.1)
     have HS11_ := (hb.cell (World.block_lt_of_cell? _ _ (hHeld.2.2.2.2.2.2.2.2.2.2.2.1))).trans (hHeld.2.2.2.2.2.2.2.2.2.2.2.1)
     have HS12_ := (hb.cell (World.block_lt_of_cell? _ _ (hHeld.2.2.2.2.2.2.2.2.2.2.2.2.1))).trans (hHeld.2.2.2.2.2.2.2.2.2.2.2.2.1)
     have HS13_ := (hb.cell (World.block_lt_of_cell? _ _ (hHeld.2.2.2.2.2.2.2.2.2.2.2.2.2.1))).trans (hHeld.2.2.2.2.2.2.2.2.2.2.2.2.2.1)
     have HS14_ := (hb.cell (World.block_lt_of_cell? _ _ (hHeld.2.2.2.2.2.2.2.2.2.2.2.2.2.2.1))).trans (hHeld.2.2.2.2.2.2.2.2.2.2.2.2.2.2.1)
     have HS15_ := (hb.cell (World.block_lt_of_cell? _ _ (hHeld.2.2.2.2.2.2.2.2.2.2.2.2.2.2.2.1))).trans (hHeld.2.2.2.2.2.2.2.2.2.2.2.2.2.2.2.1)
     have HS16_ := (hb.cell (World.block_lt_of_cell? _ _ (hHeld.2.2.2.2.2.2.2.2.2.2.2.2.2.2.2.2.1))).trans (hHeld.2.2.2.2.2.2.2.2.2.2.2.2.2.2.2.2.1)
     have HS17_ := (hb.cell (World.block_lt_of_cell? _ _ (hHeld.2.2.2.2.2.2.2.2.2.2.2.2.2.2.2.2.2))).trans (hHeld.2.2.2.2.2.2.2.2.2.2.2.2.2.2.2.2.2)
     clear hg_ hnew_
     (first | rw [← Ny154.out] at ho66 | (simp only [Int.reduceToNat] at ho66; rw [← Ny154.out] at ho66))
     have n0_ := Aside0.mk (Kd.R_elder' (by (with_reducible repeat (first | apply Kd.R_alloc | apply Kd.R_drewN | apply Kd.R_drew)); exact HO151.out) (Kd.R_base ho66) hb)
     have n1_ := Aside0.mk (Kd.R_lower (Kd.R_new' ho66 (Kd.R_lt (by (with_reducible repeat (first | apply Kd.R_alloc | apply Kd.R_drewN | apply Kd.R_drew)); exact HO151.out))) (below_size (by repeat (first | (with_reducible first | exact HB.out | apply a1_ | apply a2_ | apply a3_) | exact HB.out))))
     have n2_ := Aside0.mk (below_step (by repeat (first | (with_reducible first | exact HB.out | apply a1_ | apply a2_ | apply a3_) | exact HB.out)) hb)
     clear HO151
     clear HB
     have HO151 := n0_
     have HO156 := n1_
     have HB := n2_
     clear n0_ n1_ n2_
     clear hb ho66
     refine hK.out _ _ ⟨HS0_, HS1_, HS2_, HS3_, HS4_, HS5_, HS6_, HS7_, HS8_, HS9_, HS10_, HS11_, HS12_, HS13_, HS14_, HS15_, HS16_, HS17_⟩ (fun hHeld => ?_)
     clear hK K
     refine norm_ (a' := ?_) ?_ ?_
     rotate_left
     ·show Act.put _ (some 15) _ = _
      simp only [Act.put, List.setIfInBounds_toArray, List.set_cons_zero, List.set_cons_succ, i64_w, i32_w]
      rfl
     refine pq_ 7 2 (mb_ 8 255) HT_.out ?_
     refine done_ (done_of HT_.out (by kernel_rfl)) ?_
     try go_wp2_with (first | ((with_reducible refine gate_callee (f := 16) rfl ?_); refine goesL_ (some 17) rfl rfl Tryd.func16 (by kernel_rfl) rfl #[.slice (some ad152) y149.length co64] rfl (by (try simp only [List.map_toArray, List.map_cons, List.map_nil]); first | done | rfl | (simp only [List.length_drop, List.length_take]; rfl)) ?_; (with_reducible refine (audit_Life.calls _ _ y149 t157 _ ?side1 ?side2 A8.out).mono ?_); (case side1 => repeat (first | exact (Kd.R_reads' HO151.out).2.2 | (with_reducible refine Kd.C_alloc ?_ _) | (with_reducible refine Kd.C_drewN ?_ _) | (with_reducible refine Kd.C_drew ?_))); (case side2 => exact (Kd.R_reads' HO151.out).2.1); rintro e w67 ⟨rfl, hb⟩; refine ⟨_, rfl, ?_⟩; have n0_ := Aside0.mk (Kd.R_below (by (with_reducible repeat (first | apply Kd.R_alloc | apply Kd.R_drewN | apply Kd.R_drew)); exact HO151.out) hb); have n1_ := Aside0.mk (Kd.R_below (by (with_reducible repeat (first | apply Kd.R_alloc | apply Kd.R_drewN | apply Kd.R_drew)); exact HO156.out) hb); have n2_ := Aside0.mk (below_step (by repeat (first | (with_reducible first | exact HB.out | apply a1_ | apply a2_ | apply a3_) | exact HB.out)) hb); clear HO151; clear HO156; clear HB; have HO151 := n0_; have HO156 := n1_; have HB := n2_; clear n0_ n1_ n2_; (try clear hb); (try clear hk)) | (go_at_call 25; (with_reducible refine (audit_Open.calls _ _ y149 t158 _ ?side1 ?side2 A10.out).mono ?_); (case side1 => repeat (first | exact (Kd.R_reads' HO151.out).2.2 | (with_reducible refine Kd.C_alloc ?_ _) | (with_reducible refine Kd.C_drewN ?_ _) | (with_reducible refine Kd.C_drew ?_))); (case side2 => exact (Kd.R_reads' HO151.out).2.1); rintro e w68 ⟨v159, rfl, ho0, hb⟩; have n0_ := Aside0.mk (Kd.R_below (by (with_reducible repeat (first | apply Kd.R_alloc | apply Kd.R_drewN | apply Kd.R_drew)); exact HO151.out) hb); have n1_ := Aside0.mk (Kd.R_below (by (with_reducible repeat (first | apply Kd.R_alloc | apply Kd.R_drewN | apply Kd.R_drew)); exact HO156.out) hb); have n2_ := Aside0.mk (Kd.R_lower ho0 (below_size (by repeat (first | (with_reducible first | exact HB.out | apply a1_ | apply a2_ | apply a3_) | exact HB.out)))); have n3_ := Aside0.mk (below_step (by repeat (first | (with_reducible first | exact HB.out | apply a1_ | apply a2_ | apply a3_) | exact HB.out)) hb); clear HO151; clear HO156; clear HB; have HO151 := n0_; have HO156 := n1_; have HO160 := n2_; have HB := n3_; clear n0_ n1_ n2_ n3_; (try clear hb); (try clear hk); (try clear ho0)) | ((with_reducible refine gate_dst (N := 22) rfl ?_); (try (refine gate_guard (by rfl) ?_; dsimp only)); refine Kd.R_lit (Kd.int .i64) _ 2 ?hg (N := 22) ?hd (xs := ([2] : List Int)) (inner := [.int .i64 2]) (ok := fun _ => True) (okp := fun _ => True) ?hr ?hp (fun _ hk => hk) trivial (Below.refl _ _) (Nat.le_refl _) (by simp) ?_; (case hd => rfl); (case hg => rfl); (case hr => first | (go_simp; done) | (go_simp; rfl)); (case hp => exact (Reps.one (show Kd.M (Kd.int .i64) _ _ _ 2 [.int .i64 2] from rfl) (Reps.none _ _))); intro v162 w69 ho70 hb hg_ hnew_; clear hg_ hnew_; (first | rw [← Ny161.out] at ho70 | (simp only [Int.reduceToNat] at ho70; rw [← Ny161.out] at ho70)); have n0_ := Aside0.mk (Kd.R_below (by (with_reducible repeat (first | apply Kd.R_alloc | apply Kd.R_drewN | apply Kd.R_drew)); exact HO151.out) hb); have n1_ := Aside0.mk (Kd.R_below (by (with_reducible repeat (first | apply Kd.R_alloc | apply Kd.R_drewN | apply Kd.R_drew)); exact HO156.out) hb); have n2_ := Aside0.mk (Kd.R_elder' (by (with_reducible repeat (first | apply Kd.R_alloc | apply Kd.R_drewN | apply Kd.R_drew)); exact HO160.out) (Kd.R_base ho70) hb); have n3_ := Aside0.mk (Kd.R_lower (Kd.R_new' ho70 (Kd.R_lt (by (with_reducible repeat (first | apply Kd.R_alloc | apply Kd.R_drewN | apply Kd.R_drew)); exact HO160.out))) (below_size (by repeat (first | (with_reducible first | exact HB.out | apply a1_ | apply a2_ | apply a3_) | exact HB.out)))); have n4_ := Aside0.mk (below_step (by repeat (first | (with_reducible first | exact HB.out | apply a1_ | apply a2_ | apply a3_) | exact HB.out)) hb); clear HO151; clear HO156; clear HO160; clear HB; have HO151 := n0_; have HO156 := n1_; have HO160 := n2_; have HO163 := n3_; have HB := n4_; clear n0_ n1_ n2_ n3_ n4_; clear hb ho70; obtain ⟨Ao71, co71, eo71⟩ := Kd.R_slice HO160.out; subst eo71; obtain ⟨Ao72, co72, eo72⟩ := Kd.R_slice HO163.out; subst eo72) | (go_at_call 24; (with_reducible refine (outlawkit_Same_int64.calls k _ _ t158 _ _ y161 false _ ?side1 ?side2 ?side3 ?side4 A11.out).mono ?_); (case side1 => repeat (first | exact (Kd.R_reads' HO160.out).2.2 | (with_reducible refine Kd.C_alloc ?_ _) | (with_reducible refine Kd.C_drewN ?_ _) | (with_reducible refine Kd.C_drew ?_))); (case side2 => exact (Kd.R_reads' HO160.out).2.1); (case side3 => repeat (first | exact (Kd.R_reads' HO163.out).2.2 | (with_reducible refine Kd.C_alloc ?_ _) | (with_reducible refine Kd.C_drewN ?_ _) | (with_reducible refine Kd.C_drew ?_))); (case side4 => exact (Kd.R_reads' HO163.out).2.1); rintro e w' ⟨rfl, ⟨nd, rfl⟩⟩))
     go_ret
     exact ⟨by first | rfl | (simp [errW_none, errW_some] <;> rfl) | (simp [*, errW_none, errW_some] <;> rfl), by repeat (first | (with_reducible first | exact HB.out | apply a1_ | apply a2_ | apply a3_) | exact HB.out)⟩
   ·rw [if_neg c9] at H
    have c9b0 : (t157 == (-1)) = false := beq_eq_false_iff_ne.mpr c9
    have c9b1 : (t157 != (-1)) = true := bne_iff_ne.mpr c9
    obtain rfl := Option.some.inj H
    go_enter Tryd.func7, Tryd.ntmps7
    try go_wp2_with (first | ((first | ((with_reducible refine gate_callee (f := 12) rfl ?_); refine goesL_ (some 3) rfl rfl Tryd.func12 (by kernel_rfl) rfl #[.int .i64 3, .int .i64 1] rfl (by (try simp only [List.map_toArray, List.map_cons, List.map_nil]); first | done | rfl | (simp only [List.length_drop, List.length_take]; rfl)) ?_; (with_reducible refine (outlawlaw23_note.calls 3 1 t104 t105 t106 t107 t108 t109 t110 t111 t112 _ A1.out).mono ?_)) | ((with_reducible refine gate_callee (f := 12) rfl ?_); refine goesL_ (some 4) rfl rfl Tryd.func12 (by kernel_rfl) rfl #[.int .i64 4, .int .i64 1] rfl (by (try simp only [List.map_toArray, List.map_cons, List.map_nil]); first | done | rfl | (simp only [List.length_drop, List.length_take]; rfl)) ?_; (with_reducible refine (outlawlaw23_note.calls 4 1 t113 t114 t115 t116 t117 t118 t119 t120 t121 _ A2.out).mono ?_)) | ((with_reducible refine gate_callee (f := 12) rfl ?_); refine goesL_ (some 5) rfl rfl Tryd.func12 (by kernel_rfl) rfl #[.int .i64 4, .int .i64 1] rfl (by (try simp only [List.map_toArray, List.map_cons, List.map_nil]); first | done | rfl | (simp only [List.length_drop, List.length_take]; rfl)) ?_; (with_reducible refine (outlawlaw23_note.calls 4 1 t122 t123 t124 t125 t126 t127 t128 t129 t130 _ A3.out).mono ?_)) | ((with_reducible refine gate_callee (f := 12) rfl ?_); refine goesL_ (some 6) rfl rfl Tryd.func12 (by kernel_rfl) rfl #[.int .i64 5, .int .i64 1] rfl (by (try simp only [List.map_toArray, List.map_cons, List.map_nil]); first | done | rfl | (simp only [List.length_drop, List.length_take]; rfl)) ?_; (with_reducible refine (outlawlaw23_note.calls 5 1 t131 t132 t133 t134 t135 t136 t137 t138 t139 _ A4.out).mono ?_)) | ((with_reducible refine gate_callee (f := 12) rfl ?_); refine goesL_ (some 7) rfl rfl Tryd.func12 (by kernel_rfl) rfl #[.int .i64 3, .int .i64 2] rfl (by (try simp only [List.map_toArray, List.map_cons, List.map_nil]); first | done | rfl | (simp only [List.length_drop, List.length_take]; rfl)) ?_; (with_reducible refine (outlawlaw23_note.calls 3 2 t140 t141 t142 t143 t144 t145 t146 t147 t148 _ A5.out).mono ?_))); rintro e w73 ⟨rfl, hb⟩; refine ⟨_, rfl, ?_⟩; have n0_ := Aside0.mk (below_step (by repeat (first | (with_reducible first | exact HB.out | apply a1_ | apply a2_ | apply a3_) | exact HB.out)) hb); clear HB; have HB := n0_; clear n0_; (try clear hb); (try clear hk)) | ((with_reducible refine gate_dst (N := 8) rfl ?_); (try (refine gate_guard (by rfl) ?_; dsimp only)); refine Kd.R_lit k30 _ 30 ?hg (N := 8) ?hd (xs := ([(⟨t104, t105, (⟨t106, t107, t108, t109, t110⟩ : S28), t111, t112⟩ : S30), (⟨t113, t114, (⟨t115, t116, t117, t118, t119⟩ : S28), t120, t121⟩ : S30), (⟨t122, t123, (⟨t124, t125, t126, t127, t128⟩ : S28), t129, t130⟩ : S30), (⟨t131, t132, (⟨t133, t134, t135, t136, t137⟩ : S28), t138, t139⟩ : S30), (⟨t140, t141, (⟨t142, t143, t144, t145, t146⟩ : S28), t147, t148⟩ : S30)] : List (S30))) (inner := [.int .i64 t104, .int .i64 t105, .int .i64 t106, .string t107, .string t108, .string t109, .string t110, .int .i64 t111, .string t112, .int .i64 t113, .int .i64 t114, .int .i64 t115, .string t116, .string t117, .string t118, .string t119, .int .i64 t120, .string t121, .int .i64 t122, .int .i64 t123, .int .i64 t124, .string t125, .string t126, .string t127, .string t128, .int .i64 t129, .string t130, .int .i64 t131, .int .i64 t132, .int .i64 t133, .string t134, .string t135, .string t136, .string t137, .int .i64 t138, .string t139, .int .i64 t140, .int .i64 t141, .int .i64 t142, .string t143, .string t144, .string t145, .string t146, .int .i64 t147, .string t148]) (ok := fun _ => True) (okp := fun _ => True) ?hr ?hp (fun _ hk => hk) trivial (Below.refl _ _) (Nat.le_refl _) (by simp) ?_; (case hd => rfl); (case hg => rfl); (case hr => first | (go_simp; done) | (go_simp; rfl)); (case hp => exact (Reps.c9 (show Kd.M k30 _ _ _ (⟨t104, t105, (⟨t106, t107, t108, t109, t110⟩ : S28), t111, t112⟩ : S30) [.int .i64 t104, .int .i64 t105, .int .i64 t106, .string t107, .string t108, .string t109, .string t110, .int .i64 t111, .string t112] from (k30_mkM _ _ _ (⟨t104, t105, (⟨t106, t107, t108, t109, t110⟩ : S28), t111, t112⟩ : S30) )) (Reps.c9 (show Kd.M k30 _ _ _ (⟨t113, t114, (⟨t115, t116, t117, t118, t119⟩ : S28), t120, t121⟩ : S30) [.int .i64 t113, .int .i64 t114, .int .i64 t115, .string t116, .string t117, .string t118, .string t119, .int .i64 t120, .string t121] from (k30_mkM _ _ _ (⟨t113, t114, (⟨t115, t116, t117, t118, t119⟩ : S28), t120, t121⟩ : S30) )) (Reps.c9 (show Kd.M k30 _ _ _ (⟨t122, t123, (⟨t124, t125, t126, t127, t128⟩ : S28), t129, t130⟩ : S30) [.int .i64 t122, .int .i64 t123, .int .i64 t124, .string t125, .string t126, .string t127, .string t128, .int .i64 t129, .string t130] from (k30_mkM _ _ _ (⟨t122, t123, (⟨t124, t125, t126, t127, t128⟩ : S28), t129, t130⟩ : S30) )) (Reps.c9 (show Kd.M k30 _ _ _ (⟨t131, t132, (⟨t133, t134, t135, t136, t137⟩ : S28), t138, t139⟩ : S30) [.int .i64 t131, .int .i64 t132, .int .i64 t133, .string t134, .string t135, .string t136, .string t137, .int .i64 t138, .string t139] from (k30_mkM _ _ _ (⟨t131, t132, (⟨t133, t134, t135, t136, t137⟩ : S28), t138, t139⟩ : S30) )) (Reps.c9 (show Kd.M k30 _ _ _ (⟨t140, t141, (⟨t142, t143, t144, t145, t146⟩ : S28), t147, t148⟩ : S30) [.int .i64 t140, .int .i64 t141, .int .i64 t142, .string t143, .string t144, .string t145, .string t146, .int .i64 t147, .string t148] from (k30_mkM _ _ _ (⟨t140, t141, (⟨t142, t143, t144, t145, t146⟩ : S28), t147, t148⟩ : S30) )) (Reps.none _ _))))))); intro v150 w78 ho79 hb hg_ hnew_; clear hg_ hnew_; (first | rw [← Ny149.out] at ho79 | (simp only [Int.reduceToNat] at ho79; rw [← Ny149.out] at ho79)); have n0_ := Aside0.mk (Kd.R_lower ho79 (below_size (by repeat (first | (with_reducible first | exact HB.out | apply a1_ | apply a2_ | apply a3_) | exact HB.out)))); have n1_ := Aside0.mk (below_step (by repeat (first | (with_reducible first | exact HB.out | apply a1_ | apply a2_ | apply a3_) | exact HB.out)) hb); clear HB; have HO151 := n0_; have HB := n1_; clear n0_ n1_; clear hb ho79))
    have n0_ := Aside0.mk (Kd.R_drew HO151.out)
    have n1_ := Aside0.mk (below_drew1 HB.out)
    clear HO151
    clear HB
    have HO151 := n0_
    have HB := n1_
    clear n0_ n1_
    obtain ⟨Ao81, co81, eo81⟩ := Kd.R_slice HO151.out
    (first | subst eo81 | (injection eo81 with f1_ f2_ f3_; have f4_ := f1_.symm; have f5_ := f3_.symm; clear f1_ f2_ f3_; subst f4_; subst f5_))
    have p152 : 0 ≤ (0 : Int) := (by omega)
    have q152 : 0 < (y149.length : Int) := of_decide_eq_true (by first | (with_reducible assumption) | assumption)
    obtain ⟨ad152, e152, hx152_0, hx152_1, hx152_2, hx152_3, hx152_4, hx152_5, hx152_6, hx152_7, hx152_8⟩ := at_T30 (Kd.R_reads' HO151.out).2.2 0 p152 q152
    cases e152
    have qi152 : (0 < y149.length) = True := eq_true (by omega)
    (try rw [show ((0 : Int)).toNat = 0 from rfl] at hx152_0)
    (try rw [show 0 * 9 = 0 from rfl] at hx152_0)
    (try rw [Addr.add_zero'] at hx152_0)
    (try rw [show ((0 : Int)).toNat = 0 from rfl] at hx152_1)
    (try rw [show 0 * 9 = 0 from rfl] at hx152_1)
    (try rw [Addr.add_zero'] at hx152_1)
    (try rw [show ((0 : Int)).toNat = 0 from rfl] at hx152_2)
    (try rw [show 0 * 9 = 0 from rfl] at hx152_2)
    (try rw [Addr.add_zero'] at hx152_2)
    (try rw [show ((0 : Int)).toNat = 0 from rfl] at hx152_3)
    (try rw [show 0 * 9 = 0 from rfl] at hx152_3)
    (try rw [Addr.add_zero'] at hx152_3)
    (try rw [show ((0 : Int)).toNat = 0 from rfl] at hx152_4)
    (try rw [show 0 * 9 = 0 from rfl] at hx152_4)
    (try rw [Addr.add_zero'] at hx152_4)
    (try rw [show ((0 : Int)).toNat = 0 from rfl] at hx152_5)
    (try rw [show 0 * 9 = 0 from rfl] at hx152_5)
    (try rw [Addr.add_zero'] at hx152_5)
    (try rw [show ((0 : Int)).toNat = 0 from rfl] at hx152_6)
    (try rw [show 0 * 9 = 0 from rfl] at hx152_6)
    (try rw [Addr.add_zero'] at hx152_6)
    (try rw [show ((0 : Int)).toNat = 0 from rfl] at hx152_7)
    (try rw [show 0 * 9 = 0 from rfl] at hx152_7)
    (try rw [Addr.add_zero'] at hx152_7)
    (try rw [show ((0 : Int)).toNat = 0 from rfl] at hx152_8)
    (try rw [show 0 * 9 = 0 from rfl] at hx152_8)
    (try rw [Addr.add_zero'] at hx152_8)
    replace p152 := eq_true p152
    replace q152 := eq_true q152
    have p153 : 0 ≤ (3 : Int) := (by omega)
    have q153 : 3 < (y149.length : Int) := of_decide_eq_true (by first | (with_reducible assumption) | assumption)
    obtain ⟨ad153, e153, hx153_0, hx153_1, hx153_2, hx153_3, hx153_4, hx153_5, hx153_6, hx153_7, hx153_8⟩ := at_T30 (Kd.R_reads' HO151.out).2.2 3 p153 q153
    obtain rfl : ad152 = ad153 := (by injection e153)
    (try simp only [show (3 : Int).toNat = 3 from rfl, Nat.reduceMul, Nat.reduceEqDiff, Go.Addr.add, ↓reduceIte] at hx153_0)
    (try simp only [show (3 : Int).toNat = 3 from rfl, Nat.reduceMul, Nat.reduceEqDiff, Go.Addr.add, ↓reduceIte] at hx153_1)
    (try simp only [show (3 : Int).toNat = 3 from rfl, Nat.reduceMul, Nat.reduceEqDiff, Go.Addr.add, ↓reduceIte] at hx153_2)
    (try simp only [show (3 : Int).toNat = 3 from rfl, Nat.reduceMul, Nat.reduceEqDiff, Go.Addr.add, ↓reduceIte] at hx153_3)
    (try simp only [show (3 : Int).toNat = 3 from rfl, Nat.reduceMul, Nat.reduceEqDiff, Go.Addr.add, ↓reduceIte] at hx153_4)
    (try simp only [show (3 : Int).toNat = 3 from rfl, Nat.reduceMul, Nat.reduceEqDiff, Go.Addr.add, ↓reduceIte] at hx153_5)
    (try simp only [show (3 : Int).toNat = 3 from rfl, Nat.reduceMul, Nat.reduceEqDiff, Go.Addr.add, ↓reduceIte] at hx153_6)
    (try simp only [show (3 : Int).toNat = 3 from rfl, Nat.reduceMul, Nat.reduceEqDiff, Go.Addr.add, ↓reduceIte] at hx153_7)
    (try simp only [show (3 : Int).toNat = 3 from rfl, Nat.reduceMul, Nat.reduceEqDiff, Go.Addr.add, ↓reduceIte] at hx153_8)
    have qi153 : (3 < y149.length) = True := eq_true (by omega)
    (try rw [show ((3 : Int)).toNat = 3 from rfl] at hx153_0)
    (try rw [show 3 * 9 = 27 from rfl] at hx153_0)
    (try rw [show ((3 : Int)).toNat = 3 from rfl] at hx153_1)
    (try rw [show 3 * 9 = 27 from rfl] at hx153_1)
    (try rw [show ((3 : Int)).toNat = 3 from rfl] at hx153_2)
    (try rw [show 3 * 9 = 27 from rfl] at hx153_2)
    (try rw [show ((3 : Int)).toNat = 3 from rfl] at hx153_3)
    (try rw [show 3 * 9 = 27 from rfl] at hx153_3)
    (try rw [show ((3 : Int)).toNat = 3 from rfl] at hx153_4)
    (try rw [show 3 * 9 = 27 from rfl] at hx153_4)
    (try rw [show ((3 : Int)).toNat = 3 from rfl] at hx153_5)
    (try rw [show 3 * 9 = 27 from rfl] at hx153_5)
    (try rw [show ((3 : Int)).toNat = 3 from rfl] at hx153_6)
    (try rw [show 3 * 9 = 27 from rfl] at hx153_6)
    (try rw [show ((3 : Int)).toNat = 3 from rfl] at hx153_7)
    (try rw [show 3 * 9 = 27 from rfl] at hx153_7)
    (try rw [show ((3 : Int)).toNat = 3 from rfl] at hx153_8)
    (try rw [show 3 * 9 = 27 from rfl] at hx153_8)
    replace p153 := eq_true p153
    replace q153 := eq_true q153
    refine start_ (n := 8) (S := fun w' => w'.cell? ad152 = some (.int .i64 ((rd_T30 y149 0).f0)) ∧ w'.cell? ⟨ad152.block, ad152.off + 1, none⟩ = some (.int .i64 ((rd_T30 y149 0).f1)) ∧ w'.cell? ⟨ad152.block, ad152.off + 2, none⟩ = some (.int .i64 ((rd_T30 y149 0).f2.f0)) ∧ w'.cell? ⟨ad152.block, ad152.off + 3, none⟩ = some (.string ((rd_T30 y149 0).f2.f1)) ∧ w'.cell? ⟨ad152.block, ad152.off + 4, none⟩ = some (.string ((rd_T30 y149 0).f2.f2)) ∧ w'.cell? ⟨ad152.block, ad152.off + 5, none⟩ = some (.string ((rd_T30 y149 0).f2.f3)) ∧ w'.cell? ⟨ad152.block, ad152.off + 6, none⟩ = some (.string ((rd_T30 y149 0).f2.f4)) ∧ w'.cell? ⟨ad152.block, ad152.off + 7, none⟩ = some (.int .i64 ((rd_T30 y149 0).f3)) ∧ w'.cell? ⟨ad152.block, ad152.off + 8, none⟩ = some (.string ((rd_T30 y149 0).f4)) ∧ w'.cell? ⟨ad152.block, ad152.off + 27, none⟩ = some (.int .i64 ((rd_T30 y149 3).f0)) ∧ w'.cell? ⟨ad152.block, ad152.off + 27 + 1, none⟩ = some (.int .i64 ((rd_T30 y149 3).f1)) ∧ w'.cell? ⟨ad152.block, ad152.off + 27 + 2, none⟩ = some (.int .i64 ((rd_T30 y149 3).f2.f0)) ∧ w'.cell? ⟨ad152.block, ad152.off + 27 + 3, none⟩ = some (.string ((rd_T30 y149 3).f2.f1)) ∧ w'.cell? ⟨ad152.block, ad152.off + 27 + 4, none⟩ = some (.string ((rd_T30 y149 3).f2.f2)) ∧ w'.cell? ⟨ad152.block, ad152.off + 27 + 5, none⟩ = some (.string ((rd_T30 y149 3).f2.f3)) ∧ w'.cell? ⟨ad152.block, ad152.off + 27 + 6, none⟩ = some (.string ((rd_T30 y149 3).f2.f4)) ∧ w'.cell? ⟨ad152.block, ad152.off + 27 + 7, none⟩ = some (.int .i64 ((rd_T30 y149 3).f3)) ∧ w'.cell? ⟨ad152.block, ad152.off + 27 + 8, none⟩ = some (.string ((rd_T30 y149 3).f4))) (ds := []) #[F_,F_,F_,F_,F_,F_,F_,F_] (by kernel_rfl) rfl rfl ⟨hx152_0, hx152_1, hx152_2, hx152_3, hx152_4, hx152_5, hx152_6, hx152_7, hx152_8, hx153_0, hx153_1, hx153_2, hx153_3, hx153_4, hx153_5, hx153_6, hx153_7, hx153_8⟩ (fun hHeld => ?_); refine with_tabW outlawlaw23_lives.tab2 outlawlaw23_lives.bits2 (fun HT_ HW_ => ?_)
    generalize w78.drew = w80 at HO151 HB hx152_0 hx152_1 hx152_2 hx152_3 hx152_4 hx152_5 hx152_6 hx152_7 hx152_8 hx153_0 hx153_1 hx153_2 hx153_3 hx153_4 hx153_5 hx153_6 hx153_7 hx153_8 hHeld ⊢
    refine pq_ 0 9 (mb_ 8 1) HT_.out ?_
    refine pq_ 1 10 (mb_ 8 3) HT_.out ?_
    refine pq_ 3 12 (mb_ 8 11) HT_.out ?_
    refine pq_ 4 13 (mb_ 8 27) HT_.out ?_
    refine tq_ 2 11 (mb_ 8 31) HT_.out HW_.out hHeld ?_ (hr := by rintro w' ⟨s0, s1, s2, s3, s4, s5, s6, s7, s8, s9, s10, s11, s12, s13, s14, s15, s16, s17⟩; go_simp; with_reducible rfl)
    refine tq_ 5 14 (mb_ 8 63) HT_.out HW_.out hHeld ?_ (hr := by rintro w' ⟨s0, s1, s2, s3, s4, s5, s6, s7, s8, s9, s10, s11, s12, s13, s14, s15, s16, s17⟩; go_simp; with_reducible rfl)
    refine one_ (i := 6) (N := some 15) (mb_ 8 127) rfl rfl (one_of HT_.out (by kernel_rfl)) (by decide) (fun K hK => ?_)
    refine Kd.R_lit_step k30 _ 30 ?hg (N := 15) ?hd (xs := ([(⟨(rd_T30 y149 0).f0, (rd_T30 y149 0).f1, (⟨(rd_T30 y149 0).f2.f0, (rd_T30 y149 0).f2.f1, (rd_T30 y149 0).f2.f2, (rd_T30 y149 0).f2.f3, (rd_T30 y149 0).f2.f4⟩ : S28), (rd_T30 y149 0).f3, (rd_T30 y149 0).f4⟩ : S30), (⟨(rd_T30 y149 3).f0, (rd_T30 y149 3).f1, (⟨(rd_T30 y149 3).f2.f0, (rd_T30 y149 3).f2.f1, (rd_T30 y149 3).f2.f2, (rd_T30 y149 3).f2.f3, (rd_T30 y149 3).f2.f4⟩ : S28), (rd_T30 y149 3).f3, (rd_T30 y149 3).f4⟩ : S30)] : List (S30))) (inner := [.int .i64 ((rd_T30 y149 0).f0), .int .i64 ((rd_T30 y149 0).f1), .int .i64 ((rd_T30 y149 0).f2.f0), .string ((rd_T30 y149 0).f2.f1), .string ((rd_T30 y149 0).f2.f2), .string ((rd_T30 y149 0).f2.f3), .string ((rd_T30 y149 0).f2.f4), .int .i64 ((rd_T30 y149 0).f3), .string ((rd_T30 y149 0).f4), .int .i64 ((rd_T30 y149 3).f0), .int .i64 ((rd_T30 y149 3).f1), .int .i64 ((rd_T30 y149 3).f2.f0), .string ((rd_T30 y149 3).f2.f1), .string ((rd_T30 y149 3).f2.f2), .string ((rd_T30 y149 3).f2.f3), .string ((rd_T30 y149 3).f2.f4), .int .i64 ((rd_T30 y149 3).f3), .string ((rd_T30 y149 3).f4)]) (ok := fun _ => True) (okp := fun _ => True) ?hr ?hp (fun _ hk => hk) trivial (Below.refl _ _) (Nat.le_refl _) (by simp) ?_; (case hd => rfl); (case hg => rfl); (case hr => first | (go_simp; done) | (go_simp; rfl)); (case hp => exact (Reps.c9 (show Kd.M k30 _ _ _ (⟨(rd_T30 y149 0).f0, (rd_T30 y149 0).f1, (⟨(rd_T30 y149 0).f2.f0, (rd_T30 y149 0).f2.f1, (rd_T30 y149 0).f2.f2, (rd_T30 y149 0).f2.f3, (rd_T30 y149 0).f2.f4⟩ : S28), (rd_T30 y149 0).f3, (rd_T30 y149 0).f4⟩ : S30) [.int .i64 ((rd_T30 y149 0).f0), .int .i64 ((rd_T30 y149 0).f1), .int .i64 ((rd_T30 y149 0).f2.f0), .string ((rd_T30 y149 0).f2.f1), .string ((rd_T30 y149 0).f2.f2), .string ((rd_T30 y149 0).f2.f3), .string ((rd_T30 y149 0).f2.f4), .int .i64 ((rd_T30 y149 0).f3), .string ((rd_T30 y149 0).f4)] from (k30_mkM _ _ _ (⟨(rd_T30 y149 0).f0, (rd_T30 y149 0).f1, (⟨(rd_T30 y149 0).f2.f0, (rd_T30 y149 0).f2.f1, (rd_T30 y149 0).f2.f2, (rd_T30 y149 0).f2.f3, (rd_T30 y149 0).f2.f4⟩ : S28), (rd_T30 y149 0).f3, (rd_T30 y149 0).f4⟩ : S30) )) (Reps.c9 (show Kd.M k30 _ _ _ (⟨(rd_T30 y149 3).f0, (rd_T30 y149 3).f1, (⟨(rd_T30 y149 3).f2.f0, (rd_T30 y149 3).f2.f1, (rd_T30 y149 3).f2.f2, (rd_T30 y149 3).f2.f3, (rd_T30 y149 3).f2.f4⟩ : S28), (rd_T30 y149 3).f3, (rd_T30 y149 3).f4⟩ : S30) [.int .i64 ((rd_T30 y149 3).f0), .int .i64 ((rd_T30 y149 3).f1), .int .i64 ((rd_T30 y149 3).f2.f0), .string ((rd_T30 y149 3).f2.f1), .string ((rd_T30 y149 3).f2.f2), .string ((rd_T30 y149 3).f2.f3), .string ((rd_T30 y149 3).f2.f4), .int .i64 ((rd_T30 y149 3).f3), .string ((rd_T30 y149 3).f4)] from (k30_mkM _ _ _ (⟨(rd_T30 y149 3).f0, (rd_T30 y149 3).f1, (⟨(rd_T30 y149 3).f2.f0, (rd_T30 y149 3).f2.f1, (rd_T30 y149 3).f2.f2, (rd_T30 y149 3).f2.f3, (rd_T30 y149 3).f2.f4⟩ : S28), (rd_T30 y149 3).f3, (rd_T30 y149 3).f4⟩ : S30) )) (Reps.none _ _))))
    intro v155 w82 ho83 hb hg_ hnew_
    have HS0_ := (hb.cell (World.block_lt_of_cell? _ _ (hHeld.1))).trans (hHeld.1)
    have HS1_ := (hb.cell (World.block_lt_of_cell? _ _ (hHeld.2.1))).trans (hHeld.2.1)
    have HS2_ := (hb.cell (World.block_lt_of_cell? _ _ (hHeld.2.2.1))).trans (hHeld.2.2.1)
    have HS3_ := (hb.cell (World.block_lt_of_cell? _ _ (hHeld.2.2.2.1))).trans (hHeld.2.2.2.1)
    have HS4_ := (hb.cell (World.block_lt_of_cell? _ _ (hHeld.2.2.2.2.1))).trans (hHeld.2.2.2.2.1)
    have HS5_ := (hb.cell (World.block_lt_of_cell? _ _ (hHeld.2.2.2.2.2.1))).trans (hHeld.2.2.2.2.2.1)
    have HS6_ := (hb.cell (World.block_lt_of_cell? _ _ (hHeld.2.2.2.2.2.2.1))).trans (hHeld.2.2.2.2.2.2.1)
    have HS7_ := (hb.cell (World.block_lt_of_cell? _ _ (hHeld.2.2.2.2.2.2.2.1))).trans (hHeld.2.2.2.2.2.2.2.1)
    have HS8_ := (hb.cell (World.block_lt_of_cell? _ _ (hHeld.2.2.2.2.2.2.2.2.1))).trans (hHeld.2.2.2.2.2.2.2.2.1)
    have HS9_ := (hb.cell (World.block_lt_of_cell? _ _ (hHeld.2.2.2.2.2.2.2.2.2.1))).trans (hHeld.2.2.2.2.2.2.2.2.2.1)
    have HS10_ := (hb.cell (World.block_lt_of_cell? _ _ (hHeld.2.2.2.2.2.2.2.2.2.2.1))).trans (hHeld.2.2.2.2.2.2.2.2.2.2.1)
    have HS11_ := (hb.cell (World.block_lt_of_cell? _ _ (hHeld.2.2.2.2.2.2.2.2.2.2.2.1))).trans (hHeld.2.2.2.2.2.2.2.2.2.2.2.1)
    have HS12_ := (hb.cell (World.block_lt_of_cell? _ _ (hHeld.2.2.2.2.2.2.2.2.2.2.2.2.1))).trans (hHeld.2.2.2.2.2.2.2.2.2.2.2.2.1)
    have HS13_ := (hb.cell (World.block_lt_of_cell? _ _ (hHeld.2.2.2.2.2.2.2.2.2.2.2.2.2.1))).trans (hHeld.2.2.2.2.2.2.2.2.2.2.2.2.2.1)
    have HS14_ := (hb.cell (World.block_lt_of_cell? _ _ (hHeld.2.2.2.2.2.2.2.2.2.2.2.2.2.2.1))).trans (hHeld.2.2.2.2.2.2.2.2.2.2.2.2.2.2.1)
    have HS15_ := (hb.cell (World.block_lt_of_cell? _ _ (hHeld.2.2.2.2.2.2.2.2.2.2.2.2.2.2.2.1))).trans (hHeld.2.2.2.2.2.2.2.2.2.2.2.2.2.2.2.1)
    have HS16_ := (hb.cell (World.block_lt_of_cell? _ _ (hHeld.2.2.2.2.2.2.2.2.2.2.2.2.2.2.2.2.1))).trans (hHeld.2.2.2.2.2.2.2.2.2.2.2.2.2.2.2.2.1)
    have HS17_ := (hb.cell (World.block_lt_of_cell? _ _ (hHeld.2.2.2.2.2.2.2.2.2.2.2.2.2.2.2.2.2))).trans (hHeld.2.2.2.2.2.2.2.2.2.2.2.2.2.2.2.2.2)
    clear hg_ hnew_
    (first | rw [← Ny154.out] at ho83 | (simp only [Int.reduceToNat] at ho83; rw [← Ny154.out] at ho83))
    have n0_ := Aside0.mk (Kd.R_elder' (by (with_reducible repeat (first | apply Kd.R_alloc | apply Kd.R_drewN | apply Kd.R_drew)); exact HO151.out) (Kd.R_base ho83) hb)
    have n1_ := Aside0.mk (Kd.R_lower (Kd.R_new' ho83 (Kd.R_lt (by (with_reducible repeat (first | apply Kd.R_alloc | apply Kd.R_drewN | apply Kd.R_drew)); exact HO151.out))) (below_size (by repeat (first | (with_reducible first | exact HB.out | apply a1_ | apply a2_ | apply a3_) | exact HB.out))))
    have n2_ := Aside0.mk (below_step (by repeat (first | (with_reducible first | exact HB.out | apply a1_ | apply a2_ | apply a3_) | exact HB.out)) hb)
    clear HO151
    clear HB
    have HO151 := n0_
    have HO156 := n1_
    have HB := n2_
    clear n0_ n1_ n2_
    clear hb ho83
    refine hK.out _ _ ⟨HS0_, HS1_, HS2_, HS3_, HS4_, HS5_, HS6_, HS7_, HS8_, HS9_, HS10_, HS11_, HS12_, HS13_, HS14_, HS15_, HS16_, HS17_⟩ (fun hHeld => ?_)
    clear hK K
    refine norm_ (a' := ?_) ?_ ?_
    rotate_left
    ·show Act.put _ (some 15) _ = _
     simp only [Act.put, List.setIfInBounds_toArray, List.set_cons_zero, List.set_cons_succ, i64_w, i32_w]
     rfl
    refine pq_ 7 2 (mb_ 8 255) HT_.out ?_
    refine done_ (done_of HT_.out (by kernel_rfl)) ?_
    try go_wp2_with (first | ((with_reducible refine gate_callee (f := 16) rfl ?_); refine goesL_ (some 17) rfl rfl Tryd.func16 (by kernel_rfl) rfl #[.slice (some ad152) y149.length co81] rfl (by (try simp only [List.map_toArray, List.map_cons, List.map_nil]); first | done | rfl | (simp only [List.length_drop, List.length_take]; rfl)) ?_; (with_reducible refine (audit_Life.calls _ _ y149 t157 _ ?side1 ?side2 A8.out).mono ?_); (case side1 => repeat (first | exact (Kd.R_reads' HO151.out).2.2 | (with_reducible refine Kd.C_alloc ?_ _) | (with_reducible refine Kd.C_drewN ?_ _) | (with_reducible refine Kd.C_drew ?_))); (case side2 => exact (Kd.R_reads' HO151.out).2.1); rintro e w84 ⟨rfl, hb⟩; refine ⟨_, rfl, ?_⟩; have n0_ := Aside0.mk (Kd.R_below (by (with_reducible repeat (first | apply Kd.R_alloc | apply Kd.R_drewN | apply Kd.R_drew)); exact HO151.out) hb); have n1_ := Aside0.mk (Kd.R_below (by (with_reducible repeat (first | apply Kd.R_alloc | apply Kd.R_drewN | apply Kd.R_drew)); exact HO156.out) hb); have n2_ := Aside0.mk (below_step (by repeat (first | (with_reducible first | exact HB.out | apply a1_ | apply a2_ | apply a3_) | exact HB.out)) hb); clear HO151; clear HO156; clear HB; have HO151 := n0_; have HO156 := n1_; have HB := n2_; clear n0_ n1_ n2_; (try clear hb); (try clear hk)))
    go_ret
    exact ⟨by first | rfl | (simp [errW_none, errW_some] <;> rfl) | (simp [*, errW_none, errW_some] <;> rfl), by repeat (first | (with_reducible first | exact HB.out | apply a1_ | apply a2_ | apply a3_) | exact HB.out)⟩
  ·rw [if_neg c7] at H
   exact absurd H (by simp)
 ·rw [if_neg c6] at H
  exact absurd H (by simp)
end Go.Proofs.YtlmhgnkkdjpkcaaDoor.PA
