-- Written by a program of this session (gprint.py, a turned print with given contracts).
import Derived.Test.YtlmhgnkkdjpkcaaDoorWm
import Derived.Test.YtlmhgnkkdjpkcaaDoorPAx0m
import Derived.Test.YtlmhgnkkdjpkcaaDoorPAx11
import Derived.Test.YtlmhgnkkdjpkcaaDoorPAx14
namespace Go.Proofs.YtlmhgnkkdjpkcaaDoor.PA
open Go.RowKit Go.Proofs.YtlmhgnkkdjpkcaaDoorW.PrintWords Go.Proofs.YtlmhgnkkdjpkcaaDoorW.PrintLast Go.Proofs.YtlmhgnkkdjpkcaaDoorW.PrintMore
attribute [local go_sem] max2_int min2_int max_two min_two max_three min_three max_four min_four   -- for this text's walks alone
set_option linter.unusedVariables false
set_option linter.unusedSimpArgs false

/-! ### outlawref23_Life: function 19 -/
def outlawref23_Life.l0 : Nat → List (S30) → Int → Option (Int)
 | 0, _, _ => none
 | k + 1, x0, x3 => if x3 < (x0.length : Int) then (if 0 ≤ x3 then (if ((rd_T30 x0 x3).f0) < 1 then (some x3) else (if ((rd_T30 x0 x3).f0) > 9 then (some x3) else ((outlawref23_bare.f ((rd_T30 x0 x3).f0) ((rd_T30 x0 x3).f1) ((rd_T30 x0 x3).f2.f0) ((rd_T30 x0 x3).f2.f1) ((rd_T30 x0 x3).f2.f2) ((rd_T30 x0 x3).f2.f3) ((rd_T30 x0 x3).f2.f4) ((rd_T30 x0 x3).f3) ((rd_T30 x0 x3).f4)).bind fun t229 => (if t229 = true then (if x3 ≤ (x0.length : Int) then ((outlawref23_one.f k (x0.take (x3 : Int).toNat) ((rd_T30 x0 x3).f0) ((rd_T30 x0 x3).f1) ((rd_T30 x0 x3).f2.f0) ((rd_T30 x0 x3).f2.f1) ((rd_T30 x0 x3).f2.f2) ((rd_T30 x0 x3).f2.f3) ((rd_T30 x0 x3).f2.f4) ((rd_T30 x0 x3).f3) ((rd_T30 x0 x3).f4)).bind fun t235 => (if t235 = true then (outlawref23_Life.l0 k x0 (wrap64 (x3 + 1))) else (some x3))) else (none)) else (some x3))))) else (none)) else (some (-1))
def outlawref23_Life.f (k : Nat) (l0 : List (S30)) : Option (Int) := outlawref23_Life.l0 k l0 0
theorem outlawref23_Life.mono_l : ∀ k, (∀ y0 y1, LeO (outlawref23_Life.l0 k y0 y1) (outlawref23_Life.l0 (k + 1) y0 y1))
 | 0 => fun _ _ r h => by simp [outlawref23_Life.l0] at h
 | k + 1 => by
  have ih0 := outlawref23_Life.mono_l k
  ·intro y0 y1
   unfold outlawref23_Life.l0
   repeat' first
   | (with_reducible exact ih0 _ _)
   | (with_reducible exact outlawref23_one.mono _ _ _ _ _ _ _ _ _ _ _)
   | (with_reducible exact LeO.refl _)
   | (with_reducible exact LeO.none _)
   | (with_reducible refine LeO.ite ?_ ?_)
   | (with_reducible refine LeO.bind ?_ (fun _ => ?_))
   | refine LeO.ite ?_ ?_
   | refine LeO.bind ?_ (fun _ => ?_)
theorem outlawref23_Life.mono : ∀ a0 k, LeO (outlawref23_Life.f k a0) (outlawref23_Life.f (k + 1) a0) := by
 intro a0 k
 have ih0 := outlawref23_Life.mono_l k
 unfold outlawref23_Life.f
 repeat' first
   | (with_reducible exact ih0 _ _)
   | (with_reducible exact outlawref23_one.mono _ _ _ _ _ _ _ _ _ _ _)
   | (with_reducible exact LeO.refl _)
   | (with_reducible exact LeO.none _)
   | (with_reducible refine LeO.ite ?_ ?_)
   | (with_reducible refine LeO.bind ?_ (fun _ => ?_))
   | refine LeO.ite ?_ ?_
   | refine LeO.bind ?_ (fun _ => ?_)
def outlawref23_Life.T4 : Bool × List (List Nat × List Nat) := (true, [([], []), ([], []), ([0, 1], [0, 1]), ([2], [2]), ([3], [3]), ([4], [4]), ([5], [5]), ([6], [6]), ([6], [6]), ([7, 8, 6], [6, 7, 8]), ([9, 6], [6, 9]), ([10, 6], [6, 10]), ([11, 6], [6, 11]), ([6, 12], [6, 12]), ([13, 6], [13]), ([14], [14]), ([14], [14]), ([15, 16, 14], [14, 15, 16]), ([17, 14], [14, 17]), ([18, 14, 14], [14, 18]), ([19, 14], [14, 19]), ([14, 20], [14, 20]), ([21, 19], [21]), ([22], [22]), ([22], [22]), ([23, 24, 22], [22, 23, 24]), ([22], [22]), ([22], [22]), ([26, 27, 22], [22, 26, 27]), ([28, 22], [22, 28]), ([25, 29, 22, 22], [22, 25, 29]), ([30, 22], [22, 30]), ([22, 31], [22, 31])])
def outlawref23_Life.B4 : List Nat := [0, 0, 3, 7, 15, 31, 63, 127, 127, 511, 1023, 2047, 4095, 8191, 16383, 32767, 32767, 131071, 262143, 524287, 1048575, 2097151, 4194303, 8388607, 8388607, 33554431, 8388607, 8388607, 209715199, 478150655, 1073741823, 2147483647, 4294967295]
theorem outlawref23_Life.tab4 : rtab .any (opsOf Tryd.f19 4) = outlawref23_Life.T4 := by kernel_rfl
theorem outlawref23_Life.bits4 : waitsOk outlawref23_Life.T4.2 outlawref23_Life.B4 = true := by kernel_rfl
set_option maxHeartbeats 8000000 in
set_option maxRecDepth 100000 in
theorem outlawref23_Life.calls (k : Nat) (A0 : Option Addr) (c0 : Nat) (l0 : List (S30)) (r : Int) (w : World) (hr0 : Kd.C k30 w A0 l0.length l0) (hc0 : l0.length ≤ c0) (h : outlawref23_Life.f k l0 = some r) :
  Calls Tryd.prog 19 #[.slice A0 l0.length c0] w fun e w' => e = .returned (.int .i64 r) ∧ Below w.heap.size w w' := by
 have hu30 := Tryd.underlying30
 have HR0 := Aside0.mk hr0
 have HC0 := Aside0.mk hc0
 clear hr0 hc0
 have HB := Aside0.mk (Below.refl w.heap.size w)
 have H : (outlawref23_Life.l0 k l0 0) = some r := h
 clear h
 have H' := Aside0.mk H
 clear H
 go_enter Tryd.func19, Tryd.ntmps19
 go_wp2
 go_loopg [3] k (fun kq v3 w' => ∃ (x3_1 : Int), v3 = .int .i64 x3_1 ∧ Aside0 (outlawref23_Life.l0 kq l0 x3_1 = some r) ∧ Aside0 (kq ≤ k) ∧ Aside0 (Below w.heap.size w w'))
 case atStart => exact ⟨(0), (by first | rfl | (simp; done) | (simp [*]; done)), H', ⟨Nat.le_refl _⟩, ⟨by repeat (first | (with_reducible first | exact HB.out | apply a1_ | apply a2_ | apply a3_) | exact HB.out)⟩⟩
 case round =>
  clear H'
  try clear c1
  obtain ⟨x3_1, rfl, HA, HK1, HB⟩ := hrel
  cases gk with
  | zero => exact absurd HA.out (by simp [outlawref23_Life.l0])
  | succ k1 =>
   have H := HA.out
   clear HA
   simp only [outlawref23_Life.l0] at H
   by_cases c2 : x3_1 < (l0.length : Int)
   ·rw [if_pos c2] at H
    have c2b0 : decide (x3_1 < (l0.length : Int)) = true := decide_eq_true c2
    clear c2
    by_cases c3 : 0 ≤ x3_1
    ·rw [if_pos c3] at H
     have c3b0 : decide (0 ≤ x3_1) = true := decide_eq_true c3
     clear c3
     by_cases c4 : ((rd_T30 l0 x3_1).f0) < 1
     ·rw [if_pos c4] at H
      have c4b0 : decide (((rd_T30 l0 x3_1).f0) < 1) = true := decide_eq_true c4
      clear c4
      obtain rfl := Option.some.inj H
      try go_wp2
      have n0_ := Aside0.mk (below_drew1 HB.out)
      clear HB
      have HB := n0_
      clear n0_
      have p226 : 0 ≤ (x3_1 : Int) := of_decide_eq_true (by first | (with_reducible assumption) | assumption)
      have q226 : x3_1 < (l0.length : Int) := of_decide_eq_true (by first | (with_reducible assumption) | assumption)
      obtain ⟨ad226, e226, hx226_0, hx226_1, hx226_2, hx226_3, hx226_4, hx226_5, hx226_6, hx226_7, hx226_8⟩ := at_T30 HR0.out x3_1 p226 q226
      have hw226_8 := hx226_8
      have hw226_7 := hx226_7
      have hw226_6 := hx226_6
      have hw226_5 := hx226_5
      have hw226_4 := hx226_4
      have hw226_3 := hx226_3
      have hw226_2 := hx226_2
      have hw226_1 := hx226_1
      have hw226_0 := hx226_0
      cases e226
      replace hx226_0 := up_ HB.out hx226_0
      replace hx226_1 := up_ HB.out hx226_1
      replace hx226_2 := up_ HB.out hx226_2
      replace hx226_3 := up_ HB.out hx226_3
      replace hx226_4 := up_ HB.out hx226_4
      replace hx226_5 := up_ HB.out hx226_5
      replace hx226_6 := up_ HB.out hx226_6
      replace hx226_7 := up_ HB.out hx226_7
      replace hx226_8 := up_ HB.out hx226_8
      replace p226 := eq_true p226
      replace q226 := eq_true q226
      refine start_ (n := 33) (S := fun w' => w'.cell? (ad226.add ((x3_1).toNat * 9)) = some (.int .i64 ((rd_T30 l0 x3_1).f0)) ∧ w'.cell? ⟨(ad226.add ((x3_1).toNat * 9)).block, (ad226.add ((x3_1).toNat * 9)).off + 1, none⟩ = some (.int .i64 ((rd_T30 l0 x3_1).f1)) ∧ w'.cell? ⟨(ad226.add ((x3_1).toNat * 9)).block, (ad226.add ((x3_1).toNat * 9)).off + 2, none⟩ = some (.int .i64 ((rd_T30 l0 x3_1).f2.f0)) ∧ w'.cell? ⟨(ad226.add ((x3_1).toNat * 9)).block, (ad226.add ((x3_1).toNat * 9)).off + 3, none⟩ = some (.string ((rd_T30 l0 x3_1).f2.f1)) ∧ w'.cell? ⟨(ad226.add ((x3_1).toNat * 9)).block, (ad226.add ((x3_1).toNat * 9)).off + 4, none⟩ = some (.string ((rd_T30 l0 x3_1).f2.f2)) ∧ w'.cell? ⟨(ad226.add ((x3_1).toNat * 9)).block, (ad226.add ((x3_1).toNat * 9)).off + 5, none⟩ = some (.string ((rd_T30 l0 x3_1).f2.f3)) ∧ w'.cell? ⟨(ad226.add ((x3_1).toNat * 9)).block, (ad226.add ((x3_1).toNat * 9)).off + 6, none⟩ = some (.string ((rd_T30 l0 x3_1).f2.f4)) ∧ w'.cell? ⟨(ad226.add ((x3_1).toNat * 9)).block, (ad226.add ((x3_1).toNat * 9)).off + 7, none⟩ = some (.int .i64 ((rd_T30 l0 x3_1).f3)) ∧ w'.cell? ⟨(ad226.add ((x3_1).toNat * 9)).block, (ad226.add ((x3_1).toNat * 9)).off + 8, none⟩ = some (.string ((rd_T30 l0 x3_1).f4))) (ds := []) #[F_,F_,F_,F_,F_,F_,F_,F_,F_,F_,F_,F_,F_,F_,F_,F_,F_,F_,F_,F_,F_,F_,F_,F_,F_,F_,F_,F_,F_,F_,F_,F_,F_] (by kernel_rfl) rfl rfl ⟨(up_ HB.out hw226_0), (up_ HB.out hw226_1), (up_ HB.out hw226_2), (up_ HB.out hw226_3), (up_ HB.out hw226_4), (up_ HB.out hw226_5), (up_ HB.out hw226_6), (up_ HB.out hw226_7), (up_ HB.out hw226_8)⟩ (fun hHeld => ?_); refine with_tabW outlawref23_Life.tab4 outlawref23_Life.bits4 (fun HT_ HW_ => ?_)
      generalize wr.drew = w5 at HB hx226_0 hx226_1 hx226_2 hx226_3 hx226_4 hx226_5 hx226_6 hx226_7 hx226_8 hHeld ⊢
      refine pq_ 0 10 (mb_ 33 1) HT_.out ?_
      refine pq_ 1 11 (mb_ 33 3) HT_.out ?_
      refine pq_ 2 12 (mb_ 33 7) HT_.out ?_
      refine pq_ 3 13 (mb_ 33 15) HT_.out ?_
      refine tq_ 4 14 (mb_ 33 31) HT_.out HW_.out hHeld ?_ (hr := by rintro w' ⟨s0, s1, s2, s3, s4, s5, s6, s7, s8⟩; go_simp; with_reducible rfl)
      refine pq_ 5 15 (mb_ 33 63) HT_.out ?_
      refine pq_ 6 16 (mb_ 33 127) HT_.out ?_
      refine pu_ 7 17 (mb_ 33 255) HT_.out ?_
      refine pu_ 8 18 (mb_ 33 511) HT_.out ?_
      refine pu_ 9 19 (mb_ 33 1023) HT_.out ?_
      refine pu_ 10 20 (mb_ 33 2047) HT_.out ?_
      refine pu_ 11 21 (mb_ 33 4095) HT_.out ?_
      refine pu_ 12 22 (mb_ 33 8191) HT_.out ?_
      refine pq_ 13 23 (mb_ 33 16383) HT_.out ?_
      refine pq_ 14 24 (mb_ 33 32767) HT_.out ?_
      refine pu_ 15 25 (mb_ 33 65535) HT_.out ?_
      refine pu_ 16 26 (mb_ 33 131071) HT_.out ?_
      refine pu_ 17 27 (mb_ 33 262143) HT_.out ?_
      refine pu_ 18 28 (mb_ 33 524287) HT_.out ?_
      refine pu_ 19 29 (mb_ 33 1048575) HT_.out ?_
      refine pu_ 20 30 (mb_ 33 2097151) HT_.out ?_
      refine pq_ 21 31 (mb_ 33 4194303) HT_.out ?_
      refine pq_ 22 32 (mb_ 33 8388607) HT_.out ?_
      refine pu_ 23 33 (mb_ 33 16777215) HT_.out ?_
      refine pu_ 24 34 (mb_ 33 33554431) HT_.out ?_
      refine pu_ 25 35 (mb_ 33 67108863) HT_.out ?_
      refine pu_ 26 36 (mb_ 33 134217727) HT_.out ?_
      refine pu_ 27 37 (mb_ 33 268435455) HT_.out ?_
      refine pu_ 28 38 (mb_ 33 536870911) HT_.out ?_
      refine pu_ 29 39 (mb_ 33 1073741823) HT_.out ?_
      refine pu_ 30 40 (mb_ 33 2147483647) HT_.out ?_
      refine pu_ 31 41 (mb_ 33 4294967295) HT_.out ?_
      refine pq_ 32 42 (mb_ 33 8589934591) HT_.out ?_
      refine done_ (done_of HT_.out (by kernel_rfl)) ?_
      try go_wp2
      go_ret
      exact ⟨by first | rfl | (simp [errW_none, errW_some] <;> rfl) | (simp [*, errW_none, errW_some] <;> rfl), by repeat (first | (with_reducible first | exact HB.out | apply a1_ | apply a2_ | apply a3_) | exact HB.out)⟩
     ·rw [if_neg c4] at H
      have c4b0 : decide (((rd_T30 l0 x3_1).f0) < 1) = false := decide_eq_false c4
      clear c4
      by_cases c6 : ((rd_T30 l0 x3_1).f0) > 9
      ·rw [if_pos c6] at H
       have c6b0 : decide (9 < ((rd_T30 l0 x3_1).f0)) = true := decide_eq_true c6
       clear c6
       obtain rfl := Option.some.inj H
       try go_wp2
       have n0_ := Aside0.mk (below_drew1 HB.out)
       clear HB
       have HB := n0_
       clear n0_
       have p226 : 0 ≤ (x3_1 : Int) := of_decide_eq_true (by first | (with_reducible assumption) | assumption)
       have q226 : x3_1 < (l0.length : Int) := of_decide_eq_true (by first | (with_reducible assumption) | assumption)
       obtain ⟨ad226, e226, hx226_0, hx226_1, hx226_2, hx226_3, hx226_4, hx226_5, hx226_6, hx226_7, hx226_8⟩ := at_T30 HR0.out x3_1 p226 q226
       have hw226_8 := hx226_8
       have hw226_7 := hx226_7
       have hw226_6 := hx226_6
       have hw226_5 := hx226_5
       have hw226_4 := hx226_4
       have hw226_3 := hx226_3
       have hw226_2 := hx226_2
       have hw226_1 := hx226_1
       have hw226_0 := hx226_0
       cases e226
       replace hx226_0 := up_ HB.out hx226_0
       replace hx226_1 := up_ HB.out hx226_1
       replace hx226_2 := up_ HB.out hx226_2
       replace hx226_3 := up_ HB.out hx226_3
       replace hx226_4 := up_ HB.out hx226_4
       replace hx226_5 := up_ HB.out hx226_5
       replace hx226_6 := up_ HB.out hx226_6
       replace hx226_7 := up_ HB.out hx226_7
       replace hx226_8 := up_ HB.out hx226_8
       replace p226 := eq_true p226
       replace q226 := eq_true q226
       have p227 : 0 ≤ (x3_1 : Int) := of_decide_eq_true (by first | (with_reducible assumption) | assumption)
       have q227 : x3_1 < (l0.length : Int) := of_decide_eq_true (by first | (with_reducible assumption) | assumption)
       obtain ⟨ad227, e227, hx227_0, hx227_1, hx227_2, hx227_3, hx227_4, hx227_5, hx227_6, hx227_7, hx227_8⟩ := at_T30 HR0.out x3_1 p227 q227
       have hw227_8 := hx227_8
       have hw227_7 := hx227_7
       have hw227_6 := hx227_6
       have hw227_5 := hx227_5
       have hw227_4 := hx227_4
       have hw227_3 := hx227_3
       have hw227_2 := hx227_2
       have hw227_1 := hx227_1
       have hw227_0 := hx227_0
       obtain rfl : ad226 = ad227 := (by injection e227)
       replace hx227_0 := up_ HB.out hx227_0
       replace hx227_1 := up_ HB.out hx227_1
       replace hx227_2 := up_ HB.out hx227_2
       replace hx227_3 := up_ HB.out hx227_3
       replace hx227_4 := up_ HB.out hx227_4
       replace hx227_5 := up_ HB.out hx227_5
       replace hx227_6 := up_ HB.out hx227_6
       replace hx227_7 := up_ HB.out hx227_7
       replace hx227_8 := up_ HB.out hx227_8
       replace p227 := eq_true p227
       replace q227 := eq_true q227
       refine start_ (n := 33) (S := fun w' => w'.cell? (ad226.add ((x3_1).toNat * 9)) = some (.int .i64 ((rd_T30 l0 x3_1).f0)) ∧ w'.cell? ⟨(ad226.add ((x3_1).toNat * 9)).block, (ad226.add ((x3_1).toNat * 9)).off + 1, none⟩ = some (.int .i64 ((rd_T30 l0 x3_1).f1)) ∧ w'.cell? ⟨(ad226.add ((x3_1).toNat * 9)).block, (ad226.add ((x3_1).toNat * 9)).off + 2, none⟩ = some (.int .i64 ((rd_T30 l0 x3_1).f2.f0)) ∧ w'.cell? ⟨(ad226.add ((x3_1).toNat * 9)).block, (ad226.add ((x3_1).toNat * 9)).off + 3, none⟩ = some (.string ((rd_T30 l0 x3_1).f2.f1)) ∧ w'.cell? ⟨(ad226.add ((x3_1).toNat * 9)).block, (ad226.add ((x3_1).toNat * 9)).off + 4, none⟩ = some (.string ((rd_T30 l0 x3_1).f2.f2)) ∧ w'.cell? ⟨(ad226.add ((x3_1).toNat * 9)).block, (ad226.add ((x3_1).toNat * 9)).off + 5, none⟩ = some (.string ((rd_T30 l0 x3_1).f2.f3)) ∧ w'.cell? ⟨(ad226.add ((x3_1).toNat * 9)).block, (ad226.add ((x3_1).toNat * 9)).off + 6, none⟩ = some (.string ((rd_T30 l0 x3_1).f2.f4)) ∧ w'.cell? ⟨(ad226.add ((x3_1).toNat * 9)).block, (ad226.add ((x3_1).toNat * 9)).off + 7, none⟩ = some (.int .i64 ((rd_T30 l0 x3_1).f3)) ∧ w'.cell? ⟨(ad226.add ((x3_1).toNat * 9)).block, (ad226.add ((x3_1).toNat * 9)).off + 8, none⟩ = some (.string ((rd_T30 l0 x3_1).f4)) ∧ w'.cell? (ad226.add ((x3_1).toNat * 9)) = some (.int .i64 ((rd_T30 l0 x3_1).f0)) ∧ w'.cell? ⟨(ad226.add ((x3_1).toNat * 9)).block, (ad226.add ((x3_1).toNat * 9)).off + 1, none⟩ = some (.int .i64 ((rd_T30 l0 x3_1).f1)) ∧ w'.cell? ⟨(ad226.add ((x3_1).toNat * 9)).block, (ad226.add ((x3_1).toNat * 9)).off + 2, none⟩ = some (.int .i64 ((rd_T30 l0 x3_1).f2.f0)) ∧ w'.cell? ⟨(ad226.add ((x3_1).toNat * 9)).block, (ad226.add ((x3_1).toNat * 9)).off + 3, none⟩ = some (.string ((rd_T30 l0 x3_1).f2.f1)) ∧ w'.cell? ⟨(ad226.add ((x3_1).toNat * 9)).block, (ad226.add ((x3_1).toNat * 9)).off + 4, none⟩ = some (.string ((rd_T30 l0 x3_1).f2.f2)) ∧ w'.cell? ⟨(ad226.add ((x3_1).toNat * 9)).block, (ad226.add ((x3_1).toNat * 9)).off + 5, none⟩ = some (.string ((rd_T30 l0 x3_1).f2.f3)) ∧ w'.cell? ⟨(ad226.add ((x3_1).toNat * 9)).block, (ad226.add ((x3_1).toNat * 9)).off + 6, none⟩ = some (.string ((rd_T30 l0 x3_1).f2.f4)) ∧ w'.cell? ⟨(ad226.add ((x3_1).toNat * 9)).block, (ad226.add ((x3_1).toNat * 9)).off + 7, none⟩ = some (.int .i64 ((rd_T30 l0 x3_1).f3)) ∧ w'.cell? ⟨(ad226.add ((x3_1).toNat * 9)).block, (ad226.add ((x3_1).toNat * 9)).off + 8, none⟩ = some (.string ((rd_T30 l0 x3_1).f4))) (ds := []) #[F_,F_,F_,F_,F_,F_,F_,F_,F_,F_,F_,F_,F_,F_,F_,F_,F_,F_,F_,F_,F_,F_,F_,F_,F_,F_,F_,F_,F_,F_,F_,F_,F_] (by kernel_rfl) rfl rfl ⟨(up_ HB.out hw226_0), (up_ HB.out hw226_1), (up_ HB.out hw226_2), (up_ HB.out hw226_3), (up_ HB.out hw226_4), (up_ HB.out hw226_5), (up_ HB.out hw226_6), (up_ HB.out hw226_7), (up_ HB.out hw226_8), (up_ HB.out hw227_0), (up_ HB.out hw227_1), (up_ HB.out hw227_2), (up_ HB.out hw227_3), (up_ HB.out hw227_4), (up_ HB.out hw227_5), (up_ HB.out hw227_6), (up_ HB.out hw227_7), (up_ HB.out hw227_8)⟩ (fun hHeld => ?_); refine with_tabW outlawref23_Life.tab4 outlawref23_Life.bits4 (fun HT_ HW_ => ?_)
       generalize wr.drew = w7 at HB hx226_0 hx226_1 hx226_2 hx226_3 hx226_4 hx226_5 hx226_6 hx226_7 hx226_8 hx227_0 hx227_1 hx227_2 hx227_3 hx227_4 hx227_5 hx227_6 hx227_7 hx227_8 hHeld ⊢
       refine pq_ 0 10 (mb_ 33 1) HT_.out ?_
       refine pq_ 1 11 (mb_ 33 3) HT_.out ?_
       refine pq_ 2 12 (mb_ 33 7) HT_.out ?_
       refine pq_ 3 13 (mb_ 33 15) HT_.out ?_
       refine tq_ 4 14 (mb_ 33 31) HT_.out HW_.out hHeld ?_ (hr := by rintro w' ⟨s0, s1, s2, s3, s4, s5, s6, s7, s8, s9, s10, s11, s12, s13, s14, s15, s16, s17⟩; go_simp; with_reducible rfl)
       refine pq_ 5 15 (mb_ 33 63) HT_.out ?_
       refine pq_ 6 16 (mb_ 33 127) HT_.out ?_
       refine pq_ 7 17 (mb_ 33 255) HT_.out ?_
       refine pq_ 8 18 (mb_ 33 511) HT_.out ?_
       refine pq_ 9 19 (mb_ 33 1023) HT_.out ?_
       refine pq_ 10 20 (mb_ 33 2047) HT_.out ?_
       refine tq_ 11 21 (mb_ 33 4095) HT_.out HW_.out hHeld ?_ (hr := by rintro w' ⟨s0, s1, s2, s3, s4, s5, s6, s7, s8, s9, s10, s11, s12, s13, s14, s15, s16, s17⟩; go_simp; with_reducible rfl)
       refine pq_ 12 22 (mb_ 33 8191) HT_.out ?_
       refine pq_ 13 23 (mb_ 33 16383) HT_.out ?_
       refine pq_ 14 24 (mb_ 33 32767) HT_.out ?_
       refine pu_ 15 25 (mb_ 33 65535) HT_.out ?_
       refine pu_ 16 26 (mb_ 33 131071) HT_.out ?_
       refine pu_ 17 27 (mb_ 33 262143) HT_.out ?_
       refine pu_ 18 28 (mb_ 33 524287) HT_.out ?_
       refine pu_ 19 29 (mb_ 33 1048575) HT_.out ?_
       refine pu_ 20 30 (mb_ 33 2097151) HT_.out ?_
       refine pq_ 21 31 (mb_ 33 4194303) HT_.out ?_
       refine pq_ 22 32 (mb_ 33 8388607) HT_.out ?_
       refine pu_ 23 33 (mb_ 33 16777215) HT_.out ?_
       refine pu_ 24 34 (mb_ 33 33554431) HT_.out ?_
       refine pu_ 25 35 (mb_ 33 67108863) HT_.out ?_
       refine pu_ 26 36 (mb_ 33 134217727) HT_.out ?_
       refine pu_ 27 37 (mb_ 33 268435455) HT_.out ?_
       refine pu_ 28 38 (mb_ 33 536870911) HT_.out ?_
       refine pu_ 29 39 (mb_ 33 1073741823) HT_.out ?_
       refine pu_ 30 40 (mb_ 33 2147483647) HT_.out ?_
       refine pu_ 31 41 (mb_ 33 4294967295) HT_.out ?_
       refine pq_ 32 42 (mb_ 33 8589934591) HT_.out ?_
       refine done_ (done_of HT_.out (by kernel_rfl)) ?_
       try go_wp2
       go_ret
       exact ⟨by first | rfl | (simp [errW_none, errW_some] <;> rfl) | (simp [*, errW_none, errW_some] <;> rfl), by repeat (first | (with_reducible first | exact HB.out | apply a1_ | apply a2_ | apply a3_) | exact HB.out)⟩
      ·rw [if_neg c6] at H
       have c6b0 : decide (9 < ((rd_T30 l0 x3_1).f0)) = false := decide_eq_false c6
       clear c6
       replace H := Option.bind_eq_some_iff.mp H
       obtain ⟨t229, A80, H⟩ := H
       have A8 := Aside0.mk A80
       clear A80
       by_cases c9 : t229 = true
       ·subst c9
        rw [if_pos rfl] at H
        have c10b0 := eq_true (of_decide_eq_true (by first | (with_reducible assumption) | assumption) : 0 ≤ x3_1)
        by_cases c11 : x3_1 ≤ (l0.length : Int)
        ·rw [if_pos c11] at H
         have c11b0 := eq_true c11
         have c11b1 : decide (x3_1 ≤ (l0.length : Int)) = true := decide_eq_true c11
         clear c11
         obtain ⟨y230, hy230⟩ : ∃ y_ : List (S30), y_ = (l0.take (x3_1 : Int).toNat) := ⟨_, rfl⟩
         first | rw [← hy230, Option.bind_some] at H | rw [← hy230] at H
         have Ny230 := Aside0.mk hy230
         clear hy230
         replace H := Option.bind_eq_some_iff.mp H
         obtain ⟨t235, A120, H⟩ := H
         have A12 := Aside0.mk A120
         clear A120
         by_cases c13 : t235 = true
         ·subst c13
          rw [if_pos rfl] at H
          have H' := Aside0.mk H
          clear H
          try go_wp2
          have n0_ := Aside0.mk (below_drew1 HB.out)
          clear HB
          have HB := n0_
          clear n0_
          have p226 : 0 ≤ (x3_1 : Int) := of_decide_eq_true (by first | (with_reducible assumption) | assumption)
          have q226 : x3_1 < (l0.length : Int) := of_decide_eq_true (by first | (with_reducible assumption) | assumption)
          obtain ⟨ad226, e226, hx226_0, hx226_1, hx226_2, hx226_3, hx226_4, hx226_5, hx226_6, hx226_7, hx226_8⟩ := at_T30 HR0.out x3_1 p226 q226
          have hw226_8 := hx226_8
          have hw226_7 := hx226_7
          have hw226_6 := hx226_6
          have hw226_5 := hx226_5
          have hw226_4 := hx226_4
          have hw226_3 := hx226_3
          have hw226_2 := hx226_2
          have hw226_1 := hx226_1
          have hw226_0 := hx226_0
          cases e226
          replace hx226_0 := up_ HB.out hx226_0
          replace hx226_1 := up_ HB.out hx226_1
          replace hx226_2 := up_ HB.out hx226_2
          replace hx226_3 := up_ HB.out hx226_3
          replace hx226_4 := up_ HB.out hx226_4
          replace hx226_5 := up_ HB.out hx226_5
          replace hx226_6 := up_ HB.out hx226_6
          replace hx226_7 := up_ HB.out hx226_7
          replace hx226_8 := up_ HB.out hx226_8
          replace p226 := eq_true p226
          replace q226 := eq_true q226
          have p227 : 0 ≤ (x3_1 : Int) := of_decide_eq_true (by first | (with_reducible assumption) | assumption)
          have q227 : x3_1 < (l0.length : Int) := of_decide_eq_true (by first | (with_reducible assumption) | assumption)
          obtain ⟨ad227, e227, hx227_0, hx227_1, hx227_2, hx227_3, hx227_4, hx227_5, hx227_6, hx227_7, hx227_8⟩ := at_T30 HR0.out x3_1 p227 q227
          have hw227_8 := hx227_8
          have hw227_7 := hx227_7
          have hw227_6 := hx227_6
          have hw227_5 := hx227_5
          have hw227_4 := hx227_4
          have hw227_3 := hx227_3
          have hw227_2 := hx227_2
          have hw227_1 := hx227_1
          have hw227_0 := hx227_0
          obtain rfl : ad226 = ad227 := (by injection e227)
          replace hx227_0 := up_ HB.out hx227_0
          replace hx227_1 := up_ HB.out hx227_1
          replace hx227_2 := up_ HB.out hx227_2
          replace hx227_3 := up_ HB.out hx227_3
          replace hx227_4 := up_ HB.out hx227_4
          replace hx227_5 := up_ HB.out hx227_5
          replace hx227_6 := up_ HB.out hx227_6
          replace hx227_7 := up_ HB.out hx227_7
          replace hx227_8 := up_ HB.out hx227_8
          replace p227 := eq_true p227
          replace q227 := eq_true q227
          have p228 : 0 ≤ (x3_1 : Int) := of_decide_eq_true (by first | (with_reducible assumption) | assumption)
          have q228 : x3_1 < (l0.length : Int) := of_decide_eq_true (by first | (with_reducible assumption) | assumption)
          obtain ⟨ad228, e228, hx228_0, hx228_1, hx228_2, hx228_3, hx228_4, hx228_5, hx228_6, hx228_7, hx228_8⟩ := at_T30 HR0.out x3_1 p228 q228
          have hw228_8 := hx228_8
          have hw228_7 := hx228_7
          have hw228_6 := hx228_6
          have hw228_5 := hx228_5
          have hw228_4 := hx228_4
          have hw228_3 := hx228_3
          have hw228_2 := hx228_2
          have hw228_1 := hx228_1
          have hw228_0 := hx228_0
          obtain rfl : ad226 = ad228 := (by injection e228)
          replace hx228_0 := up_ HB.out hx228_0
          replace hx228_1 := up_ HB.out hx228_1
          replace hx228_2 := up_ HB.out hx228_2
          replace hx228_3 := up_ HB.out hx228_3
          replace hx228_4 := up_ HB.out hx228_4
          replace hx228_5 := up_ HB.out hx228_5
          replace hx228_6 := up_ HB.out hx228_6
          replace hx228_7 := up_ HB.out hx228_7
          replace hx228_8 := up_ HB.out hx228_8
          replace p228 := eq_true p228
          replace q228 := eq_true q228
          have p234 : 0 ≤ (x3_1 : Int) := of_decide_eq_true (by first | (with_reducible assumption) | assumption)
          have q234 : x3_1 < (l0.length : Int) := of_decide_eq_true (by first | (with_reducible assumption) | assumption)
          obtain ⟨ad234, e234, hx234_0, hx234_1, hx234_2, hx234_3, hx234_4, hx234_5, hx234_6, hx234_7, hx234_8⟩ := at_T30 HR0.out x3_1 p234 q234
          have hw234_8 := hx234_8
          have hw234_7 := hx234_7
          have hw234_6 := hx234_6
          have hw234_5 := hx234_5
          have hw234_4 := hx234_4
          have hw234_3 := hx234_3
          have hw234_2 := hx234_2
          have hw234_1 := hx234_1
          have hw234_0 := hx234_0
          obtain rfl : ad226 = ad234 := (by injection e234)
          replace hx234_0 := up_ HB.out hx234_0
          replace hx234_1 := up_ HB.out hx234_1
          replace hx234_2 := up_ HB.out hx234_2
          replace hx234_3 := up_ HB.out hx234_3
          replace hx234_4 := up_ HB.out hx234_4
          replace hx234_5 := up_ HB.out hx234_5
          replace hx234_6 := up_ HB.out hx234_6
          replace hx234_7 := up_ HB.out hx234_7
          replace hx234_8 := up_ HB.out hx234_8
          replace p234 := eq_true p234
          replace q234 := eq_true q234
          refine start_ (n := 33) (S := fun w' => w'.cell? (ad226.add ((x3_1).toNat * 9)) = some (.int .i64 ((rd_T30 l0 x3_1).f0)) ∧ w'.cell? ⟨(ad226.add ((x3_1).toNat * 9)).block, (ad226.add ((x3_1).toNat * 9)).off + 1, none⟩ = some (.int .i64 ((rd_T30 l0 x3_1).f1)) ∧ w'.cell? ⟨(ad226.add ((x3_1).toNat * 9)).block, (ad226.add ((x3_1).toNat * 9)).off + 2, none⟩ = some (.int .i64 ((rd_T30 l0 x3_1).f2.f0)) ∧ w'.cell? ⟨(ad226.add ((x3_1).toNat * 9)).block, (ad226.add ((x3_1).toNat * 9)).off + 3, none⟩ = some (.string ((rd_T30 l0 x3_1).f2.f1)) ∧ w'.cell? ⟨(ad226.add ((x3_1).toNat * 9)).block, (ad226.add ((x3_1).toNat * 9)).off + 4, none⟩ = some (.string ((rd_T30 l0 x3_1).f2.f2)) ∧ w'.cell? ⟨(ad226.add ((x3_1).toNat * 9)).block, (ad226.add ((x3_1).toNat * 9)).off + 5, none⟩ = some (.string ((rd_T30 l0 x3_1).f2.f3)) ∧ w'.cell? ⟨(ad226.add ((x3_1).toNat * 9)).block, (ad226.add ((x3_1).toNat * 9)).off + 6, none⟩ = some (.string ((rd_T30 l0 x3_1).f2.f4)) ∧ w'.cell? ⟨(ad226.add ((x3_1).toNat * 9)).block, (ad226.add ((x3_1).toNat * 9)).off + 7, none⟩ = some (.int .i64 ((rd_T30 l0 x3_1).f3)) ∧ w'.cell? ⟨(ad226.add ((x3_1).toNat * 9)).block, (ad226.add ((x3_1).toNat * 9)).off + 8, none⟩ = some (.string ((rd_T30 l0 x3_1).f4)) ∧ w'.cell? (ad226.add ((x3_1).toNat * 9)) = some (.int .i64 ((rd_T30 l0 x3_1).f0)) ∧ w'.cell? ⟨(ad226.add ((x3_1).toNat * 9)).block, (ad226.add ((x3_1).toNat * 9)).off + 1, none⟩ = some (.int .i64 ((rd_T30 l0 x3_1).f1)) ∧ w'.cell? ⟨(ad226.add ((x3_1).toNat * 9)).block, (ad226.add ((x3_1).toNat * 9)).off + 2, none⟩ = some (.int .i64 ((rd_T30 l0 x3_1).f2.f0)) ∧ w'.cell? ⟨(ad226.add ((x3_1).toNat * 9)).block, (ad226.add ((x3_1).toNat * 9)).off + 3, none⟩ = some (.string ((rd_T30 l0 x3_1).f2.f1)) ∧ w'.cell? ⟨(ad226.add ((x3_1).toNat * 9)).block, (ad226.add ((x3_1).toNat * 9)).off + 4, none⟩ = some (.string ((rd_T30 l0 x3_1).f2.f2)) ∧ w'.cell? ⟨(ad226.add ((x3_1).toNat * 9)).block, (ad226.add ((x3_1).toNat * 9)).off + 5, none⟩ = some (.string ((rd_T30 l0 x3_1).f2.f3)) ∧ w'.cell? ⟨(ad226.add ((x3_1).toNat * 9)).block, (ad226.add ((x3_1).toNat * 9)).off + 6, none⟩ = some (.string ((rd_T30 l0 x3_1).f2.f4)) ∧ w'.cell? ⟨(ad226.add ((x3_1).toNat * 9)).block, (ad226.add ((x3_1).toNat * 9)).off + 7, none⟩ = some (.int .i64 ((rd_T30 l0 x3_1).f3)) ∧ w'.cell? ⟨(ad226.add ((x3_1).toNat * 9)).block, (ad226.add ((x3_1).toNat * 9)).off + 8, none⟩ = some (.string ((rd_T30 l0 x3_1).f4)) ∧ w'.cell? (ad226.add ((x3_1).toNat * 9)) = some (.int .i64 ((rd_T30 l0 x3_1).f0)) ∧ w'.cell? ⟨(ad226.add ((x3_1).toNat * 9)).block, (ad226.add ((x3_1).toNat * 9)).off + 1, none⟩ = some (.int .i64 ((rd_T30 l0 x3_1).f1)) ∧ w'.cell? ⟨(ad226.add ((x3_1).toNat * 9)).block, (ad226.add ((x3_1).toNat * 9)).off + 2, none⟩ = some (.int .i64 ((rd_T30 l0 x3_1).f2.f0)) ∧ w'.cell? ⟨(ad226.add ((x3_1).toNat * 9)).block, (ad226.add ((x3_1).toNat * 9)).off + 3, none⟩ = some (.string ((rd_T30 l0 x3_1).f2.f1)) ∧ w'.cell? ⟨(ad226.add ((x3_1).toNat * 9)).block, (ad226.add ((x3_1).toNat * 9)).off + 4, none⟩ = some (.string ((rd_T30 l0 x3_1).f2.f2)) ∧ w'.cell? ⟨(ad226.add ((x3_1).toNat * 9)).block, (ad226.add ((x3_1).toNat * 9)).off + 5, none⟩ = some (.string ((rd_T30 l0 x3_1).f2.f3)) ∧ w'.cell? ⟨(ad226.add ((x3_1).toNat * 9)).block, (ad226.add ((x3_1).toNat * 9)).off + 6, none⟩ = some (.string ((rd_T30 l0 x3_1).f2.f4)) ∧ w'.cell? ⟨(ad226.add ((x3_1).toNat * 9)).block, (ad226.add ((x3_1).toNat * 9)).off + 7, none⟩ = some (.int .i64 ((rd_T30 l0 x3_1).f3)) ∧ w'.cell? ⟨(ad226.add ((x3_1).toNat * 9)).block, (ad226.add ((x3_1).toNat * 9)).off + 8, none⟩ = some (.string ((rd_T30 l0 x3_1).f4)) ∧ w'.cell? (ad226.add ((x3_1).toNat * 9)) = some (.int .i64 ((rd_T30 l0 x3_1).f0)) ∧ w'.cell? ⟨(ad226.add ((x3_1).toNat * 9)).block, (ad226.add ((x3_1).toNat * 9)).off + 1, none⟩ = some (.int .i64 ((rd_T30 l0 x3_1).f1)) ∧ w'.cell? ⟨(ad226.add ((x3_1).toNat * 9)).block, (ad226.add ((x3_1).toNat * 9)).off + 2, none⟩ = some (.int .i64 ((rd_T30 l0 x3_1).f2.f0)) ∧ w'.cell? ⟨(ad226.add ((x3_1).toNat * 9)).block, (ad226.add ((x3_1).toNat * 9)).off + 3, none⟩ = some (.string ((rd_T30 l0 x3_1).f2.f1)) ∧ w'.cell? ⟨(ad226.add ((x3_1).toNat * 9)).block, (ad226.add ((x3_1).toNat * 9)).off + 4, none⟩ = some (.string ((rd_T30 l0 x3_1).f2.f2)) ∧ w'.cell? ⟨(ad226.add ((x3_1).toNat * 9)).block, (ad226.add ((x3_1).toNat * 9)).off + 5, none⟩ = some (.string ((rd_T30 l0 x3_1).f2.f3)) ∧ w'.cell? ⟨(ad226.add ((x3_1).toNat * 9)).block, (ad226.add ((x3_1).toNat * 9)).off + 6, none⟩ = some (.string ((rd_T30 l0 x3_1).f2.f4)) ∧ w'.cell? ⟨(ad226.add ((x3_1).toNat * 9)).block, (ad226.add ((x3_1).toNat * 9)).off + 7, none⟩ = some (.int .i64 ((rd_T30 l0 x3_1).f3)) ∧ w'.cell? ⟨(ad226.add ((x3_1).toNat * 9)).block, (ad226.add ((x3_1).toNat * 9)).off + 8, none⟩ = some (.string ((rd_T30 l0 x3_1).f4))) (ds := []) #[F_,F_,F_,F_,F_,F_,F_,F_,F_,F_,F_,F_,F_,F_,F_,F_,F_,F_,F_,F_,F_,F_,F_,F_,F_,F_,F_,F_,F_,F_,F_,F_,F_] (by kernel_rfl) rfl rfl ⟨(up_ HB.out hw226_0), (up_ HB.out hw226_1), (up_ HB.out hw226_2), (up_ HB.out hw226_3), (up_ HB.out hw226_4), (up_ HB.out hw226_5), (up_ HB.out hw226_6), (up_ HB.out hw226_7), (up_ HB.out hw226_8), (up_ HB.out hw227_0), (up_ HB.out hw227_1), (up_ HB.out hw227_2), (up_ HB.out hw227_3), (up_ HB.out hw227_4), (up_ HB.out hw227_5), (up_ HB.out hw227_6), (up_ HB.out hw227_7), (up_ HB.out hw227_8), (up_ HB.out hw228_0), (up_ HB.out hw228_1), (up_ HB.out hw228_2), (up_ HB.out hw228_3), (up_ HB.out hw228_4), (up_ HB.out hw228_5), (up_ HB.out hw228_6), (up_ HB.out hw228_7), (up_ HB.out hw228_8), (up_ HB.out hw234_0), (up_ HB.out hw234_1), (up_ HB.out hw234_2), (up_ HB.out hw234_3), (up_ HB.out hw234_4), (up_ HB.out hw234_5), (up_ HB.out hw234_6), (up_ HB.out hw234_7), (up_ HB.out hw234_8)⟩ (fun hHeld => ?_); refine with_tabW outlawref23_Life.tab4 outlawref23_Life.bits4 (fun HT_ HW_ => ?_)
          generalize wr.drew = w14 at HB hx226_0 hx226_1 hx226_2 hx226_3 hx226_4 hx226_5 hx226_6 hx226_7 hx226_8 hx227_0 hx227_1 hx227_2 hx227_3 hx227_4 hx227_5 hx227_6 hx227_7 hx227_8 hx228_0 hx228_1 hx228_2 hx228_3 hx228_4 hx228_5 hx228_6 hx228_7 hx228_8 hx234_0 hx234_1 hx234_2 hx234_3 hx234_4 hx234_5 hx234_6 hx234_7 hx234_8 hHeld ⊢
          refine pq_ 0 10 (mb_ 33 1) HT_.out ?_
          refine pq_ 1 11 (mb_ 33 3) HT_.out ?_
          refine pq_ 2 12 (mb_ 33 7) HT_.out ?_
          refine pq_ 3 13 (mb_ 33 15) HT_.out ?_
          refine tq_ 4 14 (mb_ 33 31) HT_.out HW_.out hHeld ?_ (hr := by rintro w' ⟨s0, s1, s2, s3, s4, s5, s6, s7, s8, s9, s10, s11, s12, s13, s14, s15, s16, s17, s18, s19, s20, s21, s22, s23, s24, s25, s26, s27, s28, s29, s30, s31, s32, s33, s34, s35⟩; go_simp; with_reducible rfl)
          refine pq_ 5 15 (mb_ 33 63) HT_.out ?_
          refine pq_ 6 16 (mb_ 33 127) HT_.out ?_
          refine pq_ 7 17 (mb_ 33 255) HT_.out ?_
          refine pq_ 8 18 (mb_ 33 511) HT_.out ?_
          refine pq_ 9 19 (mb_ 33 1023) HT_.out ?_
          refine pq_ 10 20 (mb_ 33 2047) HT_.out ?_
          refine tq_ 11 21 (mb_ 33 4095) HT_.out HW_.out hHeld ?_ (hr := by rintro w' ⟨s0, s1, s2, s3, s4, s5, s6, s7, s8, s9, s10, s11, s12, s13, s14, s15, s16, s17, s18, s19, s20, s21, s22, s23, s24, s25, s26, s27, s28, s29, s30, s31, s32, s33, s34, s35⟩; go_simp; with_reducible rfl)
          refine pq_ 12 22 (mb_ 33 8191) HT_.out ?_
          refine pq_ 13 23 (mb_ 33 16383) HT_.out ?_
          refine pq_ 14 24 (mb_ 33 32767) HT_.out ?_
          refine pq_ 15 25 (mb_ 33 65535) HT_.out ?_
          refine pq_ 16 26 (mb_ 33 131071) HT_.out ?_
          refine pq_ 17 27 (mb_ 33 262143) HT_.out ?_
          refine tq_ 18 28 (mb_ 33 524287) HT_.out HW_.out hHeld ?_ (hr := by rintro w' ⟨s0, s1, s2, s3, s4, s5, s6, s7, s8, s9, s10, s11, s12, s13, s14, s15, s16, s17, s18, s19, s20, s21, s22, s23, s24, s25, s26, s27, s28, s29, s30, s31, s32, s33, s34, s35⟩; go_simp; with_reducible rfl)
          refine one_ (i := 19) (N := some 29) (mb_ 33 1048575) rfl rfl (one_of HT_.out (by kernel_rfl)) (by decide) (fun K hK => ?_)
          refine goes_ Tryd.func41 (by kernel_rfl) rfl #[.agg #[.int .i64 ((rd_T30 l0 x3_1).f0), .int .i64 ((rd_T30 l0 x3_1).f1), .int .i64 ((rd_T30 l0 x3_1).f2.f0), .string ((rd_T30 l0 x3_1).f2.f1), .string ((rd_T30 l0 x3_1).f2.f2), .string ((rd_T30 l0 x3_1).f2.f3), .string ((rd_T30 l0 x3_1).f2.f4), .int .i64 ((rd_T30 l0 x3_1).f3), .string ((rd_T30 l0 x3_1).f4)]] (by rfl) rfl rfl (by (try simp only [List.map_toArray, List.map_cons, List.map_nil]); first | done | rfl | (simp only [List.length_drop, List.length_take]; rfl)) ?_
          with_reducible refine (outlawref23_bare.calls ((rd_T30 l0 x3_1).f0) ((rd_T30 l0 x3_1).f1) ((rd_T30 l0 x3_1).f2.f0) ((rd_T30 l0 x3_1).f2.f1) ((rd_T30 l0 x3_1).f2.f2) ((rd_T30 l0 x3_1).f2.f3) ((rd_T30 l0 x3_1).f2.f4) ((rd_T30 l0 x3_1).f3) ((rd_T30 l0 x3_1).f4) true _ A8.out).mono ?_
          rintro e w15 ⟨rfl, hb⟩
          refine ⟨_, rfl, ?_⟩
          have n0_ := Aside0.mk (below_step (by repeat (first | (with_reducible first | exact HB.out | apply a1_ | apply a2_ | apply a3_) | exact HB.out)) hb)
          clear HB
          have HB := n0_
          clear n0_
          (try clear hb)
          (try clear hb2)
          (try clear hk)
          (try clear hi)
          have q16 : (x3_1 : Int) ≤ ((l0.length : Int) : Int) := of_decide_eq_true (by first | (with_reducible assumption) | assumption)
          obtain ⟨i016, hi016, _, hsz16, _⟩ := info_parts info30
          have hroom16 : l0.length ≤ c0 := HC0.out
          have hC16 : Kd.C k30 _ (some ad226) l0.length l0 := HR0.out
          have hcut16 := cut_to (P := Tryd.prog) 22 30 .i64 Tryd.underlying22 hi016 (some ad226) l0.length c0 x3_1 (of_decide_eq_true (by first | (with_reducible assumption) | assumption)) q16 hroom16
          have hr16 := Kd.C_take (m := (x3_1 : Int).toNat) hC16 (by omega)
          have hy16 : y230.length = (x3_1 : Int).toNat := (by rw [Ny230.out, List.length_take]; omega)
          rw [← Ny230.out] at hr16
          rw [← hy16] at hcut16
          have HR233 := Aside0.mk hr16
          have HC233 := Aside0.mk (show y230.length ≤ c0 from by omega)
          clear hr16 hC16 hroom16 hi016 hsz16
          have KY16 := Aside0.mk hy16
          clear hy16
          replace q16 := eq_true q16
          refine hK.out _ _ ⟨(up_ HB.out hw226_0), (up_ HB.out hw226_1), (up_ HB.out hw226_2), (up_ HB.out hw226_3), (up_ HB.out hw226_4), (up_ HB.out hw226_5), (up_ HB.out hw226_6), (up_ HB.out hw226_7), (up_ HB.out hw226_8), (up_ HB.out hw227_0), (up_ HB.out hw227_1), (up_ HB.out hw227_2), (up_ HB.out hw227_3), (up_ HB.out hw227_4), (up_ HB.out hw227_5), (up_ HB.out hw227_6), (up_ HB.out hw227_7), (up_ HB.out hw227_8), (up_ HB.out hw228_0), (up_ HB.out hw228_1), (up_ HB.out hw228_2), (up_ HB.out hw228_3), (up_ HB.out hw228_4), (up_ HB.out hw228_5), (up_ HB.out hw228_6), (up_ HB.out hw228_7), (up_ HB.out hw228_8), (up_ HB.out hw234_0), (up_ HB.out hw234_1), (up_ HB.out hw234_2), (up_ HB.out hw234_3), (up_ HB.out hw234_4), (up_ HB.out hw234_5), (up_ HB.out hw234_6), (up_ HB.out hw234_7), (up_ HB.out hw234_8)⟩ (fun hHeld => ?_)
          clear hK K
          refine norm_ (a' := ?_) ?_ ?_
          rotate_left
          ·show Act.put _ (some 29) _ = _
           simp only [Act.put, List.setIfInBounds_toArray, List.set_cons_zero, List.set_cons_succ, i64_w, i32_w]
           rfl
          refine pq_ 20 30 (mb_ 33 2097151) HT_.out ?_
          refine pq_ 21 31 (mb_ 33 4194303) HT_.out ?_
          refine pq_ 22 32 (mb_ 33 8388607) HT_.out ?_
          refine pq_ 23 33 (mb_ 33 16777215) HT_.out ?_
          refine pq_ 24 34 (mb_ 33 33554431) HT_.out ?_
          refine pq_ 25 35 (mb_ 33 67108863) HT_.out ?_
          refine pq_ 26 36 (mb_ 33 134217727) HT_.out ?_
          refine pq_ 27 37 (mb_ 33 268435455) HT_.out ?_
          refine pq_ 28 38 (mb_ 33 536870911) HT_.out ?_
          refine tq_ 29 39 (mb_ 33 1073741823) HT_.out HW_.out hHeld ?_ (hr := by rintro w' ⟨s0, s1, s2, s3, s4, s5, s6, s7, s8, s9, s10, s11, s12, s13, s14, s15, s16, s17, s18, s19, s20, s21, s22, s23, s24, s25, s26, s27, s28, s29, s30, s31, s32, s33, s34, s35⟩; go_simp; with_reducible rfl)
          refine one_ (i := 30) (N := some 40) (mb_ 33 2147483647) rfl rfl (one_of HT_.out (by kernel_rfl)) (by decide) (fun K hK => ?_)
          refine goes_ Tryd.func42 (by kernel_rfl) rfl #[.slice (some ad226) y230.length c0, .agg #[.int .i64 ((rd_T30 l0 x3_1).f0), .int .i64 ((rd_T30 l0 x3_1).f1), .int .i64 ((rd_T30 l0 x3_1).f2.f0), .string ((rd_T30 l0 x3_1).f2.f1), .string ((rd_T30 l0 x3_1).f2.f2), .string ((rd_T30 l0 x3_1).f2.f3), .string ((rd_T30 l0 x3_1).f2.f4), .int .i64 ((rd_T30 l0 x3_1).f3), .string ((rd_T30 l0 x3_1).f4)]] (by rfl) rfl rfl (by (try simp only [List.map_toArray, List.map_cons, List.map_nil]); first | done | rfl | (simp only [List.length_drop, List.length_take]; rfl)) ?_
          with_reducible refine (outlawref23_one.calls k1 _ _ y230 ((rd_T30 l0 x3_1).f0) ((rd_T30 l0 x3_1).f1) ((rd_T30 l0 x3_1).f2.f0) ((rd_T30 l0 x3_1).f2.f1) ((rd_T30 l0 x3_1).f2.f2) ((rd_T30 l0 x3_1).f2.f3) ((rd_T30 l0 x3_1).f2.f4) ((rd_T30 l0 x3_1).f3) ((rd_T30 l0 x3_1).f4) true _ ?side1 ?side2 A12.out).mono ?_
          (case side1 => repeat (first | exact (Kd.C_below HR233.out HB.out) | (with_reducible refine Kd.C_alloc ?_ _) | (with_reducible refine Kd.C_drewN ?_ _) | (with_reducible refine Kd.C_drew ?_)))
          (case side2 => exact HC233.out)
          rintro e w17 ⟨rfl, hb⟩
          refine ⟨_, rfl, ?_⟩
          have n0_ := Aside0.mk (below_step (by repeat (first | (with_reducible first | exact HB.out | apply a1_ | apply a2_ | apply a3_) | exact HB.out)) hb)
          clear HB
          have HB := n0_
          clear n0_
          (try clear hb)
          (try clear hb2)
          (try clear hk)
          (try clear hi)
          refine hK.out _ _ ⟨(up_ HB.out hw226_0), (up_ HB.out hw226_1), (up_ HB.out hw226_2), (up_ HB.out hw226_3), (up_ HB.out hw226_4), (up_ HB.out hw226_5), (up_ HB.out hw226_6), (up_ HB.out hw226_7), (up_ HB.out hw226_8), (up_ HB.out hw227_0), (up_ HB.out hw227_1), (up_ HB.out hw227_2), (up_ HB.out hw227_3), (up_ HB.out hw227_4), (up_ HB.out hw227_5), (up_ HB.out hw227_6), (up_ HB.out hw227_7), (up_ HB.out hw227_8), (up_ HB.out hw228_0), (up_ HB.out hw228_1), (up_ HB.out hw228_2), (up_ HB.out hw228_3), (up_ HB.out hw228_4), (up_ HB.out hw228_5), (up_ HB.out hw228_6), (up_ HB.out hw228_7), (up_ HB.out hw228_8), (up_ HB.out hw234_0), (up_ HB.out hw234_1), (up_ HB.out hw234_2), (up_ HB.out hw234_3), (up_ HB.out hw234_4), (up_ HB.out hw234_5), (up_ HB.out hw234_6), (up_ HB.out hw234_7), (up_ HB.out hw234_8)⟩ (fun hHeld => ?_)
          clear hK K
          refine norm_ (a' := ?_) ?_ ?_
          rotate_left
          ·show Act.put _ (some 40) _ = _
           simp only [Act.put, List.setIfInBounds_toArray, List.set_cons_zero, List.set_cons_succ, i64_w, i32_w]
           rfl
          refine pq_ 31 41 (mb_ 33 4294967295) HT_.out ?_
          refine pq_ 32 42 (mb_ 33 8589934591) HT_.out ?_
          refine done_ (done_of HT_.out (by kernel_rfl)) ?_
          try go_wp2
          go_roundg k1
          case measure => have := HK1.out; omega
          case rel => exact ⟨(wrap64 (x3_1 + 1)), (by first | rfl | (simp; done) | (simp [*]; done)), H', ⟨by have := HK1.out; omega⟩, ⟨by repeat (first | (with_reducible first | exact HB.out | apply a1_ | apply a2_ | apply a3_) | exact HB.out)⟩⟩
         ·replace c13 := Bool.eq_false_iff.mpr c13
          subst c13
          rw [if_neg (show ¬ (false = true) by decide)] at H
          obtain rfl := Option.some.inj H
          try go_wp2
          have n0_ := Aside0.mk (below_drew1 HB.out)
          clear HB
          have HB := n0_
          clear n0_
          have p226 : 0 ≤ (x3_1 : Int) := of_decide_eq_true (by first | (with_reducible assumption) | assumption)
          have q226 : x3_1 < (l0.length : Int) := of_decide_eq_true (by first | (with_reducible assumption) | assumption)
          obtain ⟨ad226, e226, hx226_0, hx226_1, hx226_2, hx226_3, hx226_4, hx226_5, hx226_6, hx226_7, hx226_8⟩ := at_T30 HR0.out x3_1 p226 q226
          have hw226_8 := hx226_8
          have hw226_7 := hx226_7
          have hw226_6 := hx226_6
          have hw226_5 := hx226_5
          have hw226_4 := hx226_4
          have hw226_3 := hx226_3
          have hw226_2 := hx226_2
          have hw226_1 := hx226_1
          have hw226_0 := hx226_0
          cases e226
          replace hx226_0 := up_ HB.out hx226_0
          replace hx226_1 := up_ HB.out hx226_1
          replace hx226_2 := up_ HB.out hx226_2
          replace hx226_3 := up_ HB.out hx226_3
          replace hx226_4 := up_ HB.out hx226_4
          replace hx226_5 := up_ HB.out hx226_5
          replace hx226_6 := up_ HB.out hx226_6
          replace hx226_7 := up_ HB.out hx226_7
          replace hx226_8 := up_ HB.out hx226_8
          replace p226 := eq_true p226
          replace q226 := eq_true q226
          have p227 : 0 ≤ (x3_1 : Int) := of_decide_eq_true (by first | (with_reducible assumption) | assumption)
          have q227 : x3_1 < (l0.length : Int) := of_decide_eq_true (by first | (with_reducible assumption) | assumption)
          obtain ⟨ad227, e227, hx227_0, hx227_1, hx227_2, hx227_3, hx227_4, hx227_5, hx227_6, hx227_7, hx227_8⟩ := at_T30 HR0.out x3_1 p227 q227
          have hw227_8 := hx227_8
          have hw227_7 := hx227_7
          have hw227_6 := hx227_6
          have hw227_5 := hx227_5
          have hw227_4 := hx227_4
          have hw227_3 := hx227_3
          have hw227_2 := hx227_2
          have hw227_1 := hx227_1
          have hw227_0 := hx227_0
          obtain rfl : ad226 = ad227 := (by injection e227)
          replace hx227_0 := up_ HB.out hx227_0
          replace hx227_1 := up_ HB.out hx227_1
          replace hx227_2 := up_ HB.out hx227_2
          replace hx227_3 := up_ HB.out hx227_3
          replace hx227_4 := up_ HB.out hx227_4
          replace hx227_5 := up_ HB.out hx227_5
          replace hx227_6 := up_ HB.out hx227_6
          replace hx227_7 := up_ HB.out hx227_7
          replace hx227_8 := up_ HB.out hx227_8
          replace p227 := eq_true p227
          replace q227 := eq_true q227
          have p228 : 0 ≤ (x3_1 : Int) := of_decide_eq_true (by first | (with_reducible assumption) | assumption)
          have q228 : x3_1 < (l0.length : Int) := of_decide_eq_true (by first | (with_reducible assumption) | assumption)
          obtain ⟨ad228, e228, hx228_0, hx228_1, hx228_2, hx228_3, hx228_4, hx228_5, hx228_6, hx228_7, hx228_8⟩ := at_T30 HR0.out x3_1 p228 q228
          have hw228_8 := hx228_8
          have hw228_7 := hx228_7
          have hw228_6 := hx228_6
          have hw228_5 := hx228_5
          have hw228_4 := hx228_4
          have hw228_3 := hx228_3
          have hw228_2 := hx228_2
          have hw228_1 := hx228_1
          have hw228_0 := hx228_0
          obtain rfl : ad226 = ad228 := (by injection e228)
          replace hx228_0 := up_ HB.out hx228_0
          replace hx228_1 := up_ HB.out hx228_1
          replace hx228_2 := up_ HB.out hx228_2
          replace hx228_3 := up_ HB.out hx228_3
          replace hx228_4 := up_ HB.out hx228_4
          replace hx228_5 := up_ HB.out hx228_5
          replace hx228_6 := up_ HB.out hx228_6
          replace hx228_7 := up_ HB.out hx228_7
          replace hx228_8 := up_ HB.out hx228_8
          replace p228 := eq_true p228
          replace q228 := eq_true q228
          have p234 : 0 ≤ (x3_1 : Int) := of_decide_eq_true (by first | (with_reducible assumption) | assumption)
          have q234 : x3_1 < (l0.length : Int) := of_decide_eq_true (by first | (with_reducible assumption) | assumption)
          obtain ⟨ad234, e234, hx234_0, hx234_1, hx234_2, hx234_3, hx234_4, hx234_5, hx234_6, hx234_7, hx234_8⟩ := at_T30 HR0.out x3_1 p234 q234
          have hw234_8 := hx234_8
          have hw234_7 := hx234_7
          have hw234_6 := hx234_6
          have hw234_5 := hx234_5
          have hw234_4 := hx234_4
          have hw234_3 := hx234_3
          have hw234_2 := hx234_2
          have hw234_1 := hx234_1
          have hw234_0 := hx234_0
          obtain rfl : ad226 = ad234 := (by injection e234)
          replace hx234_0 := up_ HB.out hx234_0
          replace hx234_1 := up_ HB.out hx234_1
          replace hx234_2 := up_ HB.out hx234_2
          replace hx234_3 := up_ HB.out hx234_3
          replace hx234_4 := up_ HB.out hx234_4
          replace hx234_5 := up_ HB.out hx234_5
          replace hx234_6 := up_ HB.out hx234_6
          replace hx234_7 := up_ HB.out hx234_7
          replace hx234_8 := up_ HB.out hx234_8
          replace p234 := eq_true p234
          replace q234 := eq_true q234
          refine start_ (n := 33) (S := fun w' => w'.cell? (ad226.add ((x3_1).toNat * 9)) = some (.int .i64 ((rd_T30 l0 x3_1).f0)) ∧ w'.cell? ⟨(ad226.add ((x3_1).toNat * 9)).block, (ad226.add ((x3_1).toNat * 9)).off + 1, none⟩ = some (.int .i64 ((rd_T30 l0 x3_1).f1)) ∧ w'.cell? ⟨(ad226.add ((x3_1).toNat * 9)).block, (ad226.add ((x3_1).toNat * 9)).off + 2, none⟩ = some (.int .i64 ((rd_T30 l0 x3_1).f2.f0)) ∧ w'.cell? ⟨(ad226.add ((x3_1).toNat * 9)).block, (ad226.add ((x3_1).toNat * 9)).off + 3, none⟩ = some (.string ((rd_T30 l0 x3_1).f2.f1)) ∧ w'.cell? ⟨(ad226.add ((x3_1).toNat * 9)).block, (ad226.add ((x3_1).toNat * 9)).off + 4, none⟩ = some (.string ((rd_T30 l0 x3_1).f2.f2)) ∧ w'.cell? ⟨(ad226.add ((x3_1).toNat * 9)).block, (ad226.add ((x3_1).toNat * 9)).off + 5, none⟩ = some (.string ((rd_T30 l0 x3_1).f2.f3)) ∧ w'.cell? ⟨(ad226.add ((x3_1).toNat * 9)).block, (ad226.add ((x3_1).toNat * 9)).off + 6, none⟩ = some (.string ((rd_T30 l0 x3_1).f2.f4)) ∧ w'.cell? ⟨(ad226.add ((x3_1).toNat * 9)).block, (ad226.add ((x3_1).toNat * 9)).off + 7, none⟩ = some (.int .i64 ((rd_T30 l0 x3_1).f3)) ∧ w'.cell? ⟨(ad226.add ((x3_1).toNat * 9)).block, (ad226.add ((x3_1).toNat * 9)).off + 8, none⟩ = some (.string ((rd_T30 l0 x3_1).f4)) ∧ w'.cell? (ad226.add ((x3_1).toNat * 9)) = some (.int .i64 ((rd_T30 l0 x3_1).f0)) ∧ w'.cell? ⟨(ad226.add ((x3_1).toNat * 9)).block, (ad226.add ((x3_1).toNat * 9)).off + 1, none⟩ = some (.int .i64 ((rd_T30 l0 x3_1).f1)) ∧ w'.cell? ⟨(ad226.add ((x3_1).toNat * 9)).block, (ad226.add ((x3_1).toNat * 9)).off + 2, none⟩ = some (.int .i64 ((rd_T30 l0 x3_1).f2.f0)) ∧ w'.cell? ⟨(ad226.add ((x3_1).toNat * 9)).block, (ad226.add ((x3_1).toNat * 9)).off + 3, none⟩ = some (.string ((rd_T30 l0 x3_1).f2.f1)) ∧ w'.cell? ⟨(ad226.add ((x3_1).toNat * 9)).block, (ad226.add ((x3_1).toNat * 9)).off + 4, none⟩ = some (.string ((rd_T30 l0 x3_1).f2.f2)) ∧ w'.cell? ⟨(ad226.add ((x3_1).toNat * 9)).block, (ad226.add ((x3_1).toNat * 9)).off + 5, none⟩ = some (.string ((rd_T30 l0 x3_1).f2.f3)) ∧ w'.cell? ⟨(ad226.add ((x3_1).toNat * 9)).block, (ad226.add ((x3_1).toNat * 9)).off + 6, none⟩ = some (.string ((rd_T30 l0 x3_1).f2.f4)) ∧ w'.cell? ⟨(ad226.add ((x3_1).toNat * 9)).block, (ad226.add ((x3_1).toNat * 9)).off + 7, none⟩ = some (.int .i64 ((rd_T30 l0 x3_1).f3)) ∧ w'.cell? ⟨(ad226.add ((x3_1).toNat * 9)).block, (ad226.add ((x3_1).toNat * 9)).off + 8, none⟩ = some (.string ((rd_T30 l0 x3_1).f4)) ∧ w'.cell? (ad226.add ((x3_1).toNat * 9)) = some (.int .i64 ((rd_T30 l0 x3_1).f0)) ∧ w'.cell? ⟨(ad226.add ((x3_1).toNat * 9)).block, (ad226.add ((x3_1).toNat * 9)).off + 1, none⟩ = some (.int .i64 ((rd_T30 l0 x3_1).f1)) ∧ w'.cell? ⟨(ad226.add ((x3_1).toNat * 9)).block, (ad226.add ((x3_1).toNat * 9)).off + 2, none⟩ = some (.int .i64 ((rd_T30 l0 x3_1).f2.f0)) ∧ w'.cell? ⟨(ad226.add ((x3_1).toNat * 9)).block, (ad226.add ((x3_1).toNat * 9)).off + 3, none⟩ = some (.string ((rd_T30 l0 x3_1).f2.f1)) ∧ w'.cell? ⟨(ad226.add ((x3_1).toNat * 9)).block, (ad226.add ((x3_1).toNat * 9)).off + 4, none⟩ = some (.string ((rd_T30 l0 x3_1).f2.f2)) ∧ w'.cell? ⟨(ad226.add ((x3_1).toNat * 9)).block, (ad226.add ((x3_1).toNat * 9)).off + 5, none⟩ = some (.string ((rd_T30 l0 x3_1).f2.f3)) ∧ w'.cell? ⟨(ad226.add ((x3_1).toNat * 9)).block, (ad226.add ((x3_1).toNat * 9)).off + 6, none⟩ = some (.string ((rd_T30 l0 x3_1).f2.f4)) ∧ w'.cell? ⟨(ad226.add ((x3_1).toNat * 9)).block, (ad226.add ((x3_1).toNat * 9)).off + 7, none⟩ = some (.int .i64 ((rd_T30 l0 x3_1).f3)) ∧ w'.cell? ⟨(ad226.add ((x3_1).toNat * 9)).block, (ad226.add ((x3_1).toNat * 9)).off + 8, none⟩ = some (.string ((rd_T30 l0 x3_1).f4)) ∧ w'.cell? (ad226.add ((x3_1).toNat * 9)) = some (.int .i64 ((rd_T30 l0 x3_1).f0)) ∧ w'.cell? ⟨(ad226.add ((x3_1).toNat * 9)).block, (ad226.add ((x3_1).toNat * 9)).off + 1, none⟩ = some (.int .i64 ((rd_T30 l0 x3_1).f1)) ∧ w'.cell? ⟨(ad226.add ((x3_1).toNat * 9)).block, (ad226.add ((x3_1).toNat * 9)).off + 2, none⟩ = some (.int .i64 ((rd_T30 l0 x3_1).f2.f0)) ∧ w'.cell? ⟨(ad226.add ((x3_1).toNat * 9)).block, (ad226.add ((x3_1).toNat * 9)).off + 3, none⟩ = some (.string ((rd_T30 l0 x3_1).f2.f1)) ∧ w'.cell? ⟨(ad226.add ((x3_1).toNat * 9)).block, (ad226.add ((x3_1).toNat * 9)).off + 4, none⟩ = some (.string ((rd_T30 l0 x3_1).f2.f2)) ∧ w'.cell? ⟨(ad226.add ((x3_1).toNat * 9)).block, (ad226.add ((x3_1).toNat * 9)).off + 5, none⟩ = some (.string ((rd_T30 l0 x3_1).f2.f3)) ∧ w'.cell? ⟨(ad226.add ((x3_1).toNat * 9)).block, (ad226.add ((x3_1).toNat * 9)).off + 6, none⟩ = some (.string ((rd_T30 l0 x3_1).f2.f4)) ∧ w'.cell? ⟨(ad226.add ((x3_1).toNat * 9)).block, (ad226.add ((x3_1).toNat * 9)).off + 7, none⟩ = some (.int .i64 ((rd_T30 l0 x3_1).f3)) ∧ w'.cell? ⟨(ad226.add ((x3_1).toNat * 9)).block, (ad226.add ((x3_1).toNat * 9)).off + 8, none⟩ = some (.string ((rd_T30 l0 x3_1).f4))) (ds := []) #[F_,F_,F_,F_,F_,F_,F_,F_,F_,F_,F_,F_,F_,F_,F_,F_,F_,F_,F_,F_,F_,F_,F_,F_,F_,F_,F_,F_,F_,F_,F_,F_,F_] (by kernel_rfl) rfl rfl ⟨(up_ HB.out hw226_0), (up_ HB.out hw226_1), (up_ HB.out hw226_2), (up_ HB.out hw226_3), (up_ HB.out hw226_4), (up_ HB.out hw226_5), (up_ HB.out hw226_6), (up_ HB.out hw226_7), (up_ HB.out hw226_8), (up_ HB.out hw227_0), (up_ HB.out hw227_1), (up_ HB.out hw227_2), (up_ HB.out hw227_3), (up_ HB.out hw227_4), (up_ HB.out hw227_5), (up_ HB.out hw227_6), (up_ HB.out hw227_7), (up_ HB.out hw227_8), (up_ HB.out hw228_0), (up_ HB.out hw228_1), (up_ HB.out hw228_2), (up_ HB.out hw228_3), (up_ HB.out hw228_4), (up_ HB.out hw228_5), (up_ HB.out hw228_6), (up_ HB.out hw228_7), (up_ HB.out hw228_8), (up_ HB.out hw234_0), (up_ HB.out hw234_1), (up_ HB.out hw234_2), (up_ HB.out hw234_3), (up_ HB.out hw234_4), (up_ HB.out hw234_5), (up_ HB.out hw234_6), (up_ HB.out hw234_7), (up_ HB.out hw234_8)⟩ (fun hHeld => ?_); refine with_tabW outlawref23_Life.tab4 outlawref23_Life.bits4 (fun HT_ HW_ => ?_)
          generalize wr.drew = w18 at HB hx226_0 hx226_1 hx226_2 hx226_3 hx226_4 hx226_5 hx226_6 hx226_7 hx226_8 hx227_0 hx227_1 hx227_2 hx227_3 hx227_4 hx227_5 hx227_6 hx227_7 hx227_8 hx228_0 hx228_1 hx228_2 hx228_3 hx228_4 hx228_5 hx228_6 hx228_7 hx228_8 hx234_0 hx234_1 hx234_2 hx234_3 hx234_4 hx234_5 hx234_6 hx234_7 hx234_8 hHeld ⊢
          refine pq_ 0 10 (mb_ 33 1) HT_.out ?_
          refine pq_ 1 11 (mb_ 33 3) HT_.out ?_
          refine pq_ 2 12 (mb_ 33 7) HT_.out ?_
          refine pq_ 3 13 (mb_ 33 15) HT_.out ?_
          refine tq_ 4 14 (mb_ 33 31) HT_.out HW_.out hHeld ?_ (hr := by rintro w' ⟨s0, s1, s2, s3, s4, s5, s6, s7, s8, s9, s10, s11, s12, s13, s14, s15, s16, s17, s18, s19, s20, s21, s22, s23, s24, s25, s26, s27, s28, s29, s30, s31, s32, s33, s34, s35⟩; go_simp; with_reducible rfl)
          refine pq_ 5 15 (mb_ 33 63) HT_.out ?_
          refine pq_ 6 16 (mb_ 33 127) HT_.out ?_
          refine pq_ 7 17 (mb_ 33 255) HT_.out ?_
          refine pq_ 8 18 (mb_ 33 511) HT_.out ?_
          refine pq_ 9 19 (mb_ 33 1023) HT_.out ?_
          refine pq_ 10 20 (mb_ 33 2047) HT_.out ?_
          refine tq_ 11 21 (mb_ 33 4095) HT_.out HW_.out hHeld ?_ (hr := by rintro w' ⟨s0, s1, s2, s3, s4, s5, s6, s7, s8, s9, s10, s11, s12, s13, s14, s15, s16, s17, s18, s19, s20, s21, s22, s23, s24, s25, s26, s27, s28, s29, s30, s31, s32, s33, s34, s35⟩; go_simp; with_reducible rfl)
          refine pq_ 12 22 (mb_ 33 8191) HT_.out ?_
          refine pq_ 13 23 (mb_ 33 16383) HT_.out ?_
          refine pq_ 14 24 (mb_ 33 32767) HT_.out ?_
          refine pq_ 15 25 (mb_ 33 65535) HT_.out ?_
          refine pq_ 16 26 (mb_ 33 131071) HT_.out ?_
          refine pq_ 17 27 (mb_ 33 262143) HT_.out ?_
          refine tq_ 18 28 (mb_ 33 524287) HT_.out HW_.out hHeld ?_ (hr := by rintro w' ⟨s0, s1, s2, s3, s4, s5, s6, s7, s8, s9, s10, s11, s12, s13, s14, s15, s16, s17, s18, s19, s20, s21, s22, s23, s24, s25, s26, s27, s28, s29, s30, s31, s32, s33, s34, s35⟩; go_simp; with_reducible rfl)
          refine one_ (i := 19) (N := some 29) (mb_ 33 1048575) rfl rfl (one_of HT_.out (by kernel_rfl)) (by decide) (fun K hK => ?_)
          refine goes_ Tryd.func41 (by kernel_rfl) rfl #[.agg #[.int .i64 ((rd_T30 l0 x3_1).f0), .int .i64 ((rd_T30 l0 x3_1).f1), .int .i64 ((rd_T30 l0 x3_1).f2.f0), .string ((rd_T30 l0 x3_1).f2.f1), .string ((rd_T30 l0 x3_1).f2.f2), .string ((rd_T30 l0 x3_1).f2.f3), .string ((rd_T30 l0 x3_1).f2.f4), .int .i64 ((rd_T30 l0 x3_1).f3), .string ((rd_T30 l0 x3_1).f4)]] (by rfl) rfl rfl (by (try simp only [List.map_toArray, List.map_cons, List.map_nil]); first | done | rfl | (simp only [List.length_drop, List.length_take]; rfl)) ?_
          with_reducible refine (outlawref23_bare.calls ((rd_T30 l0 x3_1).f0) ((rd_T30 l0 x3_1).f1) ((rd_T30 l0 x3_1).f2.f0) ((rd_T30 l0 x3_1).f2.f1) ((rd_T30 l0 x3_1).f2.f2) ((rd_T30 l0 x3_1).f2.f3) ((rd_T30 l0 x3_1).f2.f4) ((rd_T30 l0 x3_1).f3) ((rd_T30 l0 x3_1).f4) true _ A8.out).mono ?_
          rintro e w19 ⟨rfl, hb⟩
          refine ⟨_, rfl, ?_⟩
          have n0_ := Aside0.mk (below_step (by repeat (first | (with_reducible first | exact HB.out | apply a1_ | apply a2_ | apply a3_) | exact HB.out)) hb)
          clear HB
          have HB := n0_
          clear n0_
          (try clear hb)
          (try clear hb2)
          (try clear hk)
          (try clear hi)
          have q20 : (x3_1 : Int) ≤ ((l0.length : Int) : Int) := of_decide_eq_true (by first | (with_reducible assumption) | assumption)
          obtain ⟨i020, hi020, _, hsz20, _⟩ := info_parts info30
          have hroom20 : l0.length ≤ c0 := HC0.out
          have hC20 : Kd.C k30 _ (some ad226) l0.length l0 := HR0.out
          have hcut20 := cut_to (P := Tryd.prog) 22 30 .i64 Tryd.underlying22 hi020 (some ad226) l0.length c0 x3_1 (of_decide_eq_true (by first | (with_reducible assumption) | assumption)) q20 hroom20
          have hr20 := Kd.C_take (m := (x3_1 : Int).toNat) hC20 (by omega)
          have hy20 : y230.length = (x3_1 : Int).toNat := (by rw [Ny230.out, List.length_take]; omega)
          rw [← Ny230.out] at hr20
          rw [← hy20] at hcut20
          have HR233 := Aside0.mk hr20
          have HC233 := Aside0.mk (show y230.length ≤ c0 from by omega)
          clear hr20 hC20 hroom20 hi020 hsz20
          have KY20 := Aside0.mk hy20
          clear hy20
          replace q20 := eq_true q20
          refine hK.out _ _ ⟨(up_ HB.out hw226_0), (up_ HB.out hw226_1), (up_ HB.out hw226_2), (up_ HB.out hw226_3), (up_ HB.out hw226_4), (up_ HB.out hw226_5), (up_ HB.out hw226_6), (up_ HB.out hw226_7), (up_ HB.out hw226_8), (up_ HB.out hw227_0), (up_ HB.out hw227_1), (up_ HB.out hw227_2), (up_ HB.out hw227_3), (up_ HB.out hw227_4), (up_ HB.out hw227_5), (up_ HB.out hw227_6), (up_ HB.out hw227_7), (up_ HB.out hw227_8), (up_ HB.out hw228_0), (up_ HB.out hw228_1), (up_ HB.out hw228_2), (up_ HB.out hw228_3), (up_ HB.out hw228_4), (up_ HB.out hw228_5), (up_ HB.out hw228_6), (up_ HB.out hw228_7), (up_ HB.out hw228_8), (up_ HB.out hw234_0), (up_ HB.out hw234_1), (up_ HB.out hw234_2), (up_ HB.out hw234_3), (up_ HB.out hw234_4), (up_ HB.out hw234_5), (up_ HB.out hw234_6), (up_ HB.out hw234_7), (up_ HB.out hw234_8)⟩ (fun hHeld => ?_)
          clear hK K
          refine norm_ (a' := ?_) ?_ ?_
          rotate_left
          ·show Act.put _ (some 29) _ = _
           simp only [Act.put, List.setIfInBounds_toArray, List.set_cons_zero, List.set_cons_succ, i64_w, i32_w]
           rfl
          refine pq_ 20 30 (mb_ 33 2097151) HT_.out ?_
          refine pq_ 21 31 (mb_ 33 4194303) HT_.out ?_
          refine pq_ 22 32 (mb_ 33 8388607) HT_.out ?_
          refine pq_ 23 33 (mb_ 33 16777215) HT_.out ?_
          refine pq_ 24 34 (mb_ 33 33554431) HT_.out ?_
          refine pq_ 25 35 (mb_ 33 67108863) HT_.out ?_
          refine pq_ 26 36 (mb_ 33 134217727) HT_.out ?_
          refine pq_ 27 37 (mb_ 33 268435455) HT_.out ?_
          refine pq_ 28 38 (mb_ 33 536870911) HT_.out ?_
          refine tq_ 29 39 (mb_ 33 1073741823) HT_.out HW_.out hHeld ?_ (hr := by rintro w' ⟨s0, s1, s2, s3, s4, s5, s6, s7, s8, s9, s10, s11, s12, s13, s14, s15, s16, s17, s18, s19, s20, s21, s22, s23, s24, s25, s26, s27, s28, s29, s30, s31, s32, s33, s34, s35⟩; go_simp; with_reducible rfl)
          refine one_ (i := 30) (N := some 40) (mb_ 33 2147483647) rfl rfl (one_of HT_.out (by kernel_rfl)) (by decide) (fun K hK => ?_)
          refine goes_ Tryd.func42 (by kernel_rfl) rfl #[.slice (some ad226) y230.length c0, .agg #[.int .i64 ((rd_T30 l0 x3_1).f0), .int .i64 ((rd_T30 l0 x3_1).f1), .int .i64 ((rd_T30 l0 x3_1).f2.f0), .string ((rd_T30 l0 x3_1).f2.f1), .string ((rd_T30 l0 x3_1).f2.f2), .string ((rd_T30 l0 x3_1).f2.f3), .string ((rd_T30 l0 x3_1).f2.f4), .int .i64 ((rd_T30 l0 x3_1).f3), .string ((rd_T30 l0 x3_1).f4)]] (by rfl) rfl rfl (by (try simp only [List.map_toArray, List.map_cons, List.map_nil]); first | done | rfl | (simp only [List.length_drop, List.length_take]; rfl)) ?_
          with_reducible refine (outlawref23_one.calls k1 _ _ y230 ((rd_T30 l0 x3_1).f0) ((rd_T30 l0 x3_1).f1) ((rd_T30 l0 x3_1).f2.f0) ((rd_T30 l0 x3_1).f2.f1) ((rd_T30 l0 x3_1).f2.f2) ((rd_T30 l0 x3_1).f2.f3) ((rd_T30 l0 x3_1).f2.f4) ((rd_T30 l0 x3_1).f3) ((rd_T30 l0 x3_1).f4) false _ ?side1 ?side2 A12.out).mono ?_
          (case side1 => repeat (first | exact (Kd.C_below HR233.out HB.out) | (with_reducible refine Kd.C_alloc ?_ _) | (with_reducible refine Kd.C_drewN ?_ _) | (with_reducible refine Kd.C_drew ?_)))
          (case side2 => exact HC233.out)
          rintro e w21 ⟨rfl, hb⟩
          refine ⟨_, rfl, ?_⟩
          have n0_ := Aside0.mk (below_step (by repeat (first | (with_reducible first | exact HB.out | apply a1_ | apply a2_ | apply a3_) | exact HB.out)) hb)
          clear HB
          have HB := n0_
          clear n0_
          (try clear hb)
          (try clear hb2)
          (try clear hk)
          (try clear hi)
          refine hK.out _ _ ⟨(up_ HB.out hw226_0), (up_ HB.out hw226_1), (up_ HB.out hw226_2), (up_ HB.out hw226_3), (up_ HB.out hw226_4), (up_ HB.out hw226_5), (up_ HB.out hw226_6), (up_ HB.out hw226_7), (up_ HB.out hw226_8), (up_ HB.out hw227_0), (up_ HB.out hw227_1), (up_ HB.out hw227_2), (up_ HB.out hw227_3), (up_ HB.out hw227_4), (up_ HB.out hw227_5), (up_ HB.out hw227_6), (up_ HB.out hw227_7), (up_ HB.out hw227_8), (up_ HB.out hw228_0), (up_ HB.out hw228_1), (up_ HB.out hw228_2), (up_ HB.out hw228_3), (up_ HB.out hw228_4), (up_ HB.out hw228_5), (up_ HB.out hw228_6), (up_ HB.out hw228_7), (up_ HB.out hw228_8), (up_ HB.out hw234_0), (up_ HB.out hw234_1), (up_ HB.out hw234_2), (up_ HB.out hw234_3), (up_ HB.out hw234_4), (up_ HB.out hw234_5), (up_ HB.out hw234_6), (up_ HB.out hw234_7), (up_ HB.out hw234_8)⟩ (fun hHeld => ?_)
          clear hK K
          refine norm_ (a' := ?_) ?_ ?_
          rotate_left
          ·show Act.put _ (some 40) _ = _
           simp only [Act.put, List.setIfInBounds_toArray, List.set_cons_zero, List.set_cons_succ, i64_w, i32_w]
           rfl
          refine pq_ 31 41 (mb_ 33 4294967295) HT_.out ?_
          refine pq_ 32 42 (mb_ 33 8589934591) HT_.out ?_
          refine done_ (done_of HT_.out (by kernel_rfl)) ?_
          try go_wp2
          go_ret
          exact ⟨by first | rfl | (simp [errW_none, errW_some] <;> rfl) | (simp [*, errW_none, errW_some] <;> rfl), by repeat (first | (with_reducible first | exact HB.out | apply a1_ | apply a2_ | apply a3_) | exact HB.out)⟩
        ·rw [if_neg c11] at H
         exact absurd H (by simp)
       ·replace c9 := Bool.eq_false_iff.mpr c9
        subst c9
        rw [if_neg (show ¬ (false = true) by decide)] at H
        obtain rfl := Option.some.inj H
        try go_wp2
        have n0_ := Aside0.mk (below_drew1 HB.out)
        clear HB
        have HB := n0_
        clear n0_
        have p226 : 0 ≤ (x3_1 : Int) := of_decide_eq_true (by first | (with_reducible assumption) | assumption)
        have q226 : x3_1 < (l0.length : Int) := of_decide_eq_true (by first | (with_reducible assumption) | assumption)
        obtain ⟨ad226, e226, hx226_0, hx226_1, hx226_2, hx226_3, hx226_4, hx226_5, hx226_6, hx226_7, hx226_8⟩ := at_T30 HR0.out x3_1 p226 q226
        have hw226_8 := hx226_8
        have hw226_7 := hx226_7
        have hw226_6 := hx226_6
        have hw226_5 := hx226_5
        have hw226_4 := hx226_4
        have hw226_3 := hx226_3
        have hw226_2 := hx226_2
        have hw226_1 := hx226_1
        have hw226_0 := hx226_0
        cases e226
        replace hx226_0 := up_ HB.out hx226_0
        replace hx226_1 := up_ HB.out hx226_1
        replace hx226_2 := up_ HB.out hx226_2
        replace hx226_3 := up_ HB.out hx226_3
        replace hx226_4 := up_ HB.out hx226_4
        replace hx226_5 := up_ HB.out hx226_5
        replace hx226_6 := up_ HB.out hx226_6
        replace hx226_7 := up_ HB.out hx226_7
        replace hx226_8 := up_ HB.out hx226_8
        replace p226 := eq_true p226
        replace q226 := eq_true q226
        have p227 : 0 ≤ (x3_1 : Int) := of_decide_eq_true (by first | (with_reducible assumption) | assumption)
        have q227 : x3_1 < (l0.length : Int) := of_decide_eq_true (by first | (with_reducible assumption) | assumption)
        obtain ⟨ad227, e227, hx227_0, hx227_1, hx227_2, hx227_3, hx227_4, hx227_5, hx227_6, hx227_7, hx227_8⟩ := at_T30 HR0.out x3_1 p227 q227
        have hw227_8 := hx227_8
        have hw227_7 := hx227_7
        have hw227_6 := hx227_6
        have hw227_5 := hx227_5
        have hw227_4 := hx227_4
        have hw227_3 := hx227_3
        have hw227_2 := hx227_2
        have hw227_1 := hx227_1
        have hw227_0 := hx227_0
        obtain rfl : ad226 = ad227 := (by injection e227)
        replace hx227_0 := up_ HB.out hx227_0
        replace hx227_1 := up_ HB.out hx227_1
        replace hx227_2 := up_ HB.out hx227_2
        replace hx227_3 := up_ HB.out hx227_3
        replace hx227_4 := up_ HB.out hx227_4
        replace hx227_5 := up_ HB.out hx227_5
        replace hx227_6 := up_ HB.out hx227_6
        replace hx227_7 := up_ HB.out hx227_7
        replace hx227_8 := up_ HB.out hx227_8
        replace p227 := eq_true p227
        replace q227 := eq_true q227
        have p228 : 0 ≤ (x3_1 : Int) := of_decide_eq_true (by first | (with_reducible assumption) | assumption)
        have q228 : x3_1 < (l0.length : Int) := of_decide_eq_true (by first | (with_reducible assumption) | assumption)
        obtain ⟨ad228, e228, hx228_0, hx228_1, hx228_2, hx228_3, hx228_4, hx228_5, hx228_6, hx228_7, hx228_8⟩ := at_T30 HR0.out x3_1 p228 q228
        have hw228_8 := hx228_8
        have hw228_7 := hx228_7
        have hw228_6 := hx228_6
        have hw228_5 := hx228_5
        have hw228_4 := hx228_4
        have hw228_3 := hx228_3
        have hw228_2 := hx228_2
        have hw228_1 := hx228_1
        have hw228_0 := hx228_0
        obtain rfl : ad226 = ad228 := (by injection e228)
        replace hx228_0 := up_ HB.out hx228_0
        replace hx228_1 := up_ HB.out hx228_1
        replace hx228_2 := up_ HB.out hx228_2
        replace hx228_3 := up_ HB.out hx228_3
        replace hx228_4 := up_ HB.out hx228_4
        replace hx228_5 := up_ HB.out hx228_5
        replace hx228_6 := up_ HB.out hx228_6
        replace hx228_7 := up_ HB.out hx228_7
        replace hx228_8 := up_ HB.out hx228_8
        replace p228 := eq_true p228
        replace q228 := eq_true q228
        refine start_ (n := 33) (S := fun w' => w'.cell? (ad226.add ((x3_1).toNat * 9)) = some (.int .i64 ((rd_T30 l0 x3_1).f0)) ∧ w'.cell? ⟨(ad226.add ((x3_1).toNat * 9)).block, (ad226.add ((x3_1).toNat * 9)).off + 1, none⟩ = some (.int .i64 ((rd_T30 l0 x3_1).f1)) ∧ w'.cell? ⟨(ad226.add ((x3_1).toNat * 9)).block, (ad226.add ((x3_1).toNat * 9)).off + 2, none⟩ = some (.int .i64 ((rd_T30 l0 x3_1).f2.f0)) ∧ w'.cell? ⟨(ad226.add ((x3_1).toNat * 9)).block, (ad226.add ((x3_1).toNat * 9)).off + 3, none⟩ = some (.string ((rd_T30 l0 x3_1).f2.f1)) ∧ w'.cell? ⟨(ad226.add ((x3_1).toNat * 9)).block, (ad226.add ((x3_1).toNat * 9)).off + 4, none⟩ = some (.string ((rd_T30 l0 x3_1).f2.f2)) ∧ w'.cell? ⟨(ad226.add ((x3_1).toNat * 9)).block, (ad226.add ((x3_1).toNat * 9)).off + 5, none⟩ = some (.string ((rd_T30 l0 x3_1).f2.f3)) ∧ w'.cell? ⟨(ad226.add ((x3_1).toNat * 9)).block, (ad226.add ((x3_1).toNat * 9)).off + 6, none⟩ = some (.string ((rd_T30 l0 x3_1).f2.f4)) ∧ w'.cell? ⟨(ad226.add ((x3_1).toNat * 9)).block, (ad226.add ((x3_1).toNat * 9)).off + 7, none⟩ = some (.int .i64 ((rd_T30 l0 x3_1).f3)) ∧ w'.cell? ⟨(ad226.add ((x3_1).toNat * 9)).block, (ad226.add ((x3_1).toNat * 9)).off + 8, none⟩ = some (.string ((rd_T30 l0 x3_1).f4)) ∧ w'.cell? (ad226.add ((x3_1).toNat * 9)) = some (.int .i64 ((rd_T30 l0 x3_1).f0)) ∧ w'.cell? ⟨(ad226.add ((x3_1).toNat * 9)).block, (ad226.add ((x3_1).toNat * 9)).off + 1, none⟩ = some (.int .i64 ((rd_T30 l0 x3_1).f1)) ∧ w'.cell? ⟨(ad226.add ((x3_1).toNat * 9)).block, (ad226.add ((x3_1).toNat * 9)).off + 2, none⟩ = some (.int .i64 ((rd_T30 l0 x3_1).f2.f0)) ∧ w'.cell? ⟨(ad226.add ((x3_1).toNat * 9)).block, (ad226.add ((x3_1).toNat * 9)).off + 3, none⟩ = some (.string ((rd_T30 l0 x3_1).f2.f1)) ∧ w'.cell? ⟨(ad226.add ((x3_1).toNat * 9)).block, (ad226.add ((x3_1).toNat * 9)).off + 4, none⟩ = some (.string ((rd_T30 l0 x3_1).f2.f2)) ∧ w'.cell? ⟨(ad226.add ((x3_1).toNat * 9)).block, (ad226.add ((x3_1).toNat * 9)).off + 5, none⟩ = some (.string ((rd_T30 l0 x3_1).f2.f3)) ∧ w'.cell? ⟨(ad226.add ((x3_1).toNat * 9)).block, (ad226.add ((x3_1).toNat * 9)).off + 6, none⟩ = some (.string ((rd_T30 l0 x3_1).f2.f4)) ∧ w'.cell? ⟨(ad226.add ((x3_1).toNat * 9)).block, (ad226.add ((x3_1).toNat * 9)).off + 7, none⟩ = some (.int .i64 ((rd_T30 l0 x3_1).f3)) ∧ w'.cell? ⟨(ad226.add ((x3_1).toNat * 9)).block, (ad226.add ((x3_1).toNat * 9)).off + 8, none⟩ = some (.string ((rd_T30 l0 x3_1).f4)) ∧ w'.cell? (ad226.add ((x3_1).toNat * 9)) = some (.int .i64 ((rd_T30 l0 x3_1).f0)) ∧ w'.cell? ⟨(ad226.add ((x3_1).toNat * 9)).block, (ad226.add ((x3_1).toNat * 9)).off + 1, none⟩ = some (.int .i64 ((rd_T30 l0 x3_1).f1)) ∧ w'.cell? ⟨(ad226.add ((x3_1).toNat * 9)).block, (ad226.add ((x3_1).toNat * 9)).off + 2, none⟩ = some (.int .i64 ((rd_T30 l0 x3_1).f2.f0)) ∧ w'.cell? ⟨(ad226.add ((x3_1).toNat * 9)).block, (ad226.add ((x3_1).toNat * 9)).off + 3, none⟩ = some (.string ((rd_T30 l0 x3_1).f2.f1)) ∧ w'.cell? ⟨(ad226.add ((x3_1).toNat * 9)).block, (ad226.add ((x3_1).toNat * 9)).off + 4, none⟩ = some (.string ((rd_T30 l0 x3_1).f2.f2)) ∧ w'.cell? ⟨(ad226.add ((x3_1).toNat * 9)).block, (ad226.add ((x3_1).toNat * 9)).off + 5, none⟩ = some (.string ((rd_T30 l0 x3_1).f2.f3)) ∧ w'.cell? ⟨(ad226.add ((x3_1).toNat * 9)).block, (ad226.add ((x3_1).toNat * 9)).off + 6, none⟩ = some (.string ((rd_T30 l0 x3_1).f2.f4)) ∧ w'.cell? ⟨(ad226.add ((x3_1).toNat * 9)).block, (ad226.add ((x3_1).toNat * 9)).off + 7, none⟩ = some (.int .i64 ((rd_T30 l0 x3_1).f3)) ∧ w'.cell? ⟨(ad226.add ((x3_1).toNat * 9)).block, (ad226.add ((x3_1).toNat * 9)).off + 8, none⟩ = some (.string ((rd_T30 l0 x3_1).f4))) (ds := []) #[F_,F_,F_,F_,F_,F_,F_,F_,F_,F_,F_,F_,F_,F_,F_,F_,F_,F_,F_,F_,F_,F_,F_,F_,F_,F_,F_,F_,F_,F_,F_,F_,F_] (by kernel_rfl) rfl rfl ⟨(up_ HB.out hw226_0), (up_ HB.out hw226_1), (up_ HB.out hw226_2), (up_ HB.out hw226_3), (up_ HB.out hw226_4), (up_ HB.out hw226_5), (up_ HB.out hw226_6), (up_ HB.out hw226_7), (up_ HB.out hw226_8), (up_ HB.out hw227_0), (up_ HB.out hw227_1), (up_ HB.out hw227_2), (up_ HB.out hw227_3), (up_ HB.out hw227_4), (up_ HB.out hw227_5), (up_ HB.out hw227_6), (up_ HB.out hw227_7), (up_ HB.out hw227_8), (up_ HB.out hw228_0), (up_ HB.out hw228_1), (up_ HB.out hw228_2), (up_ HB.out hw228_3), (up_ HB.out hw228_4), (up_ HB.out hw228_5), (up_ HB.out hw228_6), (up_ HB.out hw228_7), (up_ HB.out hw228_8)⟩ (fun hHeld => ?_); refine with_tabW outlawref23_Life.tab4 outlawref23_Life.bits4 (fun HT_ HW_ => ?_)
        generalize wr.drew = w22 at HB hx226_0 hx226_1 hx226_2 hx226_3 hx226_4 hx226_5 hx226_6 hx226_7 hx226_8 hx227_0 hx227_1 hx227_2 hx227_3 hx227_4 hx227_5 hx227_6 hx227_7 hx227_8 hx228_0 hx228_1 hx228_2 hx228_3 hx228_4 hx228_5 hx228_6 hx228_7 hx228_8 hHeld ⊢
        refine pq_ 0 10 (mb_ 33 1) HT_.out ?_
        refine pq_ 1 11 (mb_ 33 3) HT_.out ?_
        refine pq_ 2 12 (mb_ 33 7) HT_.out ?_
        refine pq_ 3 13 (mb_ 33 15) HT_.out ?_
        refine tq_ 4 14 (mb_ 33 31) HT_.out HW_.out hHeld ?_ (hr := by rintro w' ⟨s0, s1, s2, s3, s4, s5, s6, s7, s8, s9, s10, s11, s12, s13, s14, s15, s16, s17, s18, s19, s20, s21, s22, s23, s24, s25, s26⟩; go_simp; with_reducible rfl)
        refine pq_ 5 15 (mb_ 33 63) HT_.out ?_
        refine pq_ 6 16 (mb_ 33 127) HT_.out ?_
        refine pq_ 7 17 (mb_ 33 255) HT_.out ?_
        refine pq_ 8 18 (mb_ 33 511) HT_.out ?_
        refine pq_ 9 19 (mb_ 33 1023) HT_.out ?_
        refine pq_ 10 20 (mb_ 33 2047) HT_.out ?_
        refine tq_ 11 21 (mb_ 33 4095) HT_.out HW_.out hHeld ?_ (hr := by rintro w' ⟨s0, s1, s2, s3, s4, s5, s6, s7, s8, s9, s10, s11, s12, s13, s14, s15, s16, s17, s18, s19, s20, s21, s22, s23, s24, s25, s26⟩; go_simp; with_reducible rfl)
        refine pq_ 12 22 (mb_ 33 8191) HT_.out ?_
        refine pq_ 13 23 (mb_ 33 16383) HT_.out ?_
        refine pq_ 14 24 (mb_ 33 32767) HT_.out ?_
        refine pq_ 15 25 (mb_ 33 65535) HT_.out ?_
        refine pq_ 16 26 (mb_ 33 131071) HT_.out ?_
        refine pq_ 17 27 (mb_ 33 262143) HT_.out ?_
        refine tq_ 18 28 (mb_ 33 524287) HT_.out HW_.out hHeld ?_ (hr := by rintro w' ⟨s0, s1, s2, s3, s4, s5, s6, s7, s8, s9, s10, s11, s12, s13, s14, s15, s16, s17, s18, s19, s20, s21, s22, s23, s24, s25, s26⟩; go_simp; with_reducible rfl)
        refine one_ (i := 19) (N := some 29) (mb_ 33 1048575) rfl rfl (one_of HT_.out (by kernel_rfl)) (by decide) (fun K hK => ?_)
        refine goes_ Tryd.func41 (by kernel_rfl) rfl #[.agg #[.int .i64 ((rd_T30 l0 x3_1).f0), .int .i64 ((rd_T30 l0 x3_1).f1), .int .i64 ((rd_T30 l0 x3_1).f2.f0), .string ((rd_T30 l0 x3_1).f2.f1), .string ((rd_T30 l0 x3_1).f2.f2), .string ((rd_T30 l0 x3_1).f2.f3), .string ((rd_T30 l0 x3_1).f2.f4), .int .i64 ((rd_T30 l0 x3_1).f3), .string ((rd_T30 l0 x3_1).f4)]] (by rfl) rfl rfl (by (try simp only [List.map_toArray, List.map_cons, List.map_nil]); first | done | rfl | (simp only [List.length_drop, List.length_take]; rfl)) ?_
        with_reducible refine (outlawref23_bare.calls ((rd_T30 l0 x3_1).f0) ((rd_T30 l0 x3_1).f1) ((rd_T30 l0 x3_1).f2.f0) ((rd_T30 l0 x3_1).f2.f1) ((rd_T30 l0 x3_1).f2.f2) ((rd_T30 l0 x3_1).f2.f3) ((rd_T30 l0 x3_1).f2.f4) ((rd_T30 l0 x3_1).f3) ((rd_T30 l0 x3_1).f4) false _ A8.out).mono ?_
        rintro e w23 ⟨rfl, hb⟩
        refine ⟨_, rfl, ?_⟩
        have n0_ := Aside0.mk (below_step (by repeat (first | (with_reducible first | exact HB.out | apply a1_ | apply a2_ | apply a3_) | exact HB.out)) hb)
        clear HB
        have HB := n0_
        clear n0_
        (try clear hb)
        (try clear hb2)
        (try clear hk)
        (try clear hi)
        refine hK.out _ _ ⟨(up_ HB.out hw226_0), (up_ HB.out hw226_1), (up_ HB.out hw226_2), (up_ HB.out hw226_3), (up_ HB.out hw226_4), (up_ HB.out hw226_5), (up_ HB.out hw226_6), (up_ HB.out hw226_7), (up_ HB.out hw226_8), (up_ HB.out hw227_0), (up_ HB.out hw227_1), (up_ HB.out hw227_2), (up_ HB.out hw227_3), (up_ HB.out hw227_4), (up_ HB.out hw227_5), (up_ HB.out hw227_6), (up_ HB.out hw227_7), (up_ HB.out hw227_8), (up_ HB.out hw228_0), (up_ HB.out hw228_1), (up_ HB.out hw228_2), (up_ HB.out hw228_3), (up_ HB.out hw228_4), (up_ HB.out hw228_5), (up_ HB.out hw228_6), (up_ HB.out hw228_7), (up_ HB.out hw228_8)⟩ (fun hHeld => ?_)
        clear hK K
        refine norm_ (a' := ?_) ?_ ?_
        rotate_left
        ·show Act.put _ (some 29) _ = _
         simp only [Act.put, List.setIfInBounds_toArray, List.set_cons_zero, List.set_cons_succ, i64_w, i32_w]
         rfl
        refine pq_ 20 30 (mb_ 33 2097151) HT_.out ?_
        refine pq_ 21 31 (mb_ 33 4194303) HT_.out ?_
        refine pq_ 22 32 (mb_ 33 8388607) HT_.out ?_
        refine pu_ 23 33 (mb_ 33 16777215) HT_.out ?_
        refine pu_ 24 34 (mb_ 33 33554431) HT_.out ?_
        refine pu_ 25 35 (mb_ 33 67108863) HT_.out ?_
        refine pu_ 26 36 (mb_ 33 134217727) HT_.out ?_
        refine pu_ 27 37 (mb_ 33 268435455) HT_.out ?_
        refine pu_ 28 38 (mb_ 33 536870911) HT_.out ?_
        refine pu_ 29 39 (mb_ 33 1073741823) HT_.out ?_
        refine pu_ 30 40 (mb_ 33 2147483647) HT_.out ?_
        refine pu_ 31 41 (mb_ 33 4294967295) HT_.out ?_
        refine pq_ 32 42 (mb_ 33 8589934591) HT_.out ?_
        refine done_ (done_of HT_.out (by kernel_rfl)) ?_
        try go_wp2
        go_ret
        exact ⟨by first | rfl | (simp [errW_none, errW_some] <;> rfl) | (simp [*, errW_none, errW_some] <;> rfl), by repeat (first | (with_reducible first | exact HB.out | apply a1_ | apply a2_ | apply a3_) | exact HB.out)⟩
    ·rw [if_neg c3] at H
     exact absurd H (by simp)
   ·rw [if_neg c2] at H
    have c2b0 : decide (x3_1 < (l0.length : Int)) = false := decide_eq_false c2
    clear c2
    obtain rfl := Option.some.inj H
    go_wp2
    go_ret
    exact ⟨by first | rfl | (simp [errW_none, errW_some] <;> rfl) | (simp [*, errW_none, errW_some] <;> rfl), by repeat (first | (with_reducible first | exact HB.out | apply a1_ | apply a2_ | apply a3_) | exact HB.out)⟩

end Go.Proofs.YtlmhgnkkdjpkcaaDoor.PA
