import Derived.Test.YtfgibjkgiolonaaWm
import Derived.Test.YtfgibjkgiolonaaPRx0
namespace Go.Proofs.Ytfgibjkgiolonaa.PR
open Go.RowKit Go.Proofs.YtfgibjkgiolonaaW.PrintWords Go.Proofs.YtfgibjkgiolonaaW.PrintLast Go.Proofs.YtfgibjkgiolonaaW.PrintMore Go.Proofs.YtfgibjkgiolonaaX
attribute [local go_sem] max2_int min2_int max_two min_two max_three min_three max_four min_four
set_option linter.unusedVariables false
set_option linter.unusedSimpArgs false
mutual
def outlawref21_Check.j0 : Nat → Bool → Int → Int → Int → Bool → ByteArray → Option (Int)
 | 0, _, _, _, _, _, _ => none
 | k + 1, x12, x102000, x102001, x102002, x102003, x102004 => if x12 = true then (some 9) else (if x102000 = 1 then (outlawref21_Check.j1 k true x102000 x102001 x102002 x102003 x102004) else (outlawref21_Check.j1 k (x102000 == 5) x102000 x102001 x102002 x102003 x102004))
def outlawref21_Check.j1 : Nat → Bool → Int → Int → Int → Bool → ByteArray → Option (Int)
 | 0, _, _, _, _, _, _ => none
 | k + 1, x3, x102000, x102001, x102002, x102003, x102004 => if x102000 = 2 then (outlawref21_Check.j2 k x3 true x102000 x102001 x102002 x102003 x102004) else (if x102000 = 3 then (outlawref21_Check.j2 k x3 true x102000 x102001 x102002 x102003 x102004) else (outlawref21_Check.j2 k x3 (x102000 == 4) x102000 x102001 x102002 x102003 x102004))
def outlawref21_Check.j2 : Nat → Bool → Bool → Int → Int → Int → Bool → ByteArray → Option (Int)
 | 0, _, _, _, _, _, _, _ => none
 | k + 1, x3, x4, x102000, x102001, x102002, x102003, x102004 => if x3 = true then (if x4 = true then (if x102000 = 3 then (if x102000 = 5 then (outlawref21_Check.j3 k false x102000 x102001 x102002 x102003 x102004) else (outlawref21_Check.j3 k (x102001 != 0) x102000 x102001 x102002 x102003 x102004)) else (if x102003 = true then (outlawref21_Check.j3 k true x102000 x102001 x102002 x102003 x102004) else (if x102000 = 5 then (outlawref21_Check.j3 k false x102000 x102001 x102002 x102003 x102004) else (outlawref21_Check.j3 k (x102001 != 0) x102000 x102001 x102002 x102003 x102004)))) else (if x102002 = 0 then (if x102000 = 3 then (if x102000 = 5 then (outlawref21_Check.j3 k false x102000 x102001 x102002 x102003 x102004) else (outlawref21_Check.j3 k (x102001 != 0) x102000 x102001 x102002 x102003 x102004)) else (if x102003 = true then (outlawref21_Check.j3 k true x102000 x102001 x102002 x102003 x102004) else (if x102000 = 5 then (outlawref21_Check.j3 k false x102000 x102001 x102002 x102003 x102004) else (outlawref21_Check.j3 k (x102001 != 0) x102000 x102001 x102002 x102003 x102004)))) else (outlawref21_Check.j3 k true x102000 x102001 x102002 x102003 x102004))) else (if x102004.toList = ([] : List UInt8) then (if x4 = true then (if x102000 = 3 then (if x102000 = 5 then (outlawref21_Check.j3 k false x102000 x102001 x102002 x102003 x102004) else (outlawref21_Check.j3 k (x102001 != 0) x102000 x102001 x102002 x102003 x102004)) else (if x102003 = true then (outlawref21_Check.j3 k true x102000 x102001 x102002 x102003 x102004) else (if x102000 = 5 then (outlawref21_Check.j3 k false x102000 x102001 x102002 x102003 x102004) else (outlawref21_Check.j3 k (x102001 != 0) x102000 x102001 x102002 x102003 x102004)))) else (if x102002 = 0 then (if x102000 = 3 then (if x102000 = 5 then (outlawref21_Check.j3 k false x102000 x102001 x102002 x102003 x102004) else (outlawref21_Check.j3 k (x102001 != 0) x102000 x102001 x102002 x102003 x102004)) else (if x102003 = true then (outlawref21_Check.j3 k true x102000 x102001 x102002 x102003 x102004) else (if x102000 = 5 then (outlawref21_Check.j3 k false x102000 x102001 x102002 x102003 x102004) else (outlawref21_Check.j3 k (x102001 != 0) x102000 x102001 x102002 x102003 x102004)))) else (outlawref21_Check.j3 k true x102000 x102001 x102002 x102003 x102004))) else (outlawref21_Check.j3 k true x102000 x102001 x102002 x102003 x102004))
def outlawref21_Check.j3 : Nat → Bool → Int → Int → Int → Bool → ByteArray → Option (Int)
 | 0, _, _, _, _, _, _ => none
 | k + 1, x34, x102000, x102001, x102002, x102003, x102004 => if x34 = true then (some 2) else (if x102002 < 0 then (outlawref21_Check.j4 k true x102000 x102001 x102002 x102003 x102004) else (if x102002 > 1152921504606846976 then (outlawref21_Check.j4 k true x102000 x102001 x102002 x102003 x102004) else (if x102000 = 2 then (if x102002 ≤ 4096 then (outlawref21_Check.j4 k true x102000 x102001 x102002 x102003 x102004) else (outlawref21_Check.j4 k (x102002 == 1152921504606846976) x102000 x102001 x102002 x102003 x102004)) else (outlawref21_Check.j4 k false x102000 x102001 x102002 x102003 x102004))))
def outlawref21_Check.j4 : Nat → Bool → Int → Int → Int → Bool → ByteArray → Option (Int)
 | 0, _, _, _, _, _, _ => none
 | k + 1, x70, x102000, x102001, x102002, x102003, x102004 => if x70 = true then (some 2) else (if x102001 < 0 then (outlawref21_Check.j5 k true x102000 x102001 x102002 x102003 x102004) else (outlawref21_Check.j5 k (decide (x102001 > 255)) x102000 x102001 x102002 x102003 x102004))
def outlawref21_Check.j5 : Nat → Bool → Int → Int → Int → Bool → ByteArray → Option (Int)
 | 0, _, _, _, _, _, _ => none
 | k + 1, x94, x102000, x102001, x102002, x102003, x102004 => if x94 = true then (some 2) else (if x102000 = 1 then (if (x102004.size : Int) > 4096 then (some 4) else (if x102000 = 5 then (if (x102004.size : Int) > 300 then (some 4) else (some 0)) else (some 0))) else (if x102000 = 5 then (if (x102004.size : Int) > 300 then (some 4) else (some 0)) else (some 0)))
end
def outlawref21_Check.f (k : Nat) (a0_0 : Int) (a0_1 : Int) (a0_2 : Int) (a0_3 : Bool) (a0_4 : ByteArray) : Option (Int) := if a0_0 < 1 then (outlawref21_Check.j0 k true a0_0 a0_1 a0_2 a0_3 a0_4) else (outlawref21_Check.j0 k (decide (a0_0 > 6)) a0_0 a0_1 a0_2 a0_3 a0_4)
theorem outlawref21_Check.mono_l : ∀ k, (∀ y0 y1 y2 y3 y4 y5, LeO (outlawref21_Check.j0 k y0 y1 y2 y3 y4 y5) (outlawref21_Check.j0 (k + 1) y0 y1 y2 y3 y4 y5)) ∧ (∀ y0 y1 y2 y3 y4 y5, LeO (outlawref21_Check.j1 k y0 y1 y2 y3 y4 y5) (outlawref21_Check.j1 (k + 1) y0 y1 y2 y3 y4 y5)) ∧ (∀ y0 y1 y2 y3 y4 y5 y6, LeO (outlawref21_Check.j2 k y0 y1 y2 y3 y4 y5 y6) (outlawref21_Check.j2 (k + 1) y0 y1 y2 y3 y4 y5 y6)) ∧ (∀ y0 y1 y2 y3 y4 y5, LeO (outlawref21_Check.j3 k y0 y1 y2 y3 y4 y5) (outlawref21_Check.j3 (k + 1) y0 y1 y2 y3 y4 y5)) ∧ (∀ y0 y1 y2 y3 y4 y5, LeO (outlawref21_Check.j4 k y0 y1 y2 y3 y4 y5) (outlawref21_Check.j4 (k + 1) y0 y1 y2 y3 y4 y5)) ∧ (∀ y0 y1 y2 y3 y4 y5, LeO (outlawref21_Check.j5 k y0 y1 y2 y3 y4 y5) (outlawref21_Check.j5 (k + 1) y0 y1 y2 y3 y4 y5))
 | 0 => ⟨fun _ _ _ _ _ _ r h => by simp [outlawref21_Check.j0] at h, fun _ _ _ _ _ _ r h => by simp [outlawref21_Check.j1] at h, fun _ _ _ _ _ _ _ r h => by simp [outlawref21_Check.j2] at h, fun _ _ _ _ _ _ r h => by simp [outlawref21_Check.j3] at h, fun _ _ _ _ _ _ r h => by simp [outlawref21_Check.j4] at h, fun _ _ _ _ _ _ r h => by simp [outlawref21_Check.j5] at h⟩
 | k + 1 => by
  obtain ⟨ih0, ih1, ih2, ih3, ih4, ih5⟩ := outlawref21_Check.mono_l k
  refine ⟨?_, ?_, ?_, ?_, ?_, ?_⟩
  ·intro y0 y1 y2 y3 y4 y5
   unfold outlawref21_Check.j0
   repeat' first
   | (with_reducible exact ih0 _ _ _ _ _ _)
   | (with_reducible exact ih1 _ _ _ _ _ _)
   | (with_reducible exact ih2 _ _ _ _ _ _ _)
   | (with_reducible exact ih3 _ _ _ _ _ _)
   | (with_reducible exact ih4 _ _ _ _ _ _)
   | (with_reducible exact ih5 _ _ _ _ _ _)
   | (with_reducible exact LeO.refl _)
   | (with_reducible exact LeO.none _)
   | (with_reducible refine LeO.ite ?_ ?_)
   | (with_reducible refine LeO.bind ?_ (fun _ => ?_))
   | refine LeO.ite ?_ ?_
   | refine LeO.bind ?_ (fun _ => ?_)
  ·intro y0 y1 y2 y3 y4 y5
   unfold outlawref21_Check.j1
   repeat' first
   | (with_reducible exact ih0 _ _ _ _ _ _)
   | (with_reducible exact ih1 _ _ _ _ _ _)
   | (with_reducible exact ih2 _ _ _ _ _ _ _)
   | (with_reducible exact ih3 _ _ _ _ _ _)
   | (with_reducible exact ih4 _ _ _ _ _ _)
   | (with_reducible exact ih5 _ _ _ _ _ _)
   | (with_reducible exact LeO.refl _)
   | (with_reducible exact LeO.none _)
   | (with_reducible refine LeO.ite ?_ ?_)
   | (with_reducible refine LeO.bind ?_ (fun _ => ?_))
   | refine LeO.ite ?_ ?_
   | refine LeO.bind ?_ (fun _ => ?_)
  ·intro y0 y1 y2 y3 y4 y5 y6
   unfold outlawref21_Check.j2
   repeat' first
   | (with_reducible exact ih0 _ _ _ _ _ _)
   | (with_reducible exact ih1 _ _ _ _ _ _)
   | (with_reducible exact ih2 _ _ _ _ _ _ _)
   | (with_reducible exact ih3 _ _ _ _ _ _)
   | (with_reducible exact ih4 _ _ _ _ _ _)
   | (with_reducible exact ih5 _ _ _ _ _ _)
   | (with_reducible exact LeO.refl _)
   | (with_reducible exact LeO.none _)
   | (with_reducible refine LeO.ite ?_ ?_)
   | (with_reducible refine LeO.bind ?_ (fun _ => ?_))
   | refine LeO.ite ?_ ?_
   | refine LeO.bind ?_ (fun _ => ?_)
  ·intro y0 y1 y2 y3 y4 y5
   unfold outlawref21_Check.j3
   repeat' first
   | (with_reducible exact ih0 _ _ _ _ _ _)
   | (with_reducible exact ih1 _ _ _ _ _ _)
   | (with_reducible exact ih2 _ _ _ _ _ _ _)
   | (with_reducible exact ih3 _ _ _ _ _ _)
   | (with_reducible exact ih4 _ _ _ _ _ _)
   | (with_reducible exact ih5 _ _ _ _ _ _)
   | (with_reducible exact LeO.refl _)
   | (with_reducible exact LeO.none _)
   | (with_reducible refine LeO.ite ?_ ?_)
   | (with_reducible refine LeO.bind ?_ (fun _ => ?_))
   | refine LeO.ite ?_ ?_
   | refine LeO.bind ?_ (fun _ => ?_)
  ·intro y0 y1 y2 y3 y4 y5
   unfold outlawref21_Check.j4
   repeat' first
   | (with_reducible exact ih0 _ _ _ _ _ _)
   | (with_reducible exact ih1 _ _ _ _ _ _)
   | (with_reducible exact ih2 _ _ _ _ _ _ _)
   | (with_reducible exact ih3 _ _ _ _ _ _)
   | (with_reducible exact ih4 _ _ _ _ _ _)
   | (with_reducible exact ih5 _ _ _ _ _ _)
   | (with_reducible exact LeO.refl _)
   | (with_reducible exact LeO.none _)
   | (with_reducible refine LeO.ite ?_ ?_)
   | (with_reducible refine LeO.bind ?_ (fun _ => ?_))
   | refine LeO.ite ?_ ?_
   | refine LeO.bind ?_ (fun _ => ?_)
  ·intro y0 y1 y2 y3 y4 y5
   unfold outlawref21_Check.j5
   repeat' first
   | (with_reducible exact ih0 _ _ _ _ _ _)
   | (with_reducible exact ih1 _ _ _ _ _ _)
   | (with_reducible exact ih2 _ _ _ _ _ _ _)
   | (with_reducible exact ih3 _ _ _ _ _ _)
   | (with_reducible exact ih4 _ _ _ _ _ _)
   | (with_reducible exact ih5 _ _ _ _ _ _)
   | (with_reducible exact LeO.refl _)
   | (with_reducible exact LeO.none _)
   | (with_reducible refine LeO.ite ?_ ?_)
   | (with_reducible refine LeO.bind ?_ (fun _ => ?_))
   | refine LeO.ite ?_ ?_
   | refine LeO.bind ?_ (fun _ => ?_)
theorem outlawref21_Check.mono : ∀ a0 a1 a2 a3 a4 k, LeO (outlawref21_Check.f k a0 a1 a2 a3 a4) (outlawref21_Check.f (k + 1) a0 a1 a2 a3 a4) := by
 intro a0 a1 a2 a3 a4 k
 obtain ⟨ih0, ih1, ih2, ih3, ih4, ih5⟩ := outlawref21_Check.mono_l k
 unfold outlawref21_Check.f
 repeat' first
   | (with_reducible exact ih0 _ _ _ _ _ _)
   | (with_reducible exact ih1 _ _ _ _ _ _)
   | (with_reducible exact ih2 _ _ _ _ _ _ _)
   | (with_reducible exact ih3 _ _ _ _ _ _)
   | (with_reducible exact ih4 _ _ _ _ _ _)
   | (with_reducible exact ih5 _ _ _ _ _ _)
   | (with_reducible exact LeO.refl _)
   | (with_reducible exact LeO.none _)
   | (with_reducible refine LeO.ite ?_ ?_)
   | (with_reducible refine LeO.bind ?_ (fun _ => ?_))
   | refine LeO.ite ?_ ?_
   | refine LeO.bind ?_ (fun _ => ?_)
set_option maxHeartbeats 8000000 in
set_option maxRecDepth 100000 in
theorem outlawref21_Check.calls (k : Nat) (a0_0 : Int) (a0_1 : Int) (a0_2 : Int) (a0_3 : Bool) (a0_4 : ByteArray) (r : Int) (w : World) (h : outlawref21_Check.f k a0_0 a0_1 a0_2 a0_3 a0_4 = some r) :
  Calls Try.prog 55 #[.agg #[.int .i64 a0_0, .int .i64 a0_1, .int .i64 a0_2, .bool a0_3, .string a0_4]] w fun e w' => e = .returned (.int .i64 r) ∧ Below w.heap.size w w' := by
 have hu42 := Try.underlying42
 have HB := Aside0.mk (Below.refl w.heap.size w)
 have H : (if a0_0 < 1 then (outlawref21_Check.j0 k true a0_0 a0_1 a0_2 a0_3 a0_4) else (outlawref21_Check.j0 k (decide (a0_0 > 6)) a0_0 a0_1 a0_2 a0_3 a0_4)) = some r := h
 clear h
 have HC2 := Aside0.mk H
 clear H
 go_enter Try.func55, Try.ntmps55
 go_upto_region 1 with (first | ((with_reducible refine gate_dst (N := 1) rfl ?_); (try (refine gate_guard (by rfl) ?_; dsimp only)); refine be_ 1 #[.int .i64 a0_0, .int .i64 a0_1, .int .i64 a0_2, .bool a0_3, .string a0_4] 42 ?_; intro gb101 hg w3 hbox hb; have n0_ := Aside0.mk (below_step (bl_ HB) hb); have n1_ := Aside0.mk (hbox); have n2_ := Aside0.mk ((by rw [hg]; exact (below_size (bl_ HB)) : w.heap.size ≤ gb101)); have n3_ := Aside0.mk ((by rw [hg]; exact (below_size (bl_ HB)) : w.heap.size ≤ gb101)); clear HB; have HB := n0_; have BK101 := n1_; have GW101 := n2_; have GE101 := n3_; clear n0_ n1_ n2_ n3_; clear hb hbox hg))
 (try simp only [Act.put, List.setIfInBounds_toArray, List.set_cons_zero, List.set_cons_succ])
 go_cut [12] (fun v12 wc => ∃ (kq : Nat) (x12_1 : Bool), v12 = .bool x12_1 ∧ Aside0 (outlawref21_Check.j0 kq x12_1 a0_0 a0_1 a0_2 a0_3 a0_4 = some r) ∧ Aside0 (kq ≤ k) ∧ Aside0 (wc.heap[gb101]? = some (.cells #[.int .i64 a0_0, .int .i64 a0_1, .int .i64 a0_2, .bool a0_3, .string a0_4] 42 (0, 0))) ∧ Aside0 (Below w.heap.size w wc))
 case first =>
  have H := HC2.out
  clear HC2
  by_cases c4 : a0_0 < 1
  ·rw [if_pos c4] at H
   have c4b0 : decide (a0_0 < 1) = true := decide_eq_true c4
   clear c4
   (first | rw [c4b0] | (simp only [i64_w, i32_w]; rw [c4b0]) | skip)
   have H' := Aside0.mk H
   clear H
   obtain ⟨hcz5_0, hcz5_1, hcz5_2, hcz5_3, hcz5_4, hfz5_0, hfz5_1, hfz5_2, hfz5_3, hfz5_4⟩ := bb5_ BK101.out
   go_wp2
   all_goals
    go_meet
    case rel => exact ⟨_, (true), r_, H', ⟨by first | omega | exact Nat.le_refl _⟩, ⟨kb_ BK101⟩, ⟨bl_ HB⟩⟩
  ·rw [if_neg c4] at H
   have c4b0 : decide (a0_0 < 1) = false := decide_eq_false c4
   clear c4
   (first | rw [c4b0] | (simp only [i64_w, i32_w]; rw [c4b0]) | skip)
   have H' := Aside0.mk H
   clear H
   obtain ⟨hcz6_0, hcz6_1, hcz6_2, hcz6_3, hcz6_4, hfz6_0, hfz6_1, hfz6_2, hfz6_3, hfz6_4⟩ := bb5_ BK101.out
   go_wp2
   all_goals
    go_meet
    case rel => exact ⟨_, (decide (a0_0 > 6)), r_, H', ⟨by first | omega | exact Nat.le_refl _⟩, ⟨kb_ BK101⟩, ⟨bl_ HB⟩⟩
 case rest =>
  clear HC2
  try clear p2
  try clear c4
  try clear c4b0
  try clear c5
  try clear hcz5_0 hcz5_1 hcz5_2 hcz5_3 hcz5_4
  try clear hcz6_0 hcz6_1 hcz6_2 hcz6_3 hcz6_4
  try clear hfz5_0 hfz5_1 hfz5_2 hfz5_3 hfz5_4
  try clear hfz6_0 hfz6_1 hfz6_2 hfz6_3 hfz6_4
  obtain ⟨kq, x12_1, rfl, HA, HJ1, BK101, HB⟩ := hcut
  cases kq with
  | zero => exact absurd HA.out (by simp [outlawref21_Check.j0])
  | succ kj1 =>
   have H := HA.out
   clear HA
   simp only [outlawref21_Check.j0] at H
   by_cases c7 : x12_1 = true
   ·subst c7
    rw [if_pos rfl] at H
    obtain rfl := Option.some.inj H
    go_wp2
    go_ret
    exact ⟨rfl, bl_ HB⟩
   ·replace c7 := Bool.eq_false_iff.mpr c7
    subst c7
    rw [if_neg (show ¬ (false = true) by decide)] at H
    have HC8 := Aside0.mk H
    clear H
    go_upto_region 3 with (fail)
    go_cut [3] (fun v3 wc => ∃ (kq : Nat) (x3_7 : Bool), v3 = .bool x3_7 ∧ Aside0 (outlawref21_Check.j1 kq x3_7 a0_0 a0_1 a0_2 a0_3 a0_4 = some r) ∧ Aside0 (kq ≤ kj1) ∧ Aside0 (wc.heap[gb101]? = some (.cells #[.int .i64 a0_0, .int .i64 a0_1, .int .i64 a0_2, .bool a0_3, .string a0_4] 42 (0, 0))) ∧ Aside0 (Below w.heap.size w wc))
    case first =>
     have H := HC8.out
     clear HC8
     by_cases c9 : a0_0 = 1
     ·rw [if_pos c9] at H
      have c9b0 : (a0_0 == 1) = true := beq_iff_eq.mpr c9
      have c9b1 : (a0_0 != 1) = false := bne_eq_false_iff_eq.mpr c9
      clear c9
      (first | rw [c9b0] | (simp only [i64_w, i32_w]; rw [c9b0]) | skip)
      have H' := Aside0.mk H
      clear H
      obtain ⟨hcz10_0, hcz10_1, hcz10_2, hcz10_3, hcz10_4, hfz10_0, hfz10_1, hfz10_2, hfz10_3, hfz10_4⟩ := bb5_ BK101.out
      go_wp2
      all_goals
       go_meet
       case rel => exact ⟨_, (true), r_, H', ⟨by have := HJ1.out; first | omega | exact Nat.le_refl _⟩, ⟨kb_ BK101⟩, ⟨bl_ HB⟩⟩
     ·rw [if_neg c9] at H
      have c9b0 : (a0_0 == 1) = false := beq_eq_false_iff_ne.mpr c9
      have c9b1 : (a0_0 != 1) = true := bne_iff_ne.mpr c9
      (first | rw [c9b0] | (simp only [i64_w, i32_w]; rw [c9b0]) | skip)
      have H' := Aside0.mk H
      clear H
      obtain ⟨hcz11_0, hcz11_1, hcz11_2, hcz11_3, hcz11_4, hfz11_0, hfz11_1, hfz11_2, hfz11_3, hfz11_4⟩ := bb5_ BK101.out
      go_wp2
      all_goals
       go_meet
       case rel => exact ⟨_, ((a0_0 == 5)), r_, H', ⟨by have := HJ1.out; first | omega | exact Nat.le_refl _⟩, ⟨kb_ BK101⟩, ⟨bl_ HB⟩⟩
    case rest =>
     clear HC8
     try clear p2
     try clear c4
     try clear c4b0
     try clear c5
     try clear c7
     try clear c9
     try clear c9b0
     try clear c9b1
     try clear hcz10_0 hcz10_1 hcz10_2 hcz10_3 hcz10_4
     try clear hcz11_0 hcz11_1 hcz11_2 hcz11_3 hcz11_4
     try clear hcz5_0 hcz5_1 hcz5_2 hcz5_3 hcz5_4
     try clear hcz6_0 hcz6_1 hcz6_2 hcz6_3 hcz6_4
     try clear hfz10_0 hfz10_1 hfz10_2 hfz10_3 hfz10_4
     try clear hfz11_0 hfz11_1 hfz11_2 hfz11_3 hfz11_4
     try clear hfz5_0 hfz5_1 hfz5_2 hfz5_3 hfz5_4
     try clear hfz6_0 hfz6_1 hfz6_2 hfz6_3 hfz6_4
     try clear p2
     obtain ⟨kq, x3_7, rfl, HA, HJ7, BK101, HB⟩ := hcut
     cases kq with
     | zero => exact absurd HA.out (by simp [outlawref21_Check.j1])
     | succ kj7 =>
      have H := HA.out
      clear HA
      simp only [outlawref21_Check.j1] at H
      have HC12 := Aside0.mk H
      clear H
      go_upto_region 4 with (fail)
      go_cut [4] (fun v4 wc => ∃ (kq : Nat) (x4_11 : Bool), v4 = .bool x4_11 ∧ Aside0 (outlawref21_Check.j2 kq x3_7 x4_11 a0_0 a0_1 a0_2 a0_3 a0_4 = some r) ∧ Aside0 (kq ≤ kj7) ∧ Aside0 (wc.heap[gb101]? = some (.cells #[.int .i64 a0_0, .int .i64 a0_1, .int .i64 a0_2, .bool a0_3, .string a0_4] 42 (0, 0))) ∧ Aside0 (Below w.heap.size w wc))
      case first =>
       have H := HC12.out
       clear HC12
       by_cases c13 : a0_0 = 2
       ·rw [if_pos c13] at H
        have c13b0 : (a0_0 == 2) = true := beq_iff_eq.mpr c13
        have c13b1 : (a0_0 != 2) = false := bne_eq_false_iff_eq.mpr c13
        clear c13
        (first | rw [c13b0] | (simp only [i64_w, i32_w]; rw [c13b0]) | skip)
        have H' := Aside0.mk H
        clear H
        obtain ⟨hcz14_0, hcz14_1, hcz14_2, hcz14_3, hcz14_4, hfz14_0, hfz14_1, hfz14_2, hfz14_3, hfz14_4⟩ := bb5_ BK101.out
        go_wp2
        all_goals
         go_meet
         case rel => exact ⟨_, (true), r_, H', ⟨by have := HJ1.out; have := HJ7.out; first | omega | exact Nat.le_refl _⟩, ⟨kb_ BK101⟩, ⟨bl_ HB⟩⟩
       ·rw [if_neg c13] at H
        have c13b0 : (a0_0 == 2) = false := beq_eq_false_iff_ne.mpr c13
        have c13b1 : (a0_0 != 2) = true := bne_iff_ne.mpr c13
        (first | rw [c13b0] | (simp only [i64_w, i32_w]; rw [c13b0]) | skip)
        by_cases c15 : a0_0 = 3
        ·rw [if_pos c15] at H
         have c15b0 : (a0_0 == 3) = true := beq_iff_eq.mpr c15
         have c15b1 : (a0_0 != 3) = false := bne_eq_false_iff_eq.mpr c15
         clear c15
         have H' := Aside0.mk H
         clear H
         obtain ⟨hcz16_0, hcz16_1, hcz16_2, hcz16_3, hcz16_4, hfz16_0, hfz16_1, hfz16_2, hfz16_3, hfz16_4⟩ := bb5_ BK101.out
         go_wp2
         all_goals
          go_meet
          case rel => exact ⟨_, (true), r_, H', ⟨by have := HJ1.out; have := HJ7.out; first | omega | exact Nat.le_refl _⟩, ⟨kb_ BK101⟩, ⟨bl_ HB⟩⟩
        ·rw [if_neg c15] at H
         have c15b0 : (a0_0 == 3) = false := beq_eq_false_iff_ne.mpr c15
         have c15b1 : (a0_0 != 3) = true := bne_iff_ne.mpr c15
         have H' := Aside0.mk H
         clear H
         obtain ⟨hcz17_0, hcz17_1, hcz17_2, hcz17_3, hcz17_4, hfz17_0, hfz17_1, hfz17_2, hfz17_3, hfz17_4⟩ := bb5_ BK101.out
         go_wp2
         all_goals
          go_meet
          case rel => exact ⟨_, ((a0_0 == 4)), r_, H', ⟨by have := HJ1.out; have := HJ7.out; first | omega | exact Nat.le_refl _⟩, ⟨kb_ BK101⟩, ⟨bl_ HB⟩⟩
      case rest =>
       clear HC12
       try clear c1
       try clear p2
       try clear c4
       try clear c4b0
       try clear c5
       try clear c7
       try clear c9
       try clear c9b0
       try clear c9b1
       try clear c13
       try clear c13b0
       try clear c13b1
       try clear c15
       try clear c15b0
       try clear c15b1
       try clear hcz10_0 hcz10_1 hcz10_2 hcz10_3 hcz10_4
       try clear hcz11_0 hcz11_1 hcz11_2 hcz11_3 hcz11_4
       try clear hcz14_0 hcz14_1 hcz14_2 hcz14_3 hcz14_4
       try clear hcz16_0 hcz16_1 hcz16_2 hcz16_3 hcz16_4
       try clear hcz17_0 hcz17_1 hcz17_2 hcz17_3 hcz17_4
       try clear hcz5_0 hcz5_1 hcz5_2 hcz5_3 hcz5_4
       try clear hcz6_0 hcz6_1 hcz6_2 hcz6_3 hcz6_4
       try clear hfz10_0 hfz10_1 hfz10_2 hfz10_3 hfz10_4
       try clear hfz11_0 hfz11_1 hfz11_2 hfz11_3 hfz11_4
       try clear hfz14_0 hfz14_1 hfz14_2 hfz14_3 hfz14_4
       try clear hfz16_0 hfz16_1 hfz16_2 hfz16_3 hfz16_4
       try clear hfz17_0 hfz17_1 hfz17_2 hfz17_3 hfz17_4
       try clear hfz5_0 hfz5_1 hfz5_2 hfz5_3 hfz5_4
       try clear hfz6_0 hfz6_1 hfz6_2 hfz6_3 hfz6_4
       try clear p2
       obtain ⟨kq, x4_11, rfl, HA, HJ11, BK101, HB⟩ := hcut
       cases kq with
       | zero => exact absurd HA.out (by simp [outlawref21_Check.j2])
       | succ kj11 =>
        have H := HA.out
        clear HA
        simp only [outlawref21_Check.j2] at H
        have HC18 := Aside0.mk H
        clear H
        go_upto_region 5 with (fail)
        go_cut [34] (fun v34 wc => ∃ (kq : Nat) (x34_17 : Bool), v34 = .bool x34_17 ∧ Aside0 (outlawref21_Check.j3 kq x34_17 a0_0 a0_1 a0_2 a0_3 a0_4 = some r) ∧ Aside0 (kq ≤ kj11) ∧ Aside0 (wc.heap[gb101]? = some (.cells #[.int .i64 a0_0, .int .i64 a0_1, .int .i64 a0_2, .bool a0_3, .string a0_4] 42 (0, 0))) ∧ Aside0 (Below w.heap.size w wc))
        case first =>
         have H := HC18.out
         clear HC18
         by_cases c19 : x3_7 = true
         ·subst c19
          rw [if_pos rfl] at H
          by_cases c20 : x4_11 = true
          ·subst c20
           rw [if_pos rfl] at H
           by_cases c21 : a0_0 = 3
           ·rw [if_pos c21] at H
            have c21b0 : (a0_0 == 3) = true := beq_iff_eq.mpr c21
            have c21b1 : (a0_0 != 3) = false := bne_eq_false_iff_eq.mpr c21
            clear c21
            (first | rw [c21b0] | (simp only [i64_w, i32_w]; rw [c21b0]) | skip)
            by_cases c22 : a0_0 = 5
            ·rw [if_pos c22] at H
             have c22b0 : (a0_0 == 5) = true := beq_iff_eq.mpr c22
             have c22b1 : (a0_0 != 5) = false := bne_eq_false_iff_eq.mpr c22
             clear c22
             have H' := Aside0.mk H
             clear H
             obtain ⟨hcz23_0, hcz23_1, hcz23_2, hcz23_3, hcz23_4, hfz23_0, hfz23_1, hfz23_2, hfz23_3, hfz23_4⟩ := bb5_ BK101.out
             go_wp2
             all_goals
              go_meet
              case rel => exact ⟨_, (false), r_, H', ⟨by have := HJ1.out; have := HJ7.out; have := HJ11.out; first | omega | exact Nat.le_refl _⟩, ⟨kb_ BK101⟩, ⟨bl_ HB⟩⟩
            ·rw [if_neg c22] at H
             have c22b0 : (a0_0 == 5) = false := beq_eq_false_iff_ne.mpr c22
             have c22b1 : (a0_0 != 5) = true := bne_iff_ne.mpr c22
             have H' := Aside0.mk H
             clear H
             obtain ⟨hcz24_0, hcz24_1, hcz24_2, hcz24_3, hcz24_4, hfz24_0, hfz24_1, hfz24_2, hfz24_3, hfz24_4⟩ := bb5_ BK101.out
             go_wp2
             all_goals
              go_meet
              case rel => exact ⟨_, ((a0_1 != 0)), r_, H', ⟨by have := HJ1.out; have := HJ7.out; have := HJ11.out; first | omega | exact Nat.le_refl _⟩, ⟨kb_ BK101⟩, ⟨bl_ HB⟩⟩
           ·rw [if_neg c21] at H
            have c21b0 : (a0_0 == 3) = false := beq_eq_false_iff_ne.mpr c21
            have c21b1 : (a0_0 != 3) = true := bne_iff_ne.mpr c21
            (first | rw [c21b0] | (simp only [i64_w, i32_w]; rw [c21b0]) | skip)
            by_cases c25 : a0_3 = true
            ·subst c25
             rw [if_pos rfl] at H
             have H' := Aside0.mk H
             clear H
             obtain ⟨hcz26_0, hcz26_1, hcz26_2, hcz26_3, hcz26_4, hfz26_0, hfz26_1, hfz26_2, hfz26_3, hfz26_4⟩ := bb5_ BK101.out
             go_wp2
             all_goals
              go_meet
              case rel => exact ⟨_, (true), r_, H', ⟨by have := HJ1.out; have := HJ7.out; have := HJ11.out; first | omega | exact Nat.le_refl _⟩, ⟨kb_ BK101⟩, ⟨bl_ HB⟩⟩
            ·replace c25 := Bool.eq_false_iff.mpr c25
             subst c25
             rw [if_neg (show ¬ (false = true) by decide)] at H
             by_cases c27 : a0_0 = 5
             ·rw [if_pos c27] at H
              have c27b0 : (a0_0 == 5) = true := beq_iff_eq.mpr c27
              have c27b1 : (a0_0 != 5) = false := bne_eq_false_iff_eq.mpr c27
              clear c27
              have H' := Aside0.mk H
              clear H
              obtain ⟨hcz28_0, hcz28_1, hcz28_2, hcz28_3, hcz28_4, hfz28_0, hfz28_1, hfz28_2, hfz28_3, hfz28_4⟩ := bb5_ BK101.out
              go_wp2
              all_goals
               go_meet
               case rel => exact ⟨_, (false), r_, H', ⟨by have := HJ1.out; have := HJ7.out; have := HJ11.out; first | omega | exact Nat.le_refl _⟩, ⟨kb_ BK101⟩, ⟨bl_ HB⟩⟩
             ·rw [if_neg c27] at H
              have c27b0 : (a0_0 == 5) = false := beq_eq_false_iff_ne.mpr c27
              have c27b1 : (a0_0 != 5) = true := bne_iff_ne.mpr c27
              have H' := Aside0.mk H
              clear H
              obtain ⟨hcz29_0, hcz29_1, hcz29_2, hcz29_3, hcz29_4, hfz29_0, hfz29_1, hfz29_2, hfz29_3, hfz29_4⟩ := bb5_ BK101.out
              go_wp2
              all_goals
               go_meet
               case rel => exact ⟨_, ((a0_1 != 0)), r_, H', ⟨by have := HJ1.out; have := HJ7.out; have := HJ11.out; first | omega | exact Nat.le_refl _⟩, ⟨kb_ BK101⟩, ⟨bl_ HB⟩⟩
          ·replace c20 := Bool.eq_false_iff.mpr c20
           subst c20
           rw [if_neg (show ¬ (false = true) by decide)] at H
           by_cases c30 : a0_2 = 0
           ·rw [if_pos c30] at H
            have c30b0 : (a0_2 == 0) = true := beq_iff_eq.mpr c30
            have c30b1 : (a0_2 != 0) = false := bne_eq_false_iff_eq.mpr c30
            clear c30
            by_cases c31 : a0_0 = 3
            ·rw [if_pos c31] at H
             have c31b0 : (a0_0 == 3) = true := beq_iff_eq.mpr c31
             have c31b1 : (a0_0 != 3) = false := bne_eq_false_iff_eq.mpr c31
             clear c31
             by_cases c32 : a0_0 = 5
             ·rw [if_pos c32] at H
              have c32b0 : (a0_0 == 5) = true := beq_iff_eq.mpr c32
              have c32b1 : (a0_0 != 5) = false := bne_eq_false_iff_eq.mpr c32
              clear c32
              have H' := Aside0.mk H
              clear H
              obtain ⟨hcz33_0, hcz33_1, hcz33_2, hcz33_3, hcz33_4, hfz33_0, hfz33_1, hfz33_2, hfz33_3, hfz33_4⟩ := bb5_ BK101.out
              go_wp2
              all_goals
               go_meet
               case rel => exact ⟨_, (false), r_, H', ⟨by have := HJ1.out; have := HJ7.out; have := HJ11.out; first | omega | exact Nat.le_refl _⟩, ⟨kb_ BK101⟩, ⟨bl_ HB⟩⟩
             ·rw [if_neg c32] at H
              have c32b0 : (a0_0 == 5) = false := beq_eq_false_iff_ne.mpr c32
              have c32b1 : (a0_0 != 5) = true := bne_iff_ne.mpr c32
              have H' := Aside0.mk H
              clear H
              obtain ⟨hcz34_0, hcz34_1, hcz34_2, hcz34_3, hcz34_4, hfz34_0, hfz34_1, hfz34_2, hfz34_3, hfz34_4⟩ := bb5_ BK101.out
              go_wp2
              all_goals
               go_meet
               case rel => exact ⟨_, ((a0_1 != 0)), r_, H', ⟨by have := HJ1.out; have := HJ7.out; have := HJ11.out; first | omega | exact Nat.le_refl _⟩, ⟨kb_ BK101⟩, ⟨bl_ HB⟩⟩
            ·rw [if_neg c31] at H
             have c31b0 : (a0_0 == 3) = false := beq_eq_false_iff_ne.mpr c31
             have c31b1 : (a0_0 != 3) = true := bne_iff_ne.mpr c31
             by_cases c35 : a0_3 = true
             ·subst c35
              rw [if_pos rfl] at H
              have H' := Aside0.mk H
              clear H
              obtain ⟨hcz36_0, hcz36_1, hcz36_2, hcz36_3, hcz36_4, hfz36_0, hfz36_1, hfz36_2, hfz36_3, hfz36_4⟩ := bb5_ BK101.out
              go_wp2
              all_goals
               go_meet
               case rel => exact ⟨_, (true), r_, H', ⟨by have := HJ1.out; have := HJ7.out; have := HJ11.out; first | omega | exact Nat.le_refl _⟩, ⟨kb_ BK101⟩, ⟨bl_ HB⟩⟩
             ·replace c35 := Bool.eq_false_iff.mpr c35
              subst c35
              rw [if_neg (show ¬ (false = true) by decide)] at H
              by_cases c37 : a0_0 = 5
              ·rw [if_pos c37] at H
               have c37b0 : (a0_0 == 5) = true := beq_iff_eq.mpr c37
               have c37b1 : (a0_0 != 5) = false := bne_eq_false_iff_eq.mpr c37
               clear c37
               have H' := Aside0.mk H
               clear H
               obtain ⟨hcz38_0, hcz38_1, hcz38_2, hcz38_3, hcz38_4, hfz38_0, hfz38_1, hfz38_2, hfz38_3, hfz38_4⟩ := bb5_ BK101.out
               go_wp2
               all_goals
                go_meet
                case rel => exact ⟨_, (false), r_, H', ⟨by have := HJ1.out; have := HJ7.out; have := HJ11.out; first | omega | exact Nat.le_refl _⟩, ⟨kb_ BK101⟩, ⟨bl_ HB⟩⟩
              ·rw [if_neg c37] at H
               have c37b0 : (a0_0 == 5) = false := beq_eq_false_iff_ne.mpr c37
               have c37b1 : (a0_0 != 5) = true := bne_iff_ne.mpr c37
               have H' := Aside0.mk H
               clear H
               obtain ⟨hcz39_0, hcz39_1, hcz39_2, hcz39_3, hcz39_4, hfz39_0, hfz39_1, hfz39_2, hfz39_3, hfz39_4⟩ := bb5_ BK101.out
               go_wp2
               all_goals
                go_meet
                case rel => exact ⟨_, ((a0_1 != 0)), r_, H', ⟨by have := HJ1.out; have := HJ7.out; have := HJ11.out; first | omega | exact Nat.le_refl _⟩, ⟨kb_ BK101⟩, ⟨bl_ HB⟩⟩
           ·rw [if_neg c30] at H
            have c30b0 : (a0_2 == 0) = false := beq_eq_false_iff_ne.mpr c30
            have c30b1 : (a0_2 != 0) = true := bne_iff_ne.mpr c30
            have H' := Aside0.mk H
            clear H
            obtain ⟨hcz40_0, hcz40_1, hcz40_2, hcz40_3, hcz40_4, hfz40_0, hfz40_1, hfz40_2, hfz40_3, hfz40_4⟩ := bb5_ BK101.out
            go_wp2
            all_goals
             go_meet
             case rel => exact ⟨_, (true), r_, H', ⟨by have := HJ1.out; have := HJ7.out; have := HJ11.out; first | omega | exact Nat.le_refl _⟩, ⟨kb_ BK101⟩, ⟨bl_ HB⟩⟩
         ·replace c19 := Bool.eq_false_iff.mpr c19
          subst c19
          rw [if_neg (show ¬ (false = true) by decide)] at H
          by_cases c41 : a0_4.toList = ([] : List UInt8)
          ·rw [if_pos c41] at H
           have c41b0 : (a0_4.toList == ([] : List UInt8)) = true := beq_iff_eq.mpr c41
           have c41b1 : (a0_4.toList != ([] : List UInt8)) = false := bne_eq_false_iff_eq.mpr c41
           clear c41
           by_cases c42 : x4_11 = true
           ·subst c42
            rw [if_pos rfl] at H
            by_cases c43 : a0_0 = 3
            ·rw [if_pos c43] at H
             have c43b0 : (a0_0 == 3) = true := beq_iff_eq.mpr c43
             have c43b1 : (a0_0 != 3) = false := bne_eq_false_iff_eq.mpr c43
             clear c43
             by_cases c44 : a0_0 = 5
             ·rw [if_pos c44] at H
              have c44b0 : (a0_0 == 5) = true := beq_iff_eq.mpr c44
              have c44b1 : (a0_0 != 5) = false := bne_eq_false_iff_eq.mpr c44
              clear c44
              have H' := Aside0.mk H
              clear H
              obtain ⟨hcz45_0, hcz45_1, hcz45_2, hcz45_3, hcz45_4, hfz45_0, hfz45_1, hfz45_2, hfz45_3, hfz45_4⟩ := bb5_ BK101.out
              go_wp2
              all_goals
               go_meet
               case rel => exact ⟨_, (false), r_, H', ⟨by have := HJ1.out; have := HJ7.out; have := HJ11.out; first | omega | exact Nat.le_refl _⟩, ⟨kb_ BK101⟩, ⟨bl_ HB⟩⟩
             ·rw [if_neg c44] at H
              have c44b0 : (a0_0 == 5) = false := beq_eq_false_iff_ne.mpr c44
              have c44b1 : (a0_0 != 5) = true := bne_iff_ne.mpr c44
              have H' := Aside0.mk H
              clear H
              obtain ⟨hcz46_0, hcz46_1, hcz46_2, hcz46_3, hcz46_4, hfz46_0, hfz46_1, hfz46_2, hfz46_3, hfz46_4⟩ := bb5_ BK101.out
              go_wp2
              all_goals
               go_meet
               case rel => exact ⟨_, ((a0_1 != 0)), r_, H', ⟨by have := HJ1.out; have := HJ7.out; have := HJ11.out; first | omega | exact Nat.le_refl _⟩, ⟨kb_ BK101⟩, ⟨bl_ HB⟩⟩
            ·rw [if_neg c43] at H
             have c43b0 : (a0_0 == 3) = false := beq_eq_false_iff_ne.mpr c43
             have c43b1 : (a0_0 != 3) = true := bne_iff_ne.mpr c43
             by_cases c47 : a0_3 = true
             ·subst c47
              rw [if_pos rfl] at H
              have H' := Aside0.mk H
              clear H
              obtain ⟨hcz48_0, hcz48_1, hcz48_2, hcz48_3, hcz48_4, hfz48_0, hfz48_1, hfz48_2, hfz48_3, hfz48_4⟩ := bb5_ BK101.out
              go_wp2
              all_goals
               go_meet
               case rel => exact ⟨_, (true), r_, H', ⟨by have := HJ1.out; have := HJ7.out; have := HJ11.out; first | omega | exact Nat.le_refl _⟩, ⟨kb_ BK101⟩, ⟨bl_ HB⟩⟩
             ·replace c47 := Bool.eq_false_iff.mpr c47
              subst c47
              rw [if_neg (show ¬ (false = true) by decide)] at H
              by_cases c49 : a0_0 = 5
              ·rw [if_pos c49] at H
               have c49b0 : (a0_0 == 5) = true := beq_iff_eq.mpr c49
               have c49b1 : (a0_0 != 5) = false := bne_eq_false_iff_eq.mpr c49
               clear c49
               have H' := Aside0.mk H
               clear H
               obtain ⟨hcz50_0, hcz50_1, hcz50_2, hcz50_3, hcz50_4, hfz50_0, hfz50_1, hfz50_2, hfz50_3, hfz50_4⟩ := bb5_ BK101.out
               go_wp2
               all_goals
                go_meet
                case rel => exact ⟨_, (false), r_, H', ⟨by have := HJ1.out; have := HJ7.out; have := HJ11.out; first | omega | exact Nat.le_refl _⟩, ⟨kb_ BK101⟩, ⟨bl_ HB⟩⟩
              ·rw [if_neg c49] at H
               have c49b0 : (a0_0 == 5) = false := beq_eq_false_iff_ne.mpr c49
               have c49b1 : (a0_0 != 5) = true := bne_iff_ne.mpr c49
               have H' := Aside0.mk H
               clear H
               obtain ⟨hcz51_0, hcz51_1, hcz51_2, hcz51_3, hcz51_4, hfz51_0, hfz51_1, hfz51_2, hfz51_3, hfz51_4⟩ := bb5_ BK101.out
               go_wp2
               all_goals
                go_meet
                case rel => exact ⟨_, ((a0_1 != 0)), r_, H', ⟨by have := HJ1.out; have := HJ7.out; have := HJ11.out; first | omega | exact Nat.le_refl _⟩, ⟨kb_ BK101⟩, ⟨bl_ HB⟩⟩
           ·replace c42 := Bool.eq_false_iff.mpr c42
            subst c42
            rw [if_neg (show ¬ (false = true) by decide)] at H
            by_cases c52 : a0_2 = 0
            ·rw [if_pos c52] at H
             have c52b0 : (a0_2 == 0) = true := beq_iff_eq.mpr c52
             have c52b1 : (a0_2 != 0) = false := bne_eq_false_iff_eq.mpr c52
             clear c52
             by_cases c53 : a0_0 = 3
             ·rw [if_pos c53] at H
              have c53b0 : (a0_0 == 3) = true := beq_iff_eq.mpr c53
              have c53b1 : (a0_0 != 3) = false := bne_eq_false_iff_eq.mpr c53
              clear c53
              by_cases c54 : a0_0 = 5
              ·rw [if_pos c54] at H
               have c54b0 : (a0_0 == 5) = true := beq_iff_eq.mpr c54
               have c54b1 : (a0_0 != 5) = false := bne_eq_false_iff_eq.mpr c54
               clear c54
               have H' := Aside0.mk H
               clear H
               obtain ⟨hcz55_0, hcz55_1, hcz55_2, hcz55_3, hcz55_4, hfz55_0, hfz55_1, hfz55_2, hfz55_3, hfz55_4⟩ := bb5_ BK101.out
               go_wp2
               all_goals
                go_meet
                case rel => exact ⟨_, (false), r_, H', ⟨by have := HJ1.out; have := HJ7.out; have := HJ11.out; first | omega | exact Nat.le_refl _⟩, ⟨kb_ BK101⟩, ⟨bl_ HB⟩⟩
              ·rw [if_neg c54] at H
               have c54b0 : (a0_0 == 5) = false := beq_eq_false_iff_ne.mpr c54
               have c54b1 : (a0_0 != 5) = true := bne_iff_ne.mpr c54
               have H' := Aside0.mk H
               clear H
               obtain ⟨hcz56_0, hcz56_1, hcz56_2, hcz56_3, hcz56_4, hfz56_0, hfz56_1, hfz56_2, hfz56_3, hfz56_4⟩ := bb5_ BK101.out
               go_wp2
               all_goals
                go_meet
                case rel => exact ⟨_, ((a0_1 != 0)), r_, H', ⟨by have := HJ1.out; have := HJ7.out; have := HJ11.out; first | omega | exact Nat.le_refl _⟩, ⟨kb_ BK101⟩, ⟨bl_ HB⟩⟩
             ·rw [if_neg c53] at H
              have c53b0 : (a0_0 == 3) = false := beq_eq_false_iff_ne.mpr c53
              have c53b1 : (a0_0 != 3) = true := bne_iff_ne.mpr c53
              by_cases c57 : a0_3 = true
              ·subst c57
               rw [if_pos rfl] at H
               have H' := Aside0.mk H
               clear H
               obtain ⟨hcz58_0, hcz58_1, hcz58_2, hcz58_3, hcz58_4, hfz58_0, hfz58_1, hfz58_2, hfz58_3, hfz58_4⟩ := bb5_ BK101.out
               go_wp2
               all_goals
                go_meet
                case rel => exact ⟨_, (true), r_, H', ⟨by have := HJ1.out; have := HJ7.out; have := HJ11.out; first | omega | exact Nat.le_refl _⟩, ⟨kb_ BK101⟩, ⟨bl_ HB⟩⟩
              ·replace c57 := Bool.eq_false_iff.mpr c57
               subst c57
               rw [if_neg (show ¬ (false = true) by decide)] at H
               by_cases c59 : a0_0 = 5
               ·rw [if_pos c59] at H
                have c59b0 : (a0_0 == 5) = true := beq_iff_eq.mpr c59
                have c59b1 : (a0_0 != 5) = false := bne_eq_false_iff_eq.mpr c59
                clear c59
                have H' := Aside0.mk H
                clear H
                obtain ⟨hcz60_0, hcz60_1, hcz60_2, hcz60_3, hcz60_4, hfz60_0, hfz60_1, hfz60_2, hfz60_3, hfz60_4⟩ := bb5_ BK101.out
                go_wp2
                all_goals
                 go_meet
                 case rel => exact ⟨_, (false), r_, H', ⟨by have := HJ1.out; have := HJ7.out; have := HJ11.out; first | omega | exact Nat.le_refl _⟩, ⟨kb_ BK101⟩, ⟨bl_ HB⟩⟩
               ·rw [if_neg c59] at H
                have c59b0 : (a0_0 == 5) = false := beq_eq_false_iff_ne.mpr c59
                have c59b1 : (a0_0 != 5) = true := bne_iff_ne.mpr c59
                have H' := Aside0.mk H
                clear H
                obtain ⟨hcz61_0, hcz61_1, hcz61_2, hcz61_3, hcz61_4, hfz61_0, hfz61_1, hfz61_2, hfz61_3, hfz61_4⟩ := bb5_ BK101.out
                go_wp2
                all_goals
                 go_meet
                 case rel => exact ⟨_, ((a0_1 != 0)), r_, H', ⟨by have := HJ1.out; have := HJ7.out; have := HJ11.out; first | omega | exact Nat.le_refl _⟩, ⟨kb_ BK101⟩, ⟨bl_ HB⟩⟩
            ·rw [if_neg c52] at H
             have c52b0 : (a0_2 == 0) = false := beq_eq_false_iff_ne.mpr c52
             have c52b1 : (a0_2 != 0) = true := bne_iff_ne.mpr c52
             have H' := Aside0.mk H
             clear H
             obtain ⟨hcz62_0, hcz62_1, hcz62_2, hcz62_3, hcz62_4, hfz62_0, hfz62_1, hfz62_2, hfz62_3, hfz62_4⟩ := bb5_ BK101.out
             go_wp2
             all_goals
              go_meet
              case rel => exact ⟨_, (true), r_, H', ⟨by have := HJ1.out; have := HJ7.out; have := HJ11.out; first | omega | exact Nat.le_refl _⟩, ⟨kb_ BK101⟩, ⟨bl_ HB⟩⟩
          ·rw [if_neg c41] at H
           have c41b0 : (a0_4.toList == ([] : List UInt8)) = false := beq_eq_false_iff_ne.mpr c41
           have c41b1 : (a0_4.toList != ([] : List UInt8)) = true := bne_iff_ne.mpr c41
           have H' := Aside0.mk H
           clear H
           obtain ⟨hcz63_0, hcz63_1, hcz63_2, hcz63_3, hcz63_4, hfz63_0, hfz63_1, hfz63_2, hfz63_3, hfz63_4⟩ := bb5_ BK101.out
           go_wp2
           all_goals
            go_meet
            case rel => exact ⟨_, (true), r_, H', ⟨by have := HJ1.out; have := HJ7.out; have := HJ11.out; first | omega | exact Nat.le_refl _⟩, ⟨kb_ BK101⟩, ⟨bl_ HB⟩⟩
        case rest =>
         clear HC18
         try clear c1
         try clear c2
         try clear p2
         try clear c3
         try clear c4
         try clear c5
         try clear c19
         try clear c20
         try clear c21
         try clear c21b0
         try clear c21b1
         try clear c22
         try clear c22b0
         try clear c22b1
         try clear c25
         try clear c27
         try clear c27b0
         try clear c27b1
         try clear c30
         try clear c30b0
         try clear c30b1
         try clear c31
         try clear c31b0
         try clear c31b1
         try clear c32
         try clear c32b0
         try clear c32b1
         try clear c35
         try clear c37
         try clear c37b0
         try clear c37b1
         try clear c41
         try clear c41b0
         try clear c41b1
         try clear c42
         try clear c43
         try clear c43b0
         try clear c43b1
         try clear c44
         try clear c44b0
         try clear c44b1
         try clear c47
         try clear c49
         try clear c49b0
         try clear c49b1
         try clear c52
         try clear c52b0
         try clear c52b1
         try clear c53
         try clear c53b0
         try clear c53b1
         try clear c54
         try clear c54b0
         try clear c54b1
         try clear c57
         try clear c59
         try clear c59b0
         try clear c59b1
         try clear hcz23_0 hcz23_1 hcz23_2 hcz23_3 hcz23_4
         try clear hcz24_0 hcz24_1 hcz24_2 hcz24_3 hcz24_4
         try clear hcz26_0 hcz26_1 hcz26_2 hcz26_3 hcz26_4
         try clear hcz28_0 hcz28_1 hcz28_2 hcz28_3 hcz28_4
         try clear hcz29_0 hcz29_1 hcz29_2 hcz29_3 hcz29_4
         try clear hcz33_0 hcz33_1 hcz33_2 hcz33_3 hcz33_4
         try clear hcz34_0 hcz34_1 hcz34_2 hcz34_3 hcz34_4
         try clear hcz36_0 hcz36_1 hcz36_2 hcz36_3 hcz36_4
         try clear hcz38_0 hcz38_1 hcz38_2 hcz38_3 hcz38_4
         try clear hcz39_0 hcz39_1 hcz39_2 hcz39_3 hcz39_4
         try clear hcz40_0 hcz40_1 hcz40_2 hcz40_3 hcz40_4
         try clear hcz45_0 hcz45_1 hcz45_2 hcz45_3 hcz45_4
         try clear hcz46_0 hcz46_1 hcz46_2 hcz46_3 hcz46_4
         try clear hcz48_0 hcz48_1 hcz48_2 hcz48_3 hcz48_4
         try clear hcz50_0 hcz50_1 hcz50_2 hcz50_3 hcz50_4
         try clear hcz51_0 hcz51_1 hcz51_2 hcz51_3 hcz51_4
         try clear hcz55_0 hcz55_1 hcz55_2 hcz55_3 hcz55_4
         try clear hcz56_0 hcz56_1 hcz56_2 hcz56_3 hcz56_4
         try clear hcz58_0 hcz58_1 hcz58_2 hcz58_3 hcz58_4
         try clear hcz60_0 hcz60_1 hcz60_2 hcz60_3 hcz60_4
         try clear hcz61_0 hcz61_1 hcz61_2 hcz61_3 hcz61_4
         try clear hcz62_0 hcz62_1 hcz62_2 hcz62_3 hcz62_4
         try clear hcz63_0 hcz63_1 hcz63_2 hcz63_3 hcz63_4
         try clear hfz10_3
         try clear hfz10_4
         try clear hfz11_0 hfz11_1 hfz11_2 hfz11_3 hfz11_4
         try clear hfz14_0 hfz14_1 hfz14_2 hfz14_3 hfz14_4
         try clear hfz16_0 hfz16_1 hfz16_2 hfz16_3 hfz16_4
         try clear hfz17_0 hfz17_1 hfz17_2 hfz17_3 hfz17_4
         try clear hfz23_0 hfz23_1 hfz23_2 hfz23_3 hfz23_4
         try clear hfz24_0 hfz24_1 hfz24_2 hfz24_3 hfz24_4
         try clear hfz26_0 hfz26_1 hfz26_2 hfz26_3 hfz26_4
         try clear hfz28_0 hfz28_1 hfz28_2 hfz28_3 hfz28_4
         try clear hfz29_0 hfz29_1 hfz29_2 hfz29_3 hfz29_4
         try clear hfz33_0 hfz33_1 hfz33_2 hfz33_3 hfz33_4
         try clear hfz34_0 hfz34_1 hfz34_2 hfz34_3 hfz34_4
         try clear hfz36_0 hfz36_1 hfz36_2 hfz36_3 hfz36_4
         try clear hfz38_0 hfz38_1 hfz38_2 hfz38_3 hfz38_4
         try clear hfz39_0 hfz39_1 hfz39_2 hfz39_3 hfz39_4
         try clear hfz40_0 hfz40_1 hfz40_2 hfz40_3 hfz40_4
         try clear hfz45_0 hfz45_1 hfz45_2 hfz45_3 hfz45_4
         try clear hfz46_0 hfz46_1 hfz46_2 hfz46_3 hfz46_4
         try clear hfz48_0 hfz48_1 hfz48_2 hfz48_3 hfz48_4
         try clear hfz50_0 hfz50_1 hfz50_2 hfz50_3 hfz50_4
         try clear hfz51_0 hfz51_1 hfz51_2 hfz51_3 hfz51_4
         try clear hfz55_0 hfz55_1 hfz55_2 hfz55_3 hfz55_4
         try clear hfz56_0 hfz56_1 hfz56_2 hfz56_3 hfz56_4
         try clear hfz58_0 hfz58_1 hfz58_2 hfz58_3 hfz58_4
         try clear hfz5_0 hfz5_1 hfz5_2 hfz5_3 hfz5_4
         try clear hfz60_0 hfz60_1 hfz60_2 hfz60_3 hfz60_4
         try clear hfz61_0 hfz61_1 hfz61_2 hfz61_3 hfz61_4
         try clear hfz62_0 hfz62_1 hfz62_2 hfz62_3 hfz62_4
         try clear hfz63_0 hfz63_1 hfz63_2 hfz63_3 hfz63_4
         try clear hfz6_0 hfz6_1 hfz6_2 hfz6_3 hfz6_4
         try clear p2
         obtain ⟨kq, x34_17, rfl, HA, HJ17, BK101, HB⟩ := hcut
         cases kq with
         | zero => exact absurd HA.out (by simp [outlawref21_Check.j3])
         | succ kj17 =>
          have H := HA.out
          clear HA
          simp only [outlawref21_Check.j3] at H
          by_cases c64 : x34_17 = true
          ·subst c64
           rw [if_pos rfl] at H
           obtain rfl := Option.some.inj H
           go_wp2
           go_ret
           exact ⟨rfl, bl_ HB⟩
          ·replace c64 := Bool.eq_false_iff.mpr c64
           subst c64
           rw [if_neg (show ¬ (false = true) by decide)] at H
           have HC65 := Aside0.mk H
           clear H
           go_upto_region 7 with (fail)
           go_cut [70] (fun v70 wc => ∃ (kq : Nat) (x70_64 : Bool), v70 = .bool x70_64 ∧ Aside0 (outlawref21_Check.j4 kq x70_64 a0_0 a0_1 a0_2 a0_3 a0_4 = some r) ∧ Aside0 (kq ≤ kj17) ∧ Aside0 (wc.heap[gb101]? = some (.cells #[.int .i64 a0_0, .int .i64 a0_1, .int .i64 a0_2, .bool a0_3, .string a0_4] 42 (0, 0))) ∧ Aside0 (Below w.heap.size w wc))
           case first =>
            have H := HC65.out
            clear HC65
            by_cases c66 : a0_2 < 0
            ·rw [if_pos c66] at H
             have c66b0 : decide (a0_2 < 0) = true := decide_eq_true c66
             clear c66
             (first | rw [c66b0] | (simp only [i64_w, i32_w]; rw [c66b0]) | skip)
             have H' := Aside0.mk H
             clear H
             obtain ⟨hcz67_0, hcz67_1, hcz67_2, hcz67_3, hcz67_4, hfz67_0, hfz67_1, hfz67_2, hfz67_3, hfz67_4⟩ := bb5_ BK101.out
             go_wp2
             all_goals
              go_meet
              case rel => exact ⟨_, (true), r_, H', ⟨by have := HJ1.out; have := HJ7.out; have := HJ11.out; have := HJ17.out; first | omega | exact Nat.le_refl _⟩, ⟨kb_ BK101⟩, ⟨bl_ HB⟩⟩
            ·rw [if_neg c66] at H
             have c66b0 : decide (a0_2 < 0) = false := decide_eq_false c66
             clear c66
             (first | rw [c66b0] | (simp only [i64_w, i32_w]; rw [c66b0]) | skip)
             by_cases c68 : a0_2 > 1152921504606846976
             ·rw [if_pos c68] at H
              have c68b0 : decide (1152921504606846976 < a0_2) = true := decide_eq_true c68
              clear c68
              have H' := Aside0.mk H
              clear H
              obtain ⟨hcz69_0, hcz69_1, hcz69_2, hcz69_3, hcz69_4, hfz69_0, hfz69_1, hfz69_2, hfz69_3, hfz69_4⟩ := bb5_ BK101.out
              go_wp2
              all_goals
               go_meet
               case rel => exact ⟨_, (true), r_, H', ⟨by have := HJ1.out; have := HJ7.out; have := HJ11.out; have := HJ17.out; first | omega | exact Nat.le_refl _⟩, ⟨kb_ BK101⟩, ⟨bl_ HB⟩⟩
             ·rw [if_neg c68] at H
              have c68b0 : decide (1152921504606846976 < a0_2) = false := decide_eq_false c68
              clear c68
              by_cases c70 : a0_0 = 2
              ·rw [if_pos c70] at H
               have c70b0 : (a0_0 == 2) = true := beq_iff_eq.mpr c70
               have c70b1 : (a0_0 != 2) = false := bne_eq_false_iff_eq.mpr c70
               clear c70
               by_cases c71 : a0_2 ≤ 4096
               ·rw [if_pos c71] at H
                have c71b0 : decide (a0_2 ≤ 4096) = true := decide_eq_true c71
                clear c71
                have H' := Aside0.mk H
                clear H
                obtain ⟨hcz72_0, hcz72_1, hcz72_2, hcz72_3, hcz72_4, hfz72_0, hfz72_1, hfz72_2, hfz72_3, hfz72_4⟩ := bb5_ BK101.out
                go_wp2
                all_goals
                 go_meet
                 case rel => exact ⟨_, (true), r_, H', ⟨by have := HJ1.out; have := HJ7.out; have := HJ11.out; have := HJ17.out; first | omega | exact Nat.le_refl _⟩, ⟨kb_ BK101⟩, ⟨bl_ HB⟩⟩
               ·rw [if_neg c71] at H
                have c71b0 : decide (a0_2 ≤ 4096) = false := decide_eq_false c71
                clear c71
                have H' := Aside0.mk H
                clear H
                obtain ⟨hcz73_0, hcz73_1, hcz73_2, hcz73_3, hcz73_4, hfz73_0, hfz73_1, hfz73_2, hfz73_3, hfz73_4⟩ := bb5_ BK101.out
                go_wp2
                all_goals
                 go_meet
                 case rel => exact ⟨_, ((a0_2 == 1152921504606846976)), r_, H', ⟨by have := HJ1.out; have := HJ7.out; have := HJ11.out; have := HJ17.out; first | omega | exact Nat.le_refl _⟩, ⟨kb_ BK101⟩, ⟨bl_ HB⟩⟩
              ·rw [if_neg c70] at H
               have c70b0 : (a0_0 == 2) = false := beq_eq_false_iff_ne.mpr c70
               have c70b1 : (a0_0 != 2) = true := bne_iff_ne.mpr c70
               have H' := Aside0.mk H
               clear H
               obtain ⟨hcz74_0, hcz74_1, hcz74_2, hcz74_3, hcz74_4, hfz74_0, hfz74_1, hfz74_2, hfz74_3, hfz74_4⟩ := bb5_ BK101.out
               go_wp2
               all_goals
                go_meet
                case rel => exact ⟨_, (false), r_, H', ⟨by have := HJ1.out; have := HJ7.out; have := HJ11.out; have := HJ17.out; first | omega | exact Nat.le_refl _⟩, ⟨kb_ BK101⟩, ⟨bl_ HB⟩⟩
           case rest =>
            clear HC65
            try clear c1
            try clear c2
            try clear p2
            try clear c3
            try clear c4
            try clear c5
            try clear c6
            try clear c7
            try clear c19
            try clear c20
            try clear c21
            try clear c21b0
            try clear c21b1
            try clear c22
            try clear c22b0
            try clear c22b1
            try clear c25
            try clear c27
            try clear c27b0
            try clear c27b1
            try clear c30
            try clear c30b0
            try clear c30b1
            try clear c31
            try clear c31b0
            try clear c31b1
            try clear c32
            try clear c32b0
            try clear c32b1
            try clear c35
            try clear c37
            try clear c37b0
            try clear c37b1
            try clear c41
            try clear c41b0
            try clear c41b1
            try clear c42
            try clear c43
            try clear c43b0
            try clear c43b1
            try clear c44
            try clear c44b0
            try clear c44b1
            try clear c47
            try clear c49
            try clear c49b0
            try clear c49b1
            try clear c52
            try clear c52b0
            try clear c52b1
            try clear c53
            try clear c53b0
            try clear c53b1
            try clear c54
            try clear c54b0
            try clear c54b1
            try clear c57
            try clear c59
            try clear c59b0
            try clear c59b1
            try clear c64
            try clear c66
            try clear c66b0
            try clear c68
            try clear c68b0
            try clear c70
            try clear c70b0
            try clear c70b1
            try clear c71
            try clear c71b0
            try clear hcz23_0 hcz23_1 hcz23_2 hcz23_3 hcz23_4
            try clear hcz24_0 hcz24_1 hcz24_2 hcz24_3 hcz24_4
            try clear hcz26_0 hcz26_1 hcz26_2 hcz26_3 hcz26_4
            try clear hcz28_0 hcz28_1 hcz28_2 hcz28_3 hcz28_4
            try clear hcz29_0 hcz29_1 hcz29_2 hcz29_3 hcz29_4
            try clear hcz33_0 hcz33_1 hcz33_2 hcz33_3 hcz33_4
            try clear hcz34_0 hcz34_1 hcz34_2 hcz34_3 hcz34_4
            try clear hcz36_0 hcz36_1 hcz36_2 hcz36_3 hcz36_4
            try clear hcz38_0 hcz38_1 hcz38_2 hcz38_3 hcz38_4
            try clear hcz39_0 hcz39_1 hcz39_2 hcz39_3 hcz39_4
            try clear hcz40_0 hcz40_1 hcz40_2 hcz40_3 hcz40_4
            try clear hcz45_0 hcz45_1 hcz45_2 hcz45_3 hcz45_4
            try clear hcz46_0 hcz46_1 hcz46_2 hcz46_3 hcz46_4
            try clear hcz48_0 hcz48_1 hcz48_2 hcz48_3 hcz48_4
            try clear hcz50_0 hcz50_1 hcz50_2 hcz50_3 hcz50_4
            try clear hcz51_0 hcz51_1 hcz51_2 hcz51_3 hcz51_4
            try clear hcz55_0 hcz55_1 hcz55_2 hcz55_3 hcz55_4
            try clear hcz56_0 hcz56_1 hcz56_2 hcz56_3 hcz56_4
            try clear hcz58_0 hcz58_1 hcz58_2 hcz58_3 hcz58_4
            try clear hcz60_0 hcz60_1 hcz60_2 hcz60_3 hcz60_4
            try clear hcz61_0 hcz61_1 hcz61_2 hcz61_3 hcz61_4
            try clear hcz62_0 hcz62_1 hcz62_2 hcz62_3 hcz62_4
            try clear hcz63_0 hcz63_1 hcz63_2 hcz63_3 hcz63_4
            try clear hcz67_0 hcz67_1 hcz67_2 hcz67_3 hcz67_4
            try clear hcz69_0 hcz69_1 hcz69_2 hcz69_3 hcz69_4
            try clear hcz72_0 hcz72_1 hcz72_2 hcz72_3 hcz72_4
            try clear hcz73_0 hcz73_1 hcz73_2 hcz73_3 hcz73_4
            try clear hcz74_0 hcz74_1 hcz74_2 hcz74_3 hcz74_4
            try clear hfz10_3
            try clear hfz10_4
            try clear hfz11_0 hfz11_1 hfz11_2 hfz11_3 hfz11_4
            try clear hfz14_0 hfz14_1 hfz14_2 hfz14_3 hfz14_4
            try clear hfz16_0 hfz16_1 hfz16_2 hfz16_3 hfz16_4
            try clear hfz17_0 hfz17_1 hfz17_2 hfz17_3 hfz17_4
            try clear hfz23_0 hfz23_1 hfz23_2 hfz23_3 hfz23_4
            try clear hfz24_0 hfz24_1 hfz24_2 hfz24_3 hfz24_4
            try clear hfz26_0 hfz26_1 hfz26_2 hfz26_3 hfz26_4
            try clear hfz28_0 hfz28_1 hfz28_2 hfz28_3 hfz28_4
            try clear hfz29_0 hfz29_1 hfz29_2 hfz29_3 hfz29_4
            try clear hfz33_0 hfz33_1 hfz33_2 hfz33_3 hfz33_4
            try clear hfz34_0 hfz34_1 hfz34_2 hfz34_3 hfz34_4
            try clear hfz36_0 hfz36_1 hfz36_2 hfz36_3 hfz36_4
            try clear hfz38_0 hfz38_1 hfz38_2 hfz38_3 hfz38_4
            try clear hfz39_0 hfz39_1 hfz39_2 hfz39_3 hfz39_4
            try clear hfz40_0 hfz40_1 hfz40_2 hfz40_3 hfz40_4
            try clear hfz45_0 hfz45_1 hfz45_2 hfz45_3 hfz45_4
            try clear hfz46_0 hfz46_1 hfz46_2 hfz46_3 hfz46_4
            try clear hfz48_0 hfz48_1 hfz48_2 hfz48_3 hfz48_4
            try clear hfz50_0 hfz50_1 hfz50_2 hfz50_3 hfz50_4
            try clear hfz51_0 hfz51_1 hfz51_2 hfz51_3 hfz51_4
            try clear hfz55_0 hfz55_1 hfz55_2 hfz55_3 hfz55_4
            try clear hfz56_0 hfz56_1 hfz56_2 hfz56_3 hfz56_4
            try clear hfz58_0 hfz58_1 hfz58_2 hfz58_3 hfz58_4
            try clear hfz5_0 hfz5_1 hfz5_2 hfz5_3 hfz5_4
            try clear hfz60_0 hfz60_1 hfz60_2 hfz60_3 hfz60_4
            try clear hfz61_0 hfz61_1 hfz61_2 hfz61_3 hfz61_4
            try clear hfz62_0 hfz62_1 hfz62_2 hfz62_3 hfz62_4
            try clear hfz63_0 hfz63_1 hfz63_2 hfz63_3 hfz63_4
            try clear hfz67_0 hfz67_1 hfz67_2 hfz67_3 hfz67_4
            try clear hfz69_0 hfz69_1 hfz69_2 hfz69_3 hfz69_4
            try clear hfz6_0 hfz6_1 hfz6_2 hfz6_3 hfz6_4
            try clear hfz72_0 hfz72_1 hfz72_2 hfz72_3 hfz72_4
            try clear hfz73_0 hfz73_1 hfz73_2 hfz73_3 hfz73_4
            try clear hfz74_0 hfz74_1 hfz74_2 hfz74_3 hfz74_4
            try clear p2
            obtain ⟨kq, x70_64, rfl, HA, HJ64, BK101, HB⟩ := hcut
            cases kq with
            | zero => exact absurd HA.out (by simp [outlawref21_Check.j4])
            | succ kj64 =>
             have H := HA.out
             clear HA
             simp only [outlawref21_Check.j4] at H
             by_cases c75 : x70_64 = true
             ·subst c75
              rw [if_pos rfl] at H
              obtain rfl := Option.some.inj H
              go_wp2
              go_ret
              exact ⟨rfl, bl_ HB⟩
             ·replace c75 := Bool.eq_false_iff.mpr c75
              subst c75
              rw [if_neg (show ¬ (false = true) by decide)] at H
              have HC76 := Aside0.mk H
              clear H
              go_upto_region 9 with (fail)
              go_cut [94] (fun v94 wc => ∃ (kq : Nat) (x94_75 : Bool), v94 = .bool x94_75 ∧ Aside0 (outlawref21_Check.j5 kq x94_75 a0_0 a0_1 a0_2 a0_3 a0_4 = some r) ∧ Aside0 (kq ≤ kj64) ∧ Aside0 (wc.heap[gb101]? = some (.cells #[.int .i64 a0_0, .int .i64 a0_1, .int .i64 a0_2, .bool a0_3, .string a0_4] 42 (0, 0))) ∧ Aside0 (Below w.heap.size w wc))
              case first =>
               have H := HC76.out
               clear HC76
               by_cases c77 : a0_1 < 0
               ·rw [if_pos c77] at H
                have c77b0 : decide (a0_1 < 0) = true := decide_eq_true c77
                clear c77
                (first | rw [c77b0] | (simp only [i64_w, i32_w]; rw [c77b0]) | skip)
                have H' := Aside0.mk H
                clear H
                obtain ⟨hcz78_0, hcz78_1, hcz78_2, hcz78_3, hcz78_4, hfz78_0, hfz78_1, hfz78_2, hfz78_3, hfz78_4⟩ := bb5_ BK101.out
                go_wp2
                all_goals
                 go_meet
                 case rel => exact ⟨_, (true), r_, H', ⟨by have := HJ1.out; have := HJ7.out; have := HJ11.out; have := HJ17.out; have := HJ64.out; first | omega | exact Nat.le_refl _⟩, ⟨kb_ BK101⟩, ⟨bl_ HB⟩⟩
               ·rw [if_neg c77] at H
                have c77b0 : decide (a0_1 < 0) = false := decide_eq_false c77
                clear c77
                (first | rw [c77b0] | (simp only [i64_w, i32_w]; rw [c77b0]) | skip)
                have H' := Aside0.mk H
                clear H
                obtain ⟨hcz79_0, hcz79_1, hcz79_2, hcz79_3, hcz79_4, hfz79_0, hfz79_1, hfz79_2, hfz79_3, hfz79_4⟩ := bb5_ BK101.out
                go_wp2
                all_goals
                 go_meet
                 case rel => exact ⟨_, (decide (a0_1 > 255)), r_, H', ⟨by have := HJ1.out; have := HJ7.out; have := HJ11.out; have := HJ17.out; have := HJ64.out; first | omega | exact Nat.le_refl _⟩, ⟨kb_ BK101⟩, ⟨bl_ HB⟩⟩
              case rest =>
               clear HC76
               try clear c1
               try clear c2
               try clear p2
               try clear c3
               try clear c4
               try clear c5
               try clear c6
               try clear c7
               try clear c19
               try clear c20
               try clear c21
               try clear c21b0
               try clear c21b1
               try clear c22
               try clear c22b0
               try clear c22b1
               try clear c25
               try clear c27
               try clear c27b0
               try clear c27b1
               try clear c30
               try clear c30b0
               try clear c30b1
               try clear c31
               try clear c31b0
               try clear c31b1
               try clear c32
               try clear c32b0
               try clear c32b1
               try clear c35
               try clear c37
               try clear c37b0
               try clear c37b1
               try clear c41
               try clear c41b0
               try clear c41b1
               try clear c42
               try clear c43
               try clear c43b0
               try clear c43b1
               try clear c44
               try clear c44b0
               try clear c44b1
               try clear c47
               try clear c49
               try clear c49b0
               try clear c49b1
               try clear c52
               try clear c52b0
               try clear c52b1
               try clear c53
               try clear c53b0
               try clear c53b1
               try clear c54
               try clear c54b0
               try clear c54b1
               try clear c57
               try clear c59
               try clear c59b0
               try clear c59b1
               try clear c64
               try clear c66
               try clear c66b0
               try clear c68
               try clear c68b0
               try clear c70
               try clear c70b0
               try clear c70b1
               try clear c71
               try clear c71b0
               try clear c75
               try clear c77
               try clear c77b0
               try clear hcz23_0 hcz23_1 hcz23_2 hcz23_3 hcz23_4
               try clear hcz24_0 hcz24_1 hcz24_2 hcz24_3 hcz24_4
               try clear hcz26_0 hcz26_1 hcz26_2 hcz26_3 hcz26_4
               try clear hcz28_0 hcz28_1 hcz28_2 hcz28_3 hcz28_4
               try clear hcz29_0 hcz29_1 hcz29_2 hcz29_3 hcz29_4
               try clear hcz33_0 hcz33_1 hcz33_2 hcz33_3 hcz33_4
               try clear hcz34_0 hcz34_1 hcz34_2 hcz34_3 hcz34_4
               try clear hcz36_0 hcz36_1 hcz36_2 hcz36_3 hcz36_4
               try clear hcz38_0 hcz38_1 hcz38_2 hcz38_3 hcz38_4
               try clear hcz39_0 hcz39_1 hcz39_2 hcz39_3 hcz39_4
               try clear hcz40_0 hcz40_1 hcz40_2 hcz40_3 hcz40_4
               try clear hcz45_0 hcz45_1 hcz45_2 hcz45_3 hcz45_4
               try clear hcz46_0 hcz46_1 hcz46_2 hcz46_3 hcz46_4
               try clear hcz48_0 hcz48_1 hcz48_2 hcz48_3 hcz48_4
               try clear hcz50_0 hcz50_1 hcz50_2 hcz50_3 hcz50_4
               try clear hcz51_0 hcz51_1 hcz51_2 hcz51_3 hcz51_4
               try clear hcz55_0 hcz55_1 hcz55_2 hcz55_3 hcz55_4
               try clear hcz56_0 hcz56_1 hcz56_2 hcz56_3 hcz56_4
               try clear hcz58_0 hcz58_1 hcz58_2 hcz58_3 hcz58_4
               try clear hcz60_0 hcz60_1 hcz60_2 hcz60_3 hcz60_4
               try clear hcz61_0 hcz61_1 hcz61_2 hcz61_3 hcz61_4
               try clear hcz62_0 hcz62_1 hcz62_2 hcz62_3 hcz62_4
               try clear hcz63_0 hcz63_1 hcz63_2 hcz63_3 hcz63_4
               try clear hcz67_0 hcz67_1 hcz67_2 hcz67_3 hcz67_4
               try clear hcz69_0 hcz69_1 hcz69_2 hcz69_3 hcz69_4
               try clear hcz72_0 hcz72_1 hcz72_2 hcz72_3 hcz72_4
               try clear hcz73_0 hcz73_1 hcz73_2 hcz73_3 hcz73_4
               try clear hcz74_0 hcz74_1 hcz74_2 hcz74_3 hcz74_4
               try clear hcz78_0 hcz78_1 hcz78_2 hcz78_3 hcz78_4
               try clear hcz79_0 hcz79_1 hcz79_2 hcz79_3 hcz79_4
               try clear hfz10_3
               try clear hfz10_4
               try clear hfz11_0 hfz11_1 hfz11_2 hfz11_3 hfz11_4
               try clear hfz14_0 hfz14_1 hfz14_2 hfz14_3 hfz14_4
               try clear hfz16_0 hfz16_1 hfz16_2 hfz16_3 hfz16_4
               try clear hfz17_0 hfz17_1 hfz17_2 hfz17_3 hfz17_4
               try clear hfz23_0 hfz23_1 hfz23_2 hfz23_3 hfz23_4
               try clear hfz24_0 hfz24_1 hfz24_2 hfz24_3 hfz24_4
               try clear hfz26_0 hfz26_1 hfz26_2 hfz26_3 hfz26_4
               try clear hfz28_0 hfz28_1 hfz28_2 hfz28_3 hfz28_4
               try clear hfz29_0 hfz29_1 hfz29_2 hfz29_3 hfz29_4
               try clear hfz33_0 hfz33_1 hfz33_2 hfz33_3 hfz33_4
               try clear hfz34_0 hfz34_1 hfz34_2 hfz34_3 hfz34_4
               try clear hfz36_0 hfz36_1 hfz36_2 hfz36_3 hfz36_4
               try clear hfz38_0 hfz38_1 hfz38_2 hfz38_3 hfz38_4
               try clear hfz39_0 hfz39_1 hfz39_2 hfz39_3 hfz39_4
               try clear hfz40_0 hfz40_1 hfz40_2 hfz40_3 hfz40_4
               try clear hfz45_0 hfz45_1 hfz45_2 hfz45_3 hfz45_4
               try clear hfz46_0 hfz46_1 hfz46_2 hfz46_3 hfz46_4
               try clear hfz48_0 hfz48_1 hfz48_2 hfz48_3 hfz48_4
               try clear hfz50_0 hfz50_1 hfz50_2 hfz50_3 hfz50_4
               try clear hfz51_0 hfz51_1 hfz51_2 hfz51_3 hfz51_4
               try clear hfz55_0 hfz55_1 hfz55_2 hfz55_3 hfz55_4
               try clear hfz56_0 hfz56_1 hfz56_2 hfz56_3 hfz56_4
               try clear hfz58_0 hfz58_1 hfz58_2 hfz58_3 hfz58_4
               try clear hfz5_0 hfz5_1 hfz5_2 hfz5_3 hfz5_4
               try clear hfz60_0 hfz60_1 hfz60_2 hfz60_3 hfz60_4
               try clear hfz61_0 hfz61_1 hfz61_2 hfz61_3 hfz61_4
               try clear hfz62_0 hfz62_1 hfz62_2 hfz62_3 hfz62_4
               try clear hfz63_0 hfz63_1 hfz63_2 hfz63_3 hfz63_4
               try clear hfz67_0 hfz67_1 hfz67_2 hfz67_3 hfz67_4
               try clear hfz69_0 hfz69_1 hfz69_2 hfz69_3 hfz69_4
               try clear hfz6_0 hfz6_1 hfz6_2 hfz6_3 hfz6_4
               try clear hfz72_0 hfz72_1 hfz72_2 hfz72_3 hfz72_4
               try clear hfz73_0 hfz73_1 hfz73_2 hfz73_3 hfz73_4
               try clear hfz74_0 hfz74_1 hfz74_2 hfz74_3 hfz74_4
               try clear hfz78_0 hfz78_1 hfz78_2 hfz78_3 hfz78_4
               try clear hfz79_0 hfz79_1 hfz79_2 hfz79_3 hfz79_4
               try clear p2
               obtain ⟨kq, x94_75, rfl, HA, HJ75, BK101, HB⟩ := hcut
               cases kq with
               | zero => exact absurd HA.out (by simp [outlawref21_Check.j5])
               | succ kj75 =>
                have H := HA.out
                clear HA
                simp only [outlawref21_Check.j5] at H
                by_cases c80 : x94_75 = true
                ·subst c80
                 rw [if_pos rfl] at H
                 obtain rfl := Option.some.inj H
                 go_wp2
                 go_ret
                 exact ⟨rfl, bl_ HB⟩
                ·replace c80 := Bool.eq_false_iff.mpr c80
                 subst c80
                 rw [if_neg (show ¬ (false = true) by decide)] at H
                 by_cases c81 : a0_0 = 1
                 ·rw [if_pos c81] at H
                  have c81b0 : (a0_0 == 1) = true := beq_iff_eq.mpr c81
                  have c81b1 : (a0_0 != 1) = false := bne_eq_false_iff_eq.mpr c81
                  clear c81
                  by_cases c82 : (a0_4.size : Int) > 4096
                  ·rw [if_pos c82] at H
                   have c82b0 : decide (4096 < (a0_4.size : Int)) = true := decide_eq_true c82
                   have c82b1 : decide (4096 < a0_4.size) = true := decide_eq_true (by omega)
                   clear c82
                   obtain rfl := Option.some.inj H
                   obtain ⟨hcz83_0, hcz83_1, hcz83_2, hcz83_3, hcz83_4, hfz83_0, hfz83_1, hfz83_2, hfz83_3, hfz83_4⟩ := bb5_ BK101.out
                   go_wp2
                   go_ret
                   exact ⟨rfl, bl_ HB⟩
                  ·rw [if_neg c82] at H
                   have c82b0 : decide (4096 < (a0_4.size : Int)) = false := decide_eq_false c82
                   have c82b1 : decide (4096 < a0_4.size) = false := decide_eq_false (by omega)
                   clear c82
                   by_cases c84 : a0_0 = 5
                   ·rw [if_pos c84] at H
                    have c84b0 : (a0_0 == 5) = true := beq_iff_eq.mpr c84
                    have c84b1 : (a0_0 != 5) = false := bne_eq_false_iff_eq.mpr c84
                    clear c84
                    by_cases c85 : (a0_4.size : Int) > 300
                    ·rw [if_pos c85] at H
                     have c85b0 : decide (300 < (a0_4.size : Int)) = true := decide_eq_true c85
                     have c85b1 : decide (300 < a0_4.size) = true := decide_eq_true (by omega)
                     clear c85
                     obtain rfl := Option.some.inj H
                     obtain ⟨hcz86_0, hcz86_1, hcz86_2, hcz86_3, hcz86_4, hfz86_0, hfz86_1, hfz86_2, hfz86_3, hfz86_4⟩ := bb5_ BK101.out
                     go_wp2
                     go_ret
                     exact ⟨rfl, bl_ HB⟩
                    ·rw [if_neg c85] at H
                     have c85b0 : decide (300 < (a0_4.size : Int)) = false := decide_eq_false c85
                     have c85b1 : decide (300 < a0_4.size) = false := decide_eq_false (by omega)
                     clear c85
                     obtain rfl := Option.some.inj H
                     obtain ⟨hcz87_0, hcz87_1, hcz87_2, hcz87_3, hcz87_4, hfz87_0, hfz87_1, hfz87_2, hfz87_3, hfz87_4⟩ := bb5_ BK101.out
                     go_wp2
                     go_ret
                     exact ⟨rfl, bl_ HB⟩
                   ·rw [if_neg c84] at H
                    have c84b0 : (a0_0 == 5) = false := beq_eq_false_iff_ne.mpr c84
                    have c84b1 : (a0_0 != 5) = true := bne_iff_ne.mpr c84
                    obtain rfl := Option.some.inj H
                    obtain ⟨hcz88_0, hcz88_1, hcz88_2, hcz88_3, hcz88_4, hfz88_0, hfz88_1, hfz88_2, hfz88_3, hfz88_4⟩ := bb5_ BK101.out
                    go_wp2
                    go_ret
                    exact ⟨rfl, bl_ HB⟩
                 ·rw [if_neg c81] at H
                  have c81b0 : (a0_0 == 1) = false := beq_eq_false_iff_ne.mpr c81
                  have c81b1 : (a0_0 != 1) = true := bne_iff_ne.mpr c81
                  by_cases c89 : a0_0 = 5
                  ·rw [if_pos c89] at H
                   have c89b0 : (a0_0 == 5) = true := beq_iff_eq.mpr c89
                   have c89b1 : (a0_0 != 5) = false := bne_eq_false_iff_eq.mpr c89
                   clear c89
                   by_cases c90 : (a0_4.size : Int) > 300
                   ·rw [if_pos c90] at H
                    have c90b0 : decide (300 < (a0_4.size : Int)) = true := decide_eq_true c90
                    have c90b1 : decide (300 < a0_4.size) = true := decide_eq_true (by omega)
                    clear c90
                    obtain rfl := Option.some.inj H
                    obtain ⟨hcz91_0, hcz91_1, hcz91_2, hcz91_3, hcz91_4, hfz91_0, hfz91_1, hfz91_2, hfz91_3, hfz91_4⟩ := bb5_ BK101.out
                    go_wp2
                    go_ret
                    exact ⟨rfl, bl_ HB⟩
                   ·rw [if_neg c90] at H
                    have c90b0 : decide (300 < (a0_4.size : Int)) = false := decide_eq_false c90
                    have c90b1 : decide (300 < a0_4.size) = false := decide_eq_false (by omega)
                    clear c90
                    obtain rfl := Option.some.inj H
                    obtain ⟨hcz92_0, hcz92_1, hcz92_2, hcz92_3, hcz92_4, hfz92_0, hfz92_1, hfz92_2, hfz92_3, hfz92_4⟩ := bb5_ BK101.out
                    go_wp2
                    go_ret
                    exact ⟨rfl, bl_ HB⟩
                  ·rw [if_neg c89] at H
                   have c89b0 : (a0_0 == 5) = false := beq_eq_false_iff_ne.mpr c89
                   have c89b1 : (a0_0 != 5) = true := bne_iff_ne.mpr c89
                   obtain rfl := Option.some.inj H
                   obtain ⟨hcz93_0, hcz93_1, hcz93_2, hcz93_3, hcz93_4, hfz93_0, hfz93_1, hfz93_2, hfz93_3, hfz93_4⟩ := bb5_ BK101.out
                   go_wp2
                   go_ret
                   exact ⟨rfl, bl_ HB⟩
end Go.Proofs.Ytfgibjkgiolonaa.PR
