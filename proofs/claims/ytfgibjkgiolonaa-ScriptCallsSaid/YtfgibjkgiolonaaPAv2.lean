import Derived.Test.YtfgibjkgiolonaaWm
import Derived.Test.YtfgibjkgiolonaaPAv1
namespace Go.Proofs.Ytfgibjkgiolonaa.PA
open Go.RowKit Go.Proofs.YtfgibjkgiolonaaW.PrintWords Go.Proofs.YtfgibjkgiolonaaW.PrintLast Go.Proofs.YtfgibjkgiolonaaW.PrintMore Go.Proofs.YtfgibjkgiolonaaG Go.Proofs.YtfgibjkgiolonaaX Go.Proofs.YtfgibjkgiolonaaI Go.Proofs.Ytfgibjkgiolonaa.PR
abbrev va2_ : ByteArray := (⟨#[]⟩ : ByteArray)
attribute [local go_sem] max2_int min2_int max_two min_two max_three min_three max_four min_four
set_option linter.unusedVariables false
set_option linter.unusedSimpArgs false
def outlawref25_cuts.f (k : Nat) (s0_0 : ByteArray) (s0_1 : Int) (a1 : Int) : Option (Int × ByteArray × Int) := if a1 = 0 then (some (0, s0_0, s0_1)) else (if s0_1 = 0 then ((outlawref25_reader_number.f k s0_0 s0_1 1).bind fun bt285 => (some (bt285.1, bt285.2.1, bt285.2.2))) else (some (0, s0_0, s0_1)))
theorem outlawref25_cuts.mono : ∀ a0 a1 a2 k, LeO (outlawref25_cuts.f k a0 a1 a2) (outlawref25_cuts.f (k + 1) a0 a1 a2) := by
 intro a0 a1 a2 k
 unfold outlawref25_cuts.f
 repeat' first
   | (with_reducible exact outlawref25_reader_number.mono _ _ _ _)
   | (with_reducible exact LeO.refl _)
   | (with_reducible exact LeO.none _)
   | (with_reducible refine LeO.ite ?_ ?_)
   | (with_reducible refine LeO.bind ?_ (fun _ => ?_))
   | refine LeO.ite ?_ ?_
   | refine LeO.bind ?_ (fun _ => ?_)
set_option maxHeartbeats 8000000 in
set_option maxRecDepth 100000 in
theorem outlawref25_cuts.calls (k : Nat) (g : Nat) (s0_0 : ByteArray) (s0_1 : Int) (a1 : Int) (r1 : Int) (r2 : ByteArray) (r3 : Int) (w0 w : World) (hI : IsS67 w0 w g s0_0 s0_1) (hB : Below w0.heap.size w0 w) (h : outlawref25_cuts.f k s0_0 s0_1 a1 = some (r1, r2, r3)) :
  Calls Try.prog 59 #[.pointer (some ⟨g, 0, none⟩), .int .i64 a1] w fun e w' => e = .returned (.int .i64 r1) ∧ IsS67 w0 w' g r2 r3 ∧ Below w0.heap.size w0 w' ∧ KeepBut w w' g none := by
 have HI0 := Aside0.mk hI
 have HK := Aside0.mk (KeepBut.refl w g none)
 have HL := Aside0.mk hB.size
 clear hI
 have HW0 := Aside0.mk hB.size
 have HB := Aside0.mk hB
 clear hB
 have H : (if a1 = 0 then (some (0, s0_0, s0_1)) else (if s0_1 = 0 then ((outlawref25_reader_number.f k s0_0 s0_1 1).bind fun bt285 => (some (bt285.1, bt285.2.1, bt285.2.2))) else (some (0, s0_0, s0_1)))) = some (r1, r2, r3) := h
 clear h
 by_cases c3 : a1 = 0
 ·rw [if_pos c3] at H
  have c3b0 : (a1 == 0) = true := beq_iff_eq.mpr c3
  have c3b1 : (a1 != 0) = false := bne_eq_false_iff_eq.mpr c3
  clear c3
  simp only [Option.some.injEq, Prod.mk.injEq] at H
  obtain ⟨rfl, rfl, rfl⟩ := H
  go_enter Try.func59, Try.ntmps59
  go_wp2
  go_ret
  exact ⟨rfl, by repeat (first | (with_reducible first | exact HI0.out | apply IsS67.alloc | apply IsS67.drewN | apply IsS67.drew | apply IsS67.set_0 | apply IsS67.set_1) | exact HI0.out), by repeat (first | (with_reducible first | exact HB.out | apply a1_ | apply a2_ | apply a3_ | refine below_set ?_ (IsS67.ge HI0.out)) | exact HB.out), by repeat (first | (with_reducible first | exact HK.out | apply KeepBut.set_ | apply keep_drewN | apply keep_drew | apply keep_alloc) | exact HK.out)⟩
 ·rw [if_neg c3] at H
  have c3b0 : (a1 == 0) = false := beq_eq_false_iff_ne.mpr c3
  have c3b1 : (a1 != 0) = true := bne_iff_ne.mpr c3
  by_cases c4 : s0_1 = 0
  ·rw [if_pos c4] at H
   have c4b0 : (s0_1 == 0) = true := beq_iff_eq.mpr c4
   have c4b1 : (s0_1 != 0) = false := bne_eq_false_iff_eq.mpr c4
   clear c4
   replace H := Option.bind_eq_some_iff.mp H
   obtain ⟨⟨t285, t286, t287⟩, A50, H⟩ := H
   have A5 := Aside0.mk A50
   clear A50
   simp only [Option.some.injEq, Prod.mk.injEq] at H
   obtain ⟨rfl, rfl, rfl⟩ := H
   obtain ⟨HGz6, hgz6⟩ := HI0.out
   have hcz6_0 := cellS67_0 HGz6
   have hcz6_1 := cellS67_1 HGz6
   have hfz6_0 := blk_frozen HGz6 0
   have hfz6_1 := blk_frozen HGz6 1
   clear HGz6 hgz6
   go_enter Try.func59, Try.ntmps59
   go_wp2_with (first | ((with_reducible refine gate_callee (f := 41) rfl ?_); refine gl_ (some 15) Try.func41 #[.pointer (some ⟨g, 0, none⟩), .int .i64 1] ?_; (with_reducible refine (outlawref25_reader_number.calls k g s0_0 s0_1 1 t285 t286 t287 w0 _ ?side1 ?side2 A5.out).mono ?_); (case side1 => repeat (first | (with_reducible first | exact HI0.out | apply IsS67.alloc | apply IsS67.drewN | apply IsS67.drew | apply IsS67.set_0 | apply IsS67.set_1) | exact HI0.out)); (case side2 => repeat (first | (with_reducible first | exact HB.out | apply a1_ | apply a2_ | apply a3_ | refine below_set ?_ (IsS67.ge HI0.out)) | exact HB.out)); rintro e w7 ⟨rfl, hi, hb, hk⟩; refine ⟨_, rfl, ?_⟩; have n0_ := Aside0.mk (KeepBut.trans (by repeat (first | (with_reducible first | exact HK.out | apply KeepBut.set_ | apply keep_drewN | apply keep_drew | apply keep_alloc) | exact HK.out)) hk (.inl rfl)); have n1_ := Aside0.mk (hb); have n2_ := Aside0.mk (hi); clear HK; clear HB; clear HI0; have HK := n0_; have HB := n1_; have HI0 := n2_; clear n0_ n1_ n2_; (try clear hb); (try clear hk)))
   go_ret
   exact ⟨rfl, by repeat (first | (with_reducible first | exact HI0.out | apply IsS67.alloc | apply IsS67.drewN | apply IsS67.drew | apply IsS67.set_0 | apply IsS67.set_1) | exact HI0.out), by repeat (first | (with_reducible first | exact HB.out | apply a1_ | apply a2_ | apply a3_ | refine below_set ?_ (IsS67.ge HI0.out)) | exact HB.out), by repeat (first | (with_reducible first | exact HK.out | apply KeepBut.set_ | apply keep_drewN | apply keep_drew | apply keep_alloc) | exact HK.out)⟩
  ·rw [if_neg c4] at H
   have c4b0 : (s0_1 == 0) = false := beq_eq_false_iff_ne.mpr c4
   have c4b1 : (s0_1 != 0) = true := bne_iff_ne.mpr c4
   simp only [Option.some.injEq, Prod.mk.injEq] at H
   obtain ⟨rfl, rfl, rfl⟩ := H
   obtain ⟨HGz8, hgz8⟩ := HI0.out
   have hcz8_0 := cellS67_0 HGz8
   have hcz8_1 := cellS67_1 HGz8
   have hfz8_0 := blk_frozen HGz8 0
   have hfz8_1 := blk_frozen HGz8 1
   clear HGz8 hgz8
   go_enter Try.func59, Try.ntmps59
   go_wp2
   go_ret
   exact ⟨rfl, by repeat (first | (with_reducible first | exact HI0.out | apply IsS67.alloc | apply IsS67.drewN | apply IsS67.drew | apply IsS67.set_0 | apply IsS67.set_1) | exact HI0.out), by repeat (first | (with_reducible first | exact HB.out | apply a1_ | apply a2_ | apply a3_ | refine below_set ?_ (IsS67.ge HI0.out)) | exact HB.out), by repeat (first | (with_reducible first | exact HK.out | apply KeepBut.set_ | apply keep_drewN | apply keep_drew | apply keep_alloc) | exact HK.out)⟩
mutual
def outlawref25_reader_step.j0 : Nat → Int → Bool → ByteArray → Int → Option (Bool × Int × Int × Int × Bool × ByteArray × List Int × ByteArray × Int)
 | 0, _, _, _, _ => none
 | k + 1, x3, x19, x1000, x1001 => if x19 = true then (outlawref25_reader_step.j1 k x3 x1000 5) else (outlawref25_reader_step.j1 k x3 x1000 x1001)
def outlawref25_reader_step.j1 : Nat → Int → ByteArray → Int → Option (Bool × Int × Int × Int × Bool × ByteArray × List Int × ByteArray × Int)
 | 0, _, _, _ => none
 | k + 1, x3, x1000, x1001 => (outlawref25_reader_number.f k x1000 x1001 2).bind fun bt292 => ((outlawref25_reader_take.f k bt292.2.1 bt292.2.2 bt292.1).bind fun bt295 => (if bt295.2.2 = 0 then ((outlawref21_Read.f bt295.1).bind fun bt298 => ((outlawref25_cuts.f k bt295.2.1 bt298.2.2.2.2.2 x3).bind fun bt306 => (outlawref25_reader_step.l0 k bt306.1 bt306.2.1 bt306.2.2 (x3 == 1) bt298.1 bt298.2.1 bt298.2.2.1 bt298.2.2.2.1 bt298.2.2.2.2.1 ([] : List Int)))) else (some (false, 0, 0, 0, false, va2_, ([] : List Int), bt295.2.1, bt295.2.2))))
def outlawref25_reader_step.l0 : Nat → Int → ByteArray → Int → Bool → Int → Int → Int → Bool → ByteArray → List Int → Option (Bool × Int × Int × Int × Bool × ByteArray × List Int × ByteArray × Int)
 | 0, _, _, _, _, _, _, _, _, _, _ => none
 | k + 1, x8, x1000, x1001, x306000, x306001, x306002, x306003, x306004, x306005, x306006 => if x8 > 0 then (if x1001 = 0 then ((outlawref25_reader_number.f k x1000 x1001 2).bind fun bt309 => (if x306006.length < 17592186044416 then (outlawref25_reader_step.l0 k (wrap64 (x8 - 1)) bt309.2.1 bt309.2.2 x306000 x306001 x306002 x306003 x306004 x306005 (x306006 ++ [bt309.1])) else (none))) else (some (x306000, x306001, x306002, x306003, x306004, x306005, x306006, x1000, x1001))) else (some (x306000, x306001, x306002, x306003, x306004, x306005, x306006, x1000, x1001))
end
def outlawref25_reader_step.f (k : Nat) (s0_0 : ByteArray) (s0_1 : Int) : Option (Bool × Int × Int × Int × Bool × ByteArray × List Int × ByteArray × Int) := (outlawref25_reader_number.f k s0_0 s0_1 1).bind fun bt289 => (if bt289.2.2 = 0 then (outlawref25_reader_step.j0 k bt289.1 (decide (bt289.1 > 1)) bt289.2.1 bt289.2.2) else (outlawref25_reader_step.j0 k bt289.1 false bt289.2.1 bt289.2.2))
theorem outlawref25_reader_step.mono_l : ∀ k, (∀ y0 y1 y2 y3, LeO (outlawref25_reader_step.j0 k y0 y1 y2 y3) (outlawref25_reader_step.j0 (k + 1) y0 y1 y2 y3)) ∧ (∀ y0 y1 y2, LeO (outlawref25_reader_step.j1 k y0 y1 y2) (outlawref25_reader_step.j1 (k + 1) y0 y1 y2)) ∧ (∀ y0 y1 y2 y3 y4 y5 y6 y7 y8 y9, LeO (outlawref25_reader_step.l0 k y0 y1 y2 y3 y4 y5 y6 y7 y8 y9) (outlawref25_reader_step.l0 (k + 1) y0 y1 y2 y3 y4 y5 y6 y7 y8 y9))
 | 0 => ⟨fun _ _ _ _ r h => by simp [outlawref25_reader_step.j0] at h, fun _ _ _ r h => by simp [outlawref25_reader_step.j1] at h, fun _ _ _ _ _ _ _ _ _ _ r h => by simp [outlawref25_reader_step.l0] at h⟩
 | k + 1 => by
  obtain ⟨ih0, ih1, ih2⟩ := outlawref25_reader_step.mono_l k
  refine ⟨?_, ?_, ?_⟩
  ·intro y0 y1 y2 y3
   unfold outlawref25_reader_step.j0
   repeat' first
   | (with_reducible exact ih0 _ _ _ _)
   | (with_reducible exact ih1 _ _ _)
   | (with_reducible exact ih2 _ _ _ _ _ _ _ _ _ _)
   | (with_reducible exact outlawref25_cuts.mono _ _ _ _)
   | (with_reducible exact outlawref25_reader_number.mono _ _ _ _)
   | (with_reducible exact outlawref25_reader_take.mono _ _ _ _)
   | (with_reducible exact LeO.refl _)
   | (with_reducible exact LeO.none _)
   | (with_reducible refine LeO.ite ?_ ?_)
   | (with_reducible refine LeO.bind ?_ (fun _ => ?_))
   | refine LeO.ite ?_ ?_
   | refine LeO.bind ?_ (fun _ => ?_)
  ·intro y0 y1 y2
   unfold outlawref25_reader_step.j1
   repeat' first
   | (with_reducible exact ih0 _ _ _ _)
   | (with_reducible exact ih1 _ _ _)
   | (with_reducible exact ih2 _ _ _ _ _ _ _ _ _ _)
   | (with_reducible exact outlawref25_cuts.mono _ _ _ _)
   | (with_reducible exact outlawref25_reader_number.mono _ _ _ _)
   | (with_reducible exact outlawref25_reader_take.mono _ _ _ _)
   | (with_reducible exact LeO.refl _)
   | (with_reducible exact LeO.none _)
   | (with_reducible refine LeO.ite ?_ ?_)
   | (with_reducible refine LeO.bind ?_ (fun _ => ?_))
   | refine LeO.ite ?_ ?_
   | refine LeO.bind ?_ (fun _ => ?_)
  ·intro y0 y1 y2 y3 y4 y5 y6 y7 y8 y9
   unfold outlawref25_reader_step.l0
   repeat' first
   | (with_reducible exact ih0 _ _ _ _)
   | (with_reducible exact ih1 _ _ _)
   | (with_reducible exact ih2 _ _ _ _ _ _ _ _ _ _)
   | (with_reducible exact outlawref25_cuts.mono _ _ _ _)
   | (with_reducible exact outlawref25_reader_number.mono _ _ _ _)
   | (with_reducible exact outlawref25_reader_take.mono _ _ _ _)
   | (with_reducible exact LeO.refl _)
   | (with_reducible exact LeO.none _)
   | (with_reducible refine LeO.ite ?_ ?_)
   | (with_reducible refine LeO.bind ?_ (fun _ => ?_))
   | refine LeO.ite ?_ ?_
   | refine LeO.bind ?_ (fun _ => ?_)
theorem outlawref25_reader_step.mono : ∀ a0 a1 k, LeO (outlawref25_reader_step.f k a0 a1) (outlawref25_reader_step.f (k + 1) a0 a1) := by
 intro a0 a1 k
 obtain ⟨ih0, ih1, ih2⟩ := outlawref25_reader_step.mono_l k
 unfold outlawref25_reader_step.f
 repeat' first
   | (with_reducible exact ih0 _ _ _ _)
   | (with_reducible exact ih1 _ _ _)
   | (with_reducible exact ih2 _ _ _ _ _ _ _ _ _ _)
   | (with_reducible exact outlawref25_cuts.mono _ _ _ _)
   | (with_reducible exact outlawref25_reader_number.mono _ _ _ _)
   | (with_reducible exact outlawref25_reader_take.mono _ _ _ _)
   | (with_reducible exact LeO.refl _)
   | (with_reducible exact LeO.none _)
   | (with_reducible refine LeO.ite ?_ ?_)
   | (with_reducible refine LeO.bind ?_ (fun _ => ?_))
   | refine LeO.ite ?_ ?_
   | refine LeO.bind ?_ (fun _ => ?_)
def outlawref25_reader_step.T13 : Bool × List (List Nat × List Nat) := (true, [([], []), ([0], [0]), ([], []), ([2], [2]), ([3], [3]), ([1, 4, 3], [1, 4]), ([0, 1, 2, 3, 4, 5], []), ([6, 5, 5, 0, 1, 2, 3, 4, 5], [5, 6])])
def outlawref25_reader_step.B13 : List Nat := [0, 1, 0, 4, 12, 31, 63, 127]
theorem outlawref25_reader_step.tab13 : rtab .any (opsOf Try.f42 13) = outlawref25_reader_step.T13 := by kernel_rfl
theorem outlawref25_reader_step.bits13 : waitsOk outlawref25_reader_step.T13.2 outlawref25_reader_step.B13 = true := by kernel_rfl
set_option maxHeartbeats 8000000 in
set_option maxRecDepth 100000 in
theorem outlawref25_reader_step.calls (k : Nat) (g : Nat) (s0_0 : ByteArray) (s0_1 : Int) (r1 : Bool) (r2 : Int) (r3 : Int) (r4 : Int) (r5 : Bool) (r6 : ByteArray) (r7 : List Int) (r8 : ByteArray) (r9 : Int) (w0 w : World) (hI : IsS67 w0 w g s0_0 s0_1) (hB : Below w0.heap.size w0 w) (h : outlawref25_reader_step.f k s0_0 s0_1 = some (r1, r2, r3, r4, r5, r6, r7, r8, r9)) :
  Calls Try.prog 42 #[.pointer (some ⟨g, 0, none⟩)] w fun e w' => ∃ v6_ : Value, e = .returned (.agg #[.bool r1, .int .i64 r2, .int .i64 r3, .int .i64 r4, .bool r5, .string r6, v6_]) ∧ Kd.R (Kd.int .i64) 3 w' w.heap.size (fun _ => True) v6_ r7 ∧ IsS67 w0 w' g r8 r9 ∧ Below w0.heap.size w0 w' ∧ KeepBut w w' g none := by
 have hu45 := Try.underlying45
 have hu42 := Try.underlying42
 have HI0 := Aside0.mk hI
 have HK := Aside0.mk (KeepBut.refl w g none)
 have HL := Aside0.mk hB.size
 clear hI
 have HW0 := Aside0.mk hB.size
 have HB := Aside0.mk hB
 clear hB
 have H : ((outlawref25_reader_number.f k s0_0 s0_1 1).bind fun bt289 => (if bt289.2.2 = 0 then (outlawref25_reader_step.j0 k bt289.1 (decide (bt289.1 > 1)) bt289.2.1 bt289.2.2) else (outlawref25_reader_step.j0 k bt289.1 false bt289.2.1 bt289.2.2))) = some (r1, r2, r3, r4, r5, r6, r7, r8, r9) := h
 clear h
 replace H := Option.bind_eq_some_iff.mp H
 obtain ⟨⟨t289, t290, t291⟩, A20, H⟩ := H
 have A2 := Aside0.mk A20
 clear A20
 have HC3 := Aside0.mk H
 clear H
 go_enter Try.func42, Try.ntmps42
 go_upto_region 2 with (first | ((with_reducible refine gate_dst (N := 2) rfl ?_); refine be_ 2 #[.bool false, .int .i64 0, .int .i64 0, .int .i64 0, .bool false, .string va2_, .slice none 0 0] 45 ?_; intro gb288 hg w4 hbox hb; have n0_ := Aside0.mk (IsS67.below (by repeat (first | (with_reducible first | exact HI0.out | apply IsS67.alloc | apply IsS67.drewN | apply IsS67.drew | apply IsS67.set_0 | apply IsS67.set_1) | exact HI0.out)) hb); have n1_ := Aside0.mk (KeepBut.trans (by repeat (first | (with_reducible first | exact HK.out | apply KeepBut.set_ | apply keep_drewN | apply keep_drew | apply keep_alloc) | exact HK.out)) (KeepBut.of_below hb g none) (.inl rfl)); have n2_ := Aside0.mk (below_step (by repeat (first | (with_reducible first | exact HB.out | apply a1_ | apply a2_ | apply a3_ | refine below_set ?_ (IsS67.ge HI0.out)) | exact HB.out)) hb); have n3_ := Aside0.mk (hbox); have n4_ := Aside0.mk ((by rw [hg]; exact (keep_size (w := w) (g := g) (row := none) (by repeat (first | (with_reducible first | exact HK.out | apply KeepBut.set_ | apply keep_drewN | apply keep_drew | apply keep_alloc) | exact HK.out))) : w.heap.size ≤ gb288)); have n5_ := Aside0.mk ((Nat.le_trans HW0.out (by rw [hg]; exact (keep_size (w := w) (g := g) (row := none) (by repeat (first | (with_reducible first | exact HK.out | apply KeepBut.set_ | apply keep_drewN | apply keep_drew | apply keep_alloc) | exact HK.out))) : w.heap.size ≤ gb288) : w0.heap.size ≤ gb288)); have n6_ := Aside0.mk ((by rw [hg]; exact Nat.ne_of_lt (IsS67.lt (show IsS67 w0 _ g s0_0 s0_1 from by repeat (first | (with_reducible first | exact HI0.out | apply IsS67.alloc | apply IsS67.drewN | apply IsS67.drew | apply IsS67.set_0 | apply IsS67.set_1) | exact HI0.out))) : g ≠ gb288)); have n7_ := Aside0.mk ((by rw [hg]; exact Nat.ne_of_gt (IsS67.lt (show IsS67 w0 _ g s0_0 s0_1 from by repeat (first | (with_reducible first | exact HI0.out | apply IsS67.alloc | apply IsS67.drewN | apply IsS67.drew | apply IsS67.set_0 | apply IsS67.set_1) | exact HI0.out))) : gb288 ≠ g)); clear HI0; clear HK; clear HB; have HI0 := n0_; have HK := n1_; have HB := n2_; have BK288 := n3_; have GW288 := n4_; have GE288 := n5_; have NB0_288 := n6_; have NB288_0 := n7_; clear n0_ n1_ n2_ n3_ n4_ n5_ n6_ n7_; clear hb hbox hg) | ((with_reducible refine gate_callee (f := 41) rfl ?_); refine gl_ (some 10) Try.func41 #[.pointer (some ⟨g, 0, none⟩), .int .i64 1] ?_; (with_reducible refine (outlawref25_reader_number.calls k g s0_0 s0_1 1 t289 t290 t291 w0 _ ?side1 ?side2 A2.out).mono ?_); (case side1 => repeat (first | (with_reducible first | exact HI0.out | apply IsS67.alloc | apply IsS67.drewN | apply IsS67.drew | apply IsS67.set_0 | apply IsS67.set_1 | apply IsS67.far (hne := NB0_288.out)) | exact HI0.out)); (case side2 => repeat (first | (with_reducible first | exact HB.out | apply a1_ | apply a2_ | apply a3_ | refine below_set ?_ (IsS67.ge HI0.out) | refine below_set ?_ GE288.out) | exact HB.out)); rintro e w5 ⟨rfl, hi, hb, hk⟩; refine ⟨_, rfl, ?_⟩; have n0_ := Aside0.mk (KeepBut.blk hk (g' := gb288) (o := .cells #[.bool false, .int .i64 0, .int .i64 0, .int .i64 0, .bool false, .string va2_, .slice none 0 0] 45 (0, 0)) (kb_ BK288) NB288_0.out (by simp)); have n1_ := Aside0.mk (KeepBut.trans (by repeat (first | (with_reducible first | exact HK.out | apply KeepBut.set_ | apply keep_drewN | apply keep_drew | apply keep_alloc | refine keep_far ?_ GW288.out _) | exact HK.out)) hk (.inl rfl)); have n2_ := Aside0.mk (hb); have n3_ := Aside0.mk (hi); clear BK288; clear HK; clear HB; clear HI0; have BK288 := n0_; have HK := n1_; have HB := n2_; have HI0 := n3_; clear n0_ n1_ n2_ n3_; (try clear hb); (try clear hk)))
 (try simp only [Act.put, List.setIfInBounds_toArray, List.set_cons_zero, List.set_cons_succ])
 go_cut [19] (fun v19 wc => ∃ (kq : Nat) (x19_2 : Bool), v19 = .bool x19_2 ∧ Aside0 (outlawref25_reader_step.j0 kq t289 x19_2 t290 t291 = some (r1, r2, r3, r4, r5, r6, r7, r8, r9)) ∧ Aside0 (kq ≤ k) ∧ Aside0 (wc.heap[gb288]? = some (.cells #[.bool false, .int .i64 0, .int .i64 0, .int .i64 0, .bool false, .string va2_, (.slice none 0 0)] 45 (0, 0))) ∧ Aside0 (IsS67 w0 wc g t290 t291) ∧ Aside0 (KeepBut w wc g none) ∧ Aside0 (Below w0.heap.size w0 wc))
 case first =>
  have H := HC3.out
  clear HC3
  by_cases c6 : t291 = 0
  ·rw [if_pos c6] at H
   have c6b0 : (t291 == 0) = true := beq_iff_eq.mpr c6
   have c6b1 : (t291 != 0) = false := bne_eq_false_iff_eq.mpr c6
   clear c6
   (first | rw [c6b0] | (simp only [i64_w, i32_w]; rw [c6b0]) | skip)
   have H' := Aside0.mk H
   clear H
   obtain ⟨HGz7, hgz7⟩ := HI0.out
   have hcz7_0 := cellS67_0 HGz7
   have hcz7_1 := cellS67_1 HGz7
   have hfz7_0 := blk_frozen HGz7 0
   have hfz7_1 := blk_frozen HGz7 1
   clear HGz7 hgz7
   go_wp2
   all_goals
    go_meet
    case rel => exact ⟨_, (decide (t289 > 1)), r_, H', ⟨by first | omega | exact Nat.le_refl _⟩, ⟨kb_ BK288⟩, ⟨by repeat (first | (with_reducible first | exact HI0.out | apply IsS67.alloc | apply IsS67.drewN | apply IsS67.drew | apply IsS67.set_0 | apply IsS67.set_1 | apply IsS67.far (hne := NB0_288.out)) | exact HI0.out)⟩, ⟨by repeat (first | (with_reducible first | exact HK.out | apply KeepBut.set_ | apply keep_drewN | apply keep_drew | apply keep_alloc | refine keep_far ?_ GW288.out _) | exact HK.out)⟩, ⟨by repeat (first | (with_reducible first | exact HB.out | apply a1_ | apply a2_ | apply a3_ | refine below_set ?_ (IsS67.ge HI0.out) | refine below_set ?_ GE288.out) | exact HB.out)⟩⟩
  ·rw [if_neg c6] at H
   have c6b0 : (t291 == 0) = false := beq_eq_false_iff_ne.mpr c6
   have c6b1 : (t291 != 0) = true := bne_iff_ne.mpr c6
   (first | rw [c6b0] | (simp only [i64_w, i32_w]; rw [c6b0]) | skip)
   have H' := Aside0.mk H
   clear H
   obtain ⟨HGz8, hgz8⟩ := HI0.out
   have hcz8_0 := cellS67_0 HGz8
   have hcz8_1 := cellS67_1 HGz8
   have hfz8_0 := blk_frozen HGz8 0
   have hfz8_1 := blk_frozen HGz8 1
   clear HGz8 hgz8
   go_wp2
   all_goals
    go_meet
    case rel => exact ⟨_, (false), r_, H', ⟨by first | omega | exact Nat.le_refl _⟩, ⟨kb_ BK288⟩, ⟨by repeat (first | (with_reducible first | exact HI0.out | apply IsS67.alloc | apply IsS67.drewN | apply IsS67.drew | apply IsS67.set_0 | apply IsS67.set_1 | apply IsS67.far (hne := NB0_288.out)) | exact HI0.out)⟩, ⟨by repeat (first | (with_reducible first | exact HK.out | apply KeepBut.set_ | apply keep_drewN | apply keep_drew | apply keep_alloc | refine keep_far ?_ GW288.out _) | exact HK.out)⟩, ⟨by repeat (first | (with_reducible first | exact HB.out | apply a1_ | apply a2_ | apply a3_ | refine below_set ?_ (IsS67.ge HI0.out) | refine below_set ?_ GE288.out) | exact HB.out)⟩⟩
 case rest =>
  clear HC3
  try clear p2
  try clear c4
  try clear c6
  try clear c6b0
  try clear c6b1
  try clear hcz7_0 hcz7_1
  try clear hcz8_0 hcz8_1
  try clear hfz7_0 hfz7_1
  try clear hfz8_0 hfz8_1
  obtain ⟨kq, x19_2, rfl, HA, HJ2, BK288, HI0, HK, HB⟩ := hcut
  cases kq with
  | zero => exact absurd HA.out (by simp [outlawref25_reader_step.j0])
  | succ kj2 =>
   have H := HA.out
   clear HA
   simp only [outlawref25_reader_step.j0] at H
   have HC9 := Aside0.mk H
   clear H
   go_upto_if 19 with (fail)
   go_cut [] (fun wc => ∃ (kq : Nat) (x1001_8 : Int), Aside0 (outlawref25_reader_step.j1 kq t289 t290 x1001_8 = some (r1, r2, r3, r4, r5, r6, r7, r8, r9)) ∧ Aside0 (kq ≤ kj2) ∧ Aside0 (wc.heap[gb288]? = some (.cells #[.bool false, .int .i64 0, .int .i64 0, .int .i64 0, .bool false, .string va2_, (.slice none 0 0)] 45 (0, 0))) ∧ Aside0 (IsS67 w0 wc g t290 x1001_8) ∧ Aside0 (KeepBut w wc g none) ∧ Aside0 (Below w0.heap.size w0 wc))
   case first =>
    have H := HC9.out
    clear HC9
    by_cases c10 : x19_2 = true
    ·subst c10
     rw [if_pos rfl] at H
     have H' := Aside0.mk H
     clear H
     obtain ⟨HGz11, hgz11⟩ := HI0.out
     have hcz11_0 := cellS67_0 HGz11
     have hcz11_1 := cellS67_1 HGz11
     have hfz11_0 := blk_frozen HGz11 0
     have hfz11_1 := blk_frozen HGz11 1
     clear HGz11 hgz11
     go_wp2
     all_goals
      go_meet
      case rel => exact ⟨_, (5), H', ⟨by have := HJ2.out; first | omega | exact Nat.le_refl _⟩, ⟨kb_ BK288⟩, ⟨by repeat (first | (with_reducible first | exact HI0.out | apply IsS67.alloc | apply IsS67.drewN | apply IsS67.drew | apply IsS67.set_0 | apply IsS67.set_1 | apply IsS67.far (hne := NB0_288.out)) | exact HI0.out)⟩, ⟨by repeat (first | (with_reducible first | exact HK.out | apply KeepBut.set_ | apply keep_drewN | apply keep_drew | apply keep_alloc | refine keep_far ?_ GW288.out _) | exact HK.out)⟩, ⟨by repeat (first | (with_reducible first | exact HB.out | apply a1_ | apply a2_ | apply a3_ | refine below_set ?_ (IsS67.ge HI0.out) | refine below_set ?_ GE288.out) | exact HB.out)⟩⟩
    ·replace c10 := Bool.eq_false_iff.mpr c10
     subst c10
     rw [if_neg (show ¬ (false = true) by decide)] at H
     have H' := Aside0.mk H
     clear H
     go_wp2
     all_goals
      go_meet
      case rel => exact ⟨_, (t291), H', ⟨by have := HJ2.out; first | omega | exact Nat.le_refl _⟩, ⟨kb_ BK288⟩, ⟨by repeat (first | (with_reducible first | exact HI0.out | apply IsS67.alloc | apply IsS67.drewN | apply IsS67.drew | apply IsS67.set_0 | apply IsS67.set_1 | apply IsS67.far (hne := NB0_288.out)) | exact HI0.out)⟩, ⟨by repeat (first | (with_reducible first | exact HK.out | apply KeepBut.set_ | apply keep_drewN | apply keep_drew | apply keep_alloc | refine keep_far ?_ GW288.out _) | exact HK.out)⟩, ⟨by repeat (first | (with_reducible first | exact HB.out | apply a1_ | apply a2_ | apply a3_ | refine below_set ?_ (IsS67.ge HI0.out) | refine below_set ?_ GE288.out) | exact HB.out)⟩⟩
   case rest =>
    clear HC9
    try clear c1
    try clear p2
    try clear c4
    try clear c6
    try clear c6b0
    try clear c6b1
    try clear c10
    try clear hcz11_0 hcz11_1
    try clear hcz7_0 hcz7_1
    try clear hcz8_0 hcz8_1
    try clear hfz11_0 hfz11_1
    try clear hfz7_0 hfz7_1
    try clear hfz8_0 hfz8_1
    try clear p2
    obtain ⟨kq, x1001_8, HA, HJ8, BK288, HI0, HK, HB⟩ := hcut
    cases kq with
    | zero => exact absurd HA.out (by simp [outlawref25_reader_step.j1])
    | succ kj8 =>
     have H := HA.out
     clear HA
     simp only [outlawref25_reader_step.j1] at H
     replace H := Option.bind_eq_some_iff.mp H
     obtain ⟨⟨t292, t293, t294⟩, A120, H⟩ := H
     have A12 := Aside0.mk A120
     clear A120
     replace H := Option.bind_eq_some_iff.mp H
     obtain ⟨⟨t295, t296, t297⟩, A130, H⟩ := H
     have A13 := Aside0.mk A130
     clear A130
     by_cases c14 : t297 = 0
     ·rw [if_pos c14] at H
      have c14b0 : (t297 == 0) = true := beq_iff_eq.mpr c14
      have c14b1 : (t297 != 0) = false := bne_eq_false_iff_eq.mpr c14
      clear c14
      replace H := Option.bind_eq_some_iff.mp H
      obtain ⟨⟨t298, t299, t300, t301, t302, t303⟩, A150, H⟩ := H
      have A15 := Aside0.mk A150
      clear A150
      replace H := Option.bind_eq_some_iff.mp H
      obtain ⟨⟨t306, t307, t308⟩, A160, H⟩ := H
      have A16 := Aside0.mk A160
      clear A160
      have H' := Aside0.mk H
      clear H
      go_wp2_with (first | ((with_reducible refine gate_callee (f := 41) rfl ?_); refine gl_ (some 25) Try.func41 #[.pointer (some ⟨g, 0, none⟩), .int .i64 2] ?_; (with_reducible refine (outlawref25_reader_number.calls kj8 g t290 x1001_8 2 t292 t293 t294 w0 _ ?side1 ?side2 A12.out).mono ?_); (case side1 => repeat (first | (with_reducible first | exact HI0.out | apply IsS67.alloc | apply IsS67.drewN | apply IsS67.drew | apply IsS67.set_0 | apply IsS67.set_1 | apply IsS67.far (hne := NB0_304.out) | apply IsS67.far (hne := NB0_288.out)) | exact HI0.out)); (case side2 => repeat (first | (with_reducible first | exact HB.out | apply a1_ | apply a2_ | apply a3_ | refine below_set ?_ (IsS67.ge HI0.out) | refine below_set ?_ GE288.out) | exact HB.out)); rintro e w17 ⟨rfl, hi, hb, hk⟩; refine ⟨_, rfl, ?_⟩; have n0_ := Aside0.mk (KeepBut.blk hk (g' := gb288) (o := .cells #[.bool false, .int .i64 0, .int .i64 0, .int .i64 0, .bool false, .string va2_, .slice none 0 0] 45 (0, 0)) (kb_ BK288) NB288_0.out (by simp)); have n1_ := Aside0.mk (KeepBut.trans (by repeat (first | (with_reducible first | exact HK.out | apply KeepBut.set_ | apply keep_drewN | apply keep_drew | apply keep_alloc | refine keep_far ?_ GW288.out _) | exact HK.out)) hk (.inl rfl)); have n2_ := Aside0.mk (hb); have n3_ := Aside0.mk (hi); clear BK288; clear HK; clear HB; clear HI0; have BK288 := n0_; have HK := n1_; have HB := n2_; have HI0 := n3_; clear n0_ n1_ n2_ n3_; (try clear hb); (try clear hk)) | ((with_reducible refine gate_callee (f := 40) rfl ?_); refine gl_ (some 26) Try.func40 #[.pointer (some ⟨g, 0, none⟩), .int .i64 t292] ?_; (with_reducible refine (outlawref25_reader_take.calls kj8 g t293 t294 t292 t295 t296 t297 w0 _ ?side1 ?side2 A13.out).mono ?_); (case side1 => repeat (first | (with_reducible first | exact HI0.out | apply IsS67.alloc | apply IsS67.drewN | apply IsS67.drew | apply IsS67.set_0 | apply IsS67.set_1 | apply IsS67.far (hne := NB0_304.out) | apply IsS67.far (hne := NB0_288.out)) | exact HI0.out)); (case side2 => repeat (first | (with_reducible first | exact HB.out | apply a1_ | apply a2_ | apply a3_ | refine below_set ?_ (IsS67.ge HI0.out) | refine below_set ?_ GE288.out) | exact HB.out)); rintro e w18 ⟨rfl, hi, hb, hk⟩; refine ⟨_, rfl, ?_⟩; have n0_ := Aside0.mk (KeepBut.blk hk (g' := gb288) (o := .cells #[.bool false, .int .i64 0, .int .i64 0, .int .i64 0, .bool false, .string va2_, .slice none 0 0] 45 (0, 0)) (kb_ BK288) NB288_0.out (by simp)); have n1_ := Aside0.mk (KeepBut.trans (by repeat (first | (with_reducible first | exact HK.out | apply KeepBut.set_ | apply keep_drewN | apply keep_drew | apply keep_alloc | refine keep_far ?_ GW288.out _) | exact HK.out)) hk (.inl rfl)); have n2_ := Aside0.mk (hb); have n3_ := Aside0.mk (hi); clear BK288; clear HK; clear HB; clear HI0; have BK288 := n0_; have HK := n1_; have HB := n2_; have HI0 := n3_; clear n0_ n1_ n2_ n3_; (try clear hb); (try clear hk); obtain ⟨HGz19, hgz19⟩ := HI0.out; have hcz19_0 := cellS67_0 HGz19; have hcz19_1 := cellS67_1 HGz19; have hfz19_0 := blk_frozen HGz19 0; have hfz19_1 := blk_frozen HGz19 1; clear HGz19 hgz19) | ((with_reducible refine gate_callee (f := 58) rfl ?_); refine gl_ (some 35) Try.func58 #[.string t295] ?_; (with_reducible refine (outlawref21_Read.calls t295 t298 t299 t300 t301 t302 t303 _ A15.out).mono ?_); rintro e w20 ⟨rfl, hb⟩; refine ⟨_, rfl, ?_⟩; have n0_ := Aside0.mk (blk_below (kb_ BK288) hb); have n1_ := Aside0.mk (IsS67.below (by repeat (first | (with_reducible first | exact HI0.out | apply IsS67.alloc | apply IsS67.drewN | apply IsS67.drew | apply IsS67.set_0 | apply IsS67.set_1 | apply IsS67.far (hne := NB0_304.out) | apply IsS67.far (hne := NB0_288.out)) | exact HI0.out)) hb); have n2_ := Aside0.mk (KeepBut.trans (by repeat (first | (with_reducible first | exact HK.out | apply KeepBut.set_ | apply keep_drewN | apply keep_drew | apply keep_alloc | refine keep_far ?_ GW288.out _) | exact HK.out)) (KeepBut.of_below hb g none) (.inl rfl)); have n3_ := Aside0.mk (below_step (by repeat (first | (with_reducible first | exact HB.out | apply a1_ | apply a2_ | apply a3_ | refine below_set ?_ (IsS67.ge HI0.out) | refine below_set ?_ GE288.out) | exact HB.out)) hb); clear BK288; clear HI0; clear HK; clear HB; have BK288 := n0_; have HI0 := n1_; have HK := n2_; have HB := n3_; clear n0_ n1_ n2_ n3_; (try clear hb); (try clear hk)) | ((with_reducible refine gate_dst (N := 5) rfl ?_); refine be_ 5 #[.int .i64 0, .int .i64 0, .int .i64 0, .bool false, .string va2_] 42 ?_; intro gb304 hg w21 hbox hb; have n0_ := Aside0.mk (blk_below (kb_ BK288) hb); have n1_ := Aside0.mk (IsS67.below (by repeat (first | (with_reducible first | exact HI0.out | apply IsS67.alloc | apply IsS67.drewN | apply IsS67.drew | apply IsS67.set_0 | apply IsS67.set_1 | apply IsS67.far (hne := NB0_304.out) | apply IsS67.far (hne := NB0_288.out)) | exact HI0.out)) hb); have n2_ := Aside0.mk (KeepBut.trans (by repeat (first | (with_reducible first | exact HK.out | apply KeepBut.set_ | apply keep_drewN | apply keep_drew | apply keep_alloc | refine keep_far ?_ GW288.out _) | exact HK.out)) (KeepBut.of_below hb g none) (.inl rfl)); have n3_ := Aside0.mk (below_step (by repeat (first | (with_reducible first | exact HB.out | apply a1_ | apply a2_ | apply a3_ | refine below_set ?_ (IsS67.ge HI0.out) | refine below_set ?_ GE288.out) | exact HB.out)) hb); have n4_ := Aside0.mk (hbox); have n5_ := Aside0.mk ((by rw [hg]; exact (keep_size (w := w) (g := g) (row := none) (by repeat (first | (with_reducible first | exact HK.out | apply KeepBut.set_ | apply keep_drewN | apply keep_drew | apply keep_alloc | refine keep_far ?_ GW288.out _) | exact HK.out))) : w.heap.size ≤ gb304)); have n6_ := Aside0.mk ((Nat.le_trans HW0.out (by rw [hg]; exact (keep_size (w := w) (g := g) (row := none) (by repeat (first | (with_reducible first | exact HK.out | apply KeepBut.set_ | apply keep_drewN | apply keep_drew | apply keep_alloc | refine keep_far ?_ GW288.out _) | exact HK.out))) : w.heap.size ≤ gb304) : w0.heap.size ≤ gb304)); have n7_ := Aside0.mk ((by rw [hg]; exact Nat.ne_of_lt (blk_lt (kb_ BK288)) : gb288 ≠ gb304)); have n8_ := Aside0.mk ((by rw [hg]; exact Nat.ne_of_gt (blk_lt (kb_ BK288)) : gb304 ≠ gb288)); have n9_ := Aside0.mk ((by rw [hg]; exact Nat.ne_of_lt (IsS67.lt (show IsS67 w0 _ g t296 t297 from by repeat (first | (with_reducible first | exact HI0.out | apply IsS67.alloc | apply IsS67.drewN | apply IsS67.drew | apply IsS67.set_0 | apply IsS67.set_1 | apply IsS67.far (hne := NB0_304.out) | apply IsS67.far (hne := NB0_288.out)) | exact HI0.out))) : g ≠ gb304)); have n10_ := Aside0.mk ((by rw [hg]; exact Nat.ne_of_gt (IsS67.lt (show IsS67 w0 _ g t296 t297 from by repeat (first | (with_reducible first | exact HI0.out | apply IsS67.alloc | apply IsS67.drewN | apply IsS67.drew | apply IsS67.set_0 | apply IsS67.set_1 | apply IsS67.far (hne := NB0_304.out) | apply IsS67.far (hne := NB0_288.out)) | exact HI0.out))) : gb304 ≠ g)); clear BK288; clear HI0; clear HK; clear HB; have BK288 := n0_; have HI0 := n1_; have HK := n2_; have HB := n3_; have BK304 := n4_; have GW304 := n5_; have GE304 := n6_; have NB288_304 := n7_; have NB304_288 := n8_; have NB0_304 := n9_; have NB304_0 := n10_; clear n0_ n1_ n2_ n3_ n4_ n5_ n6_ n7_ n8_ n9_ n10_; clear hb hbox hg; have hnb22 := NB304_288.out; have hnc22 := NB288_304.out; have hnb23 := NB304_0.out; have hnc23 := NB0_304.out; obtain ⟨hcz24_0, hcz24_1, hcz24_2, hcz24_3, hcz24_4, hfz24_0, hfz24_1, hfz24_2, hfz24_3, hfz24_4⟩ := bb5_ BK304.out; obtain ⟨HGz25, hgz25⟩ := HI0.out; have hcz25_0 := cellS67_0 HGz25; have hcz25_1 := cellS67_1 HGz25; have hfz25_0 := blk_frozen HGz25 0; have hfz25_1 := blk_frozen HGz25 1; clear HGz25 hgz25) | ((with_reducible refine gate_dst (N := 7) rfl ?_); refine be_ 7 #[.bool false, .int .i64 0, .int .i64 0, .int .i64 0, .bool false, .string va2_, .slice none 0 0] 45 ?_; intro gb305 hg w26 hbox hb; have n0_ := Aside0.mk (blk_below (kb_ BK288) hb); have n1_ := Aside0.mk (IsS67.below (show IsS67 w0 ((((((w21.setCell ⟨gb304, 0, none⟩ (.int .i64 t298)).setCell ⟨gb304, 1, none⟩ (.int .i64 t299)).setCell ⟨gb304, 2, none⟩ (.int .i64 t300)).setCell ⟨gb304, 3, none⟩ (.bool t301)).setCell ⟨gb304, 4, none⟩ (.string t302)).setCell ⟨g, 1, none⟩ (.int .i64 t303)) g t296 t303 from by repeat (first | (with_reducible first | exact HI0.out | apply IsS67.alloc | apply IsS67.drewN | apply IsS67.drew | apply IsS67.set_0 | apply IsS67.set_1 | apply IsS67.far (hne := NB0_304.out) | apply IsS67.far (hne := NB0_288.out) | apply IsS67.far (hne := NB0_304.out)) | exact HI0.out)) hb); have n2_ := Aside0.mk (blk_below (g := gb304) (o := .cells #[.int .i64 t298, .int .i64 t299, .int .i64 t300, .bool t301, .string t302] 42 (0, 0)) (by (with_reducible repeat (first | refine blk_drewN ?_ _ | refine blk_drew ?_ | refine blk_alloc ?_ _)); refine blk_far ?_ NB304_0.out _; (with_reducible repeat (first | refine blk_drewN ?_ _ | refine blk_drew ?_ | refine blk_alloc ?_ _)); refine blk_put (cs := #[.int .i64 t298, .int .i64 t299, .int .i64 t300, .bool t301, .string va2_]) ?_ 4 _ rfl; (with_reducible repeat (first | refine blk_drewN ?_ _ | refine blk_drew ?_ | refine blk_alloc ?_ _)); refine blk_put (cs := #[.int .i64 t298, .int .i64 t299, .int .i64 t300, .bool false, .string va2_]) ?_ 3 _ rfl; (with_reducible repeat (first | refine blk_drewN ?_ _ | refine blk_drew ?_ | refine blk_alloc ?_ _)); refine blk_put (cs := #[.int .i64 t298, .int .i64 t299, .int .i64 0, .bool false, .string va2_]) ?_ 2 _ rfl; (with_reducible repeat (first | refine blk_drewN ?_ _ | refine blk_drew ?_ | refine blk_alloc ?_ _)); refine blk_put (cs := #[.int .i64 t298, .int .i64 0, .int .i64 0, .bool false, .string va2_]) ?_ 1 _ rfl; (with_reducible repeat (first | refine blk_drewN ?_ _ | refine blk_drew ?_ | refine blk_alloc ?_ _)); refine blk_put (cs := #[.int .i64 0, .int .i64 0, .int .i64 0, .bool false, .string va2_]) ?_ 0 _ rfl; (with_reducible repeat (first | refine blk_drewN ?_ _ | refine blk_drew ?_ | refine blk_alloc ?_ _)); exact BK304.out) hb); have n3_ := Aside0.mk (KeepBut.trans (by repeat (first | (with_reducible first | exact HK.out | apply KeepBut.set_ | apply keep_drewN | apply keep_drew | apply keep_alloc | refine keep_far ?_ GW288.out _ | refine keep_far ?_ GW304.out _) | exact HK.out)) (KeepBut.of_below hb g none) (.inl rfl)); have n4_ := Aside0.mk (below_step (by repeat (first | (with_reducible first | exact HB.out | apply a1_ | apply a2_ | apply a3_ | refine below_set ?_ (IsS67.ge HI0.out) | refine below_set ?_ GE288.out | refine below_set ?_ GE304.out) | exact HB.out)) hb); have n5_ := Aside0.mk (hbox); have n6_ := Aside0.mk ((by rw [hg]; exact (keep_size (w := w) (g := g) (row := none) (by repeat (first | (with_reducible first | exact HK.out | apply KeepBut.set_ | apply keep_drewN | apply keep_drew | apply keep_alloc | refine keep_far ?_ GW288.out _ | refine keep_far ?_ GW304.out _) | exact HK.out))) : w.heap.size ≤ gb305)); have n7_ := Aside0.mk ((Nat.le_trans HW0.out (by rw [hg]; exact (keep_size (w := w) (g := g) (row := none) (by repeat (first | (with_reducible first | exact HK.out | apply KeepBut.set_ | apply keep_drewN | apply keep_drew | apply keep_alloc | refine keep_far ?_ GW288.out _ | refine keep_far ?_ GW304.out _) | exact HK.out))) : w.heap.size ≤ gb305) : w0.heap.size ≤ gb305)); have n8_ := Aside0.mk ((by rw [hg]; exact Nat.ne_of_lt (blk_lt (kb_ BK288)) : gb288 ≠ gb305)); have n9_ := Aside0.mk ((by rw [hg]; exact Nat.ne_of_gt (blk_lt (kb_ BK288)) : gb305 ≠ gb288)); have n10_ := Aside0.mk ((by rw [hg]; exact Nat.ne_of_lt (blk_lt (g := gb304) (o := .cells #[.int .i64 t298, .int .i64 t299, .int .i64 t300, .bool t301, .string t302] 42 (0, 0)) (by (with_reducible repeat (first | refine blk_drewN ?_ _ | refine blk_drew ?_ | refine blk_alloc ?_ _)); refine blk_far ?_ NB304_0.out _; (with_reducible repeat (first | refine blk_drewN ?_ _ | refine blk_drew ?_ | refine blk_alloc ?_ _)); refine blk_put (cs := #[.int .i64 t298, .int .i64 t299, .int .i64 t300, .bool t301, .string va2_]) ?_ 4 _ rfl; (with_reducible repeat (first | refine blk_drewN ?_ _ | refine blk_drew ?_ | refine blk_alloc ?_ _)); refine blk_put (cs := #[.int .i64 t298, .int .i64 t299, .int .i64 t300, .bool false, .string va2_]) ?_ 3 _ rfl; (with_reducible repeat (first | refine blk_drewN ?_ _ | refine blk_drew ?_ | refine blk_alloc ?_ _)); refine blk_put (cs := #[.int .i64 t298, .int .i64 t299, .int .i64 0, .bool false, .string va2_]) ?_ 2 _ rfl; (with_reducible repeat (first | refine blk_drewN ?_ _ | refine blk_drew ?_ | refine blk_alloc ?_ _)); refine blk_put (cs := #[.int .i64 t298, .int .i64 0, .int .i64 0, .bool false, .string va2_]) ?_ 1 _ rfl; (with_reducible repeat (first | refine blk_drewN ?_ _ | refine blk_drew ?_ | refine blk_alloc ?_ _)); refine blk_put (cs := #[.int .i64 0, .int .i64 0, .int .i64 0, .bool false, .string va2_]) ?_ 0 _ rfl; (with_reducible repeat (first | refine blk_drewN ?_ _ | refine blk_drew ?_ | refine blk_alloc ?_ _)); exact BK304.out)) : gb304 ≠ gb305)); have n11_ := Aside0.mk ((by rw [hg]; exact Nat.ne_of_gt (blk_lt (g := gb304) (o := .cells #[.int .i64 t298, .int .i64 t299, .int .i64 t300, .bool t301, .string t302] 42 (0, 0)) (by (with_reducible repeat (first | refine blk_drewN ?_ _ | refine blk_drew ?_ | refine blk_alloc ?_ _)); refine blk_far ?_ NB304_0.out _; (with_reducible repeat (first | refine blk_drewN ?_ _ | refine blk_drew ?_ | refine blk_alloc ?_ _)); refine blk_put (cs := #[.int .i64 t298, .int .i64 t299, .int .i64 t300, .bool t301, .string va2_]) ?_ 4 _ rfl; (with_reducible repeat (first | refine blk_drewN ?_ _ | refine blk_drew ?_ | refine blk_alloc ?_ _)); refine blk_put (cs := #[.int .i64 t298, .int .i64 t299, .int .i64 t300, .bool false, .string va2_]) ?_ 3 _ rfl; (with_reducible repeat (first | refine blk_drewN ?_ _ | refine blk_drew ?_ | refine blk_alloc ?_ _)); refine blk_put (cs := #[.int .i64 t298, .int .i64 t299, .int .i64 0, .bool false, .string va2_]) ?_ 2 _ rfl; (with_reducible repeat (first | refine blk_drewN ?_ _ | refine blk_drew ?_ | refine blk_alloc ?_ _)); refine blk_put (cs := #[.int .i64 t298, .int .i64 0, .int .i64 0, .bool false, .string va2_]) ?_ 1 _ rfl; (with_reducible repeat (first | refine blk_drewN ?_ _ | refine blk_drew ?_ | refine blk_alloc ?_ _)); refine blk_put (cs := #[.int .i64 0, .int .i64 0, .int .i64 0, .bool false, .string va2_]) ?_ 0 _ rfl; (with_reducible repeat (first | refine blk_drewN ?_ _ | refine blk_drew ?_ | refine blk_alloc ?_ _)); exact BK304.out)) : gb305 ≠ gb304)); have n12_ := Aside0.mk ((by rw [hg]; exact Nat.ne_of_lt (IsS67.lt (show IsS67 w0 _ g t296 t303 from by repeat (first | (with_reducible first | exact HI0.out | apply IsS67.alloc | apply IsS67.drewN | apply IsS67.drew | apply IsS67.set_0 | apply IsS67.set_1 | apply IsS67.far (hne := NB0_304.out) | apply IsS67.far (hne := NB0_288.out) | apply IsS67.far (hne := NB0_304.out)) | exact HI0.out))) : g ≠ gb305)); have n13_ := Aside0.mk ((by rw [hg]; exact Nat.ne_of_gt (IsS67.lt (show IsS67 w0 _ g t296 t303 from by repeat (first | (with_reducible first | exact HI0.out | apply IsS67.alloc | apply IsS67.drewN | apply IsS67.drew | apply IsS67.set_0 | apply IsS67.set_1 | apply IsS67.far (hne := NB0_304.out) | apply IsS67.far (hne := NB0_288.out) | apply IsS67.far (hne := NB0_304.out)) | exact HI0.out))) : gb305 ≠ g)); clear BK288; clear HI0; clear BK304; clear HK; clear HB; have BK288 := n0_; have HI0 := n1_; have BK304 := n2_; have HK := n3_; have HB := n4_; have BK305 := n5_; have GW305 := n6_; have GE305 := n7_; have NB288_305 := n8_; have NB305_288 := n9_; have NB304_305 := n10_; have NB305_304 := n11_; have NB0_305 := n12_; have NB305_0 := n13_; clear n0_ n1_ n2_ n3_ n4_ n5_ n6_ n7_ n8_ n9_ n10_ n11_ n12_ n13_; clear hb hbox hg; have hnb27 := NB305_288.out; have hnc27 := NB288_305.out; have hnb28 := NB305_304.out; have hnc28 := NB304_305.out; have hnb29 := NB305_0.out; have hnc29 := NB0_305.out; obtain ⟨hcz30_0, hcz30_1, hcz30_2, hcz30_3, hcz30_4, hcz30_5, hcz30_6, hfz30_0, hfz30_1, hfz30_2, hfz30_3, hfz30_4, hfz30_5, hfz30_6⟩ := bb7_ BK305.out) | ((with_reducible refine gate_callee (f := 59) rfl ?_); refine gl_ (some 48) Try.func59 #[.pointer (some ⟨g, 0, none⟩), .int .i64 t289] ?_; (with_reducible refine (outlawref25_cuts.calls kj8 g t296 t303 t289 t306 t307 t308 w0 _ ?side1 ?side2 A16.out).mono ?_); (case side1 => repeat (first | (with_reducible first | exact HI0.out | apply IsS67.alloc | apply IsS67.drewN | apply IsS67.drew | apply IsS67.set_0 | apply IsS67.set_1 | apply IsS67.far (hne := NB0_304.out) | apply IsS67.far (hne := NB0_288.out) | apply IsS67.far (hne := NB0_304.out) | apply IsS67.far (hne := NB0_305.out)) | exact HI0.out)); (case side2 => repeat (first | (with_reducible first | exact HB.out | apply a1_ | apply a2_ | apply a3_ | refine below_set ?_ (IsS67.ge HI0.out) | refine below_set ?_ GE288.out | refine below_set ?_ GE304.out | refine below_set ?_ GE305.out) | exact HB.out)); rintro e w31 ⟨rfl, hi, hb, hk⟩; refine ⟨_, rfl, ?_⟩; have n0_ := Aside0.mk (KeepBut.blk hk (g' := gb288) (o := .cells #[.bool false, .int .i64 0, .int .i64 0, .int .i64 0, .bool false, .string va2_, .slice none 0 0] 45 (0, 0)) (kb_ BK288) NB288_0.out (by simp)); have n1_ := Aside0.mk (KeepBut.blk hk (g' := gb304) (o := .cells #[.int .i64 t298, .int .i64 t299, .int .i64 t300, .bool t301, .string t302] 42 (0, 0)) (kb_ BK304) NB304_0.out (by simp)); have n2_ := Aside0.mk (KeepBut.blk hk (g' := gb305) (o := .cells #[.bool (t289 == 1), .int .i64 t298, .int .i64 t299, .int .i64 t300, .bool t301, .string t302, .slice none 0 0] 45 (0, 0)) (by (with_reducible repeat (first | refine blk_drewN ?_ _ | refine blk_drew ?_ | refine blk_alloc ?_ _)); refine blk_put (cs := #[.bool (t289 == 1), .int .i64 t298, .int .i64 t299, .int .i64 t300, .bool t301, .string t302, .slice none 0 0]) ?_ 6 _ rfl; (with_reducible repeat (first | refine blk_drewN ?_ _ | refine blk_drew ?_ | refine blk_alloc ?_ _)); refine blk_put (cs := #[.bool (t289 == 1), .int .i64 t298, .int .i64 t299, .int .i64 t300, .bool t301, .string va2_, .slice none 0 0]) ?_ 5 _ rfl; (with_reducible repeat (first | refine blk_drewN ?_ _ | refine blk_drew ?_ | refine blk_alloc ?_ _)); refine blk_put (cs := #[.bool (t289 == 1), .int .i64 t298, .int .i64 t299, .int .i64 t300, .bool false, .string va2_, .slice none 0 0]) ?_ 4 _ rfl; (with_reducible repeat (first | refine blk_drewN ?_ _ | refine blk_drew ?_ | refine blk_alloc ?_ _)); refine blk_put (cs := #[.bool (t289 == 1), .int .i64 t298, .int .i64 t299, .int .i64 0, .bool false, .string va2_, .slice none 0 0]) ?_ 3 _ rfl; (with_reducible repeat (first | refine blk_drewN ?_ _ | refine blk_drew ?_ | refine blk_alloc ?_ _)); refine blk_put (cs := #[.bool (t289 == 1), .int .i64 t298, .int .i64 0, .int .i64 0, .bool false, .string va2_, .slice none 0 0]) ?_ 2 _ rfl; (with_reducible repeat (first | refine blk_drewN ?_ _ | refine blk_drew ?_ | refine blk_alloc ?_ _)); refine blk_put (cs := #[.bool (t289 == 1), .int .i64 0, .int .i64 0, .int .i64 0, .bool false, .string va2_, .slice none 0 0]) ?_ 1 _ rfl; (with_reducible repeat (first | refine blk_drewN ?_ _ | refine blk_drew ?_ | refine blk_alloc ?_ _)); refine blk_put (cs := #[.bool false, .int .i64 0, .int .i64 0, .int .i64 0, .bool false, .string va2_, .slice none 0 0]) ?_ 0 _ rfl; (with_reducible repeat (first | refine blk_drewN ?_ _ | refine blk_drew ?_ | refine blk_alloc ?_ _)); exact BK305.out) NB305_0.out (by simp)); have n3_ := Aside0.mk (KeepBut.trans (by repeat (first | (with_reducible first | exact HK.out | apply KeepBut.set_ | apply keep_drewN | apply keep_drew | apply keep_alloc | refine keep_far ?_ GW288.out _ | refine keep_far ?_ GW304.out _ | refine keep_far ?_ GW305.out _) | exact HK.out)) hk (.inl rfl)); have n4_ := Aside0.mk (hb); have n5_ := Aside0.mk (hi); clear BK288; clear BK304; clear BK305; clear HK; clear HB; clear HI0; have BK288 := n0_; have BK304 := n1_; have BK305 := n2_; have HK := n3_; have HB := n4_; have HI0 := n5_; clear n0_ n1_ n2_ n3_ n4_ n5_; (try clear hb); (try clear hk)))
      go_loopg [8] kj8 (fun kq v8 w' => ∃ (x8_3 : Int) (x1000_3 : ByteArray) (x1001_3 : Int) (x306006_3 : List Int) (u306006 : Value), v8 = .int .i64 x8_3 ∧ Aside0 (outlawref25_reader_step.l0 kq x8_3 x1000_3 x1001_3 (t289 == 1) t298 t299 t300 t301 t302 x306006_3 = some (r1, r2, r3, r4, r5, r6, r7, r8, r9)) ∧ Aside0 (kq ≤ kj8) ∧ Aside0 (Kd.R (Kd.int .i64) 3 w' w.heap.size (fun _ => True) u306006 x306006_3) ∧ Aside0 (w'.heap[gb288]? = some (.cells #[.bool false, .int .i64 0, .int .i64 0, .int .i64 0, .bool false, .string va2_, (.slice none 0 0)] 45 (0, 0))) ∧ Aside0 (w'.heap[gb304]? = some (.cells #[.int .i64 t298, .int .i64 t299, .int .i64 t300, .bool t301, .string t302] 42 (0, 0))) ∧ Aside0 (w'.heap[gb305]? = some (.cells #[.bool (t289 == 1), .int .i64 t298, .int .i64 t299, .int .i64 t300, .bool t301, .string t302, u306006] 45 (0, 0))) ∧ Aside0 (IsS67 w0 w' g x1000_3 x1001_3) ∧ Aside0 (KeepBut w w' g none) ∧ Aside0 (Below w0.heap.size w0 w'))
      case atStart => exact ⟨(t306), (t307), (t308), (([] : List Int)), (.slice none 0 0), r_, H', ⟨Nat.le_refl _⟩, ⟨by first | exact Kd.R_nil _ _ _ _ _ | exact Kd.N_nil _ _ _ _ _ | exact Kd.V_nil _ _ _ _ _ | exact Kd.Q_nil _ _ _ _ _ | exact Kd.S_nil _ _ _ _ _⟩, ⟨kb_ BK288⟩, ⟨kb_ BK304⟩, ⟨kb_ BK305⟩, ⟨by repeat (first | (with_reducible first | exact HI0.out | apply IsS67.alloc | apply IsS67.drewN | apply IsS67.drew | apply IsS67.set_0 | apply IsS67.set_1 | apply IsS67.far (hne := NB0_288.out) | apply IsS67.far (hne := NB0_304.out) | apply IsS67.far (hne := NB0_305.out)) | exact HI0.out)⟩, ⟨by repeat (first | (with_reducible first | exact HK.out | apply KeepBut.set_ | apply keep_drewN | apply keep_drew | apply keep_alloc | refine keep_far ?_ GW288.out _ | refine keep_far ?_ GW304.out _ | refine keep_far ?_ GW305.out _) | exact HK.out)⟩, ⟨by repeat (first | (with_reducible first | exact HB.out | apply a1_ | apply a2_ | apply a3_ | refine below_set ?_ (IsS67.ge HI0.out) | refine below_set ?_ GE288.out | refine below_set ?_ GE304.out | refine below_set ?_ GE305.out) | exact HB.out)⟩⟩
      case round =>
       clear H'
       try clear c1
       try clear c2
       try clear p2
       try clear c4
       try clear c5
       try clear c6
       try clear c6b0
       try clear c6b1
       try clear c10
       try clear c14
       try clear c14b0
       try clear c14b1
       try clear c22
       try clear c23
       try clear c27
       try clear c28
       try clear c29
       try clear hcz11_0 hcz11_1
       try clear hcz19_0 hcz19_1
       try clear hcz24_0 hcz24_1 hcz24_2 hcz24_3 hcz24_4
       try clear hcz25_0 hcz25_1
       try clear hcz30_0 hcz30_1 hcz30_2 hcz30_3 hcz30_4 hcz30_5 hcz30_6
       try clear hcz7_0 hcz7_1
       try clear hcz8_0 hcz8_1
       try clear hfz11_0 hfz11_1
       try clear hfz19_0 hfz19_1
       try clear hfz24_0 hfz24_1 hfz24_2 hfz24_3 hfz24_4
       try clear hfz25_0 hfz25_1
       try clear hfz30_0 hfz30_1 hfz30_2 hfz30_3 hfz30_4 hfz30_5 hfz30_6
       try clear hfz7_0 hfz7_1
       try clear hfz8_0 hfz8_1
       try clear p2
       obtain ⟨x8_3, x1000_3, x1001_3, x306006_3, u306006, rfl, HA, HK3, HO_306006, BK288, BK304, BK305, HI0, HK, HB⟩ := hrel
       cases gk with
       | zero => exact absurd HA.out (by simp [outlawref25_reader_step.l0])
       | succ k3 =>
        have H := HA.out
        clear HA
        simp only [outlawref25_reader_step.l0] at H
        by_cases c32 : x8_3 > 0
        ·rw [if_pos c32] at H
         have c32b0 : decide (0 < x8_3) = true := decide_eq_true c32
         clear c32
         by_cases c33 : x1001_3 = 0
         ·rw [if_pos c33] at H
          have c33b0 : (x1001_3 == 0) = true := beq_iff_eq.mpr c33
          have c33b1 : (x1001_3 != 0) = false := bne_eq_false_iff_eq.mpr c33
          clear c33
          replace H := Option.bind_eq_some_iff.mp H
          obtain ⟨⟨t309, t310, t311⟩, A340, H⟩ := H
          have A34 := Aside0.mk A340
          clear A340
          by_cases c35 : x306006_3.length < 17592186044416
          ·rw [if_pos c35] at H
           have LMc35 := Aside0.mk c35
           clear c35
           obtain ⟨y312, hy312⟩ : ∃ y_ : List Int, y_ = (x306006_3 ++ [t309]) := ⟨_, rfl⟩
           first | rw [← hy312, Option.bind_some] at H | rw [← hy312] at H
           have Ny312 := Aside0.mk hy312
           clear hy312
           have H' := Aside0.mk H
           clear H
           obtain ⟨HGz36, hgz36⟩ := HI0.out
           have hcz36_0 := cellS67_0 HGz36
           have hcz36_1 := cellS67_1 HGz36
           have hfz36_0 := blk_frozen HGz36 0
           have hfz36_1 := blk_frozen HGz36 1
           clear HGz36 hgz36
           try go_wp2
           have n0_ := Aside0.mk (Kd.R_drew HO_306006.out)
           have n1_ := Aside0.mk (blk_drew BK288.out)
           have n2_ := Aside0.mk (blk_drew BK304.out)
           have n3_ := Aside0.mk (blk_drew BK305.out)
           have n4_ := Aside0.mk (IsS67.drew HI0.out)
           have n5_ := Aside0.mk (keep_drew HK.out)
           have n6_ := Aside0.mk (below_drew1 HB.out)
           clear HO_306006
           clear BK288
           clear BK304
           clear BK305
           clear HI0
           clear HK
           clear HB
           have HO_306006 := n0_
           have BK288 := n1_
           have BK304 := n2_
           have BK305 := n3_
           have HI0 := n4_
           have HK := n5_
           have HB := n6_
           clear n0_ n1_ n2_ n3_ n4_ n5_ n6_
           refine start_ (n := 8) (S := fun w' => w'.cell? ⟨gb305, 0, none⟩ = some (.bool (t289 == 1)) ∧ w'.cell? ⟨gb305, 1, none⟩ = some (.int .i64 t298) ∧ w'.cell? ⟨gb305, 2, none⟩ = some (.int .i64 t299) ∧ w'.cell? ⟨gb305, 3, none⟩ = some (.int .i64 t300) ∧ w'.cell? ⟨gb305, 4, none⟩ = some (.bool t301) ∧ w'.cell? ⟨gb305, 5, none⟩ = some (.string t302) ∧ w'.cell? ⟨gb305, 6, none⟩ = some (u306006)) (ds := [7]) #[F_,F_,F_,F_,F_,F_,F_,F_] (by kernel_rfl) rfl rfl ⟨(blk_cell BK305.out 0).trans rfl, (blk_cell BK305.out 1).trans rfl, (blk_cell BK305.out 2).trans rfl, (blk_cell BK305.out 3).trans rfl, (blk_cell BK305.out 4).trans rfl, (blk_cell BK305.out 5).trans rfl, (blk_cell BK305.out 6).trans rfl⟩ (fun hHeld => ?_); refine with_tabW outlawref25_reader_step.tab13 outlawref25_reader_step.bits13 (fun HT_ HW_ => ?_)
           generalize wr.drew = w37 at HO_306006 BK288 BK304 BK305 HI0 HK HB hHeld ⊢
           refine pq_ 0 60 (mb_ 8 1) HT_.out ?_
           refine pq_ 2 62 (mb_ 8 5) HT_.out ?_
           refine tq_ 1 61 (mb_ 8 7) HT_.out HW_.out hHeld ?_ (hr := by rintro w' ⟨s0, s1, s2, s3, s4, s5, s6⟩; go_simp; with_reducible rfl)
           refine one_ (i := 3) (N := some 63) (mb_ 8 15) rfl rfl (one_of HT_.out (by kernel_rfl)) (by decide) (fun K hK => ?_)
           refine goes_ Try.func41 (by kernel_rfl) rfl #[.pointer (some ⟨g, 0, none⟩), .int .i64 2] (by rfl) rfl rfl (by (try simp only [List.map_toArray, List.map_cons, List.map_nil]); first | done | rfl | (simp only [List.length_drop, List.length_take]; rfl)) ?_
           with_reducible refine (outlawref25_reader_number.calls k3 g x1000_3 x1001_3 2 t309 t310 t311 w0 _ ?side1 ?side2 A34.out).mono ?_
           (case side1 => repeat (first | (with_reducible first | exact HI0.out | apply IsS67.alloc | apply IsS67.drewN | apply IsS67.drew | apply IsS67.set_0 | apply IsS67.set_1 | apply IsS67.far (hne := NB0_288.out) | apply IsS67.far (hne := NB0_304.out) | apply IsS67.far (hne := NB0_305.out)) | exact HI0.out))
           (case side2 => repeat (first | (with_reducible first | exact HB.out | apply a1_ | apply a2_ | apply a3_ | refine below_set ?_ (IsS67.ge HI0.out) | refine below_set ?_ GE288.out | refine below_set ?_ GE304.out | refine below_set ?_ GE305.out) | exact HB.out))
           rintro e w38 ⟨rfl, hi, hb, hk⟩
           refine ⟨_, rfl, ?_⟩
           have n0_ := Aside0.mk (Kd.R_mono (Kd.R_keep (IsS67.apart (show IsS67 w0 _ g x1000_3 x1001_3 from by repeat (first | (with_reducible first | exact HI0.out | apply IsS67.alloc | apply IsS67.drewN | apply IsS67.drew | apply IsS67.set_0 | apply IsS67.set_1 | apply IsS67.far (hne := NB0_288.out) | apply IsS67.far (hne := NB0_304.out) | apply IsS67.far (hne := NB0_305.out)) | exact HI0.out)) (by (with_reducible repeat (first | apply Kd.R_alloc | apply Kd.R_drewN | apply Kd.R_drew)); exact HO_306006.out) (by decide)) hk (fun _ h => h.2)) (fun _ h => h.1))
           have n1_ := Aside0.mk (KeepBut.blk hk (g' := gb288) (o := .cells #[.bool false, .int .i64 0, .int .i64 0, .int .i64 0, .bool false, .string va2_, .slice none 0 0] 45 (0, 0)) (kb_ BK288) NB288_0.out (by simp))
           have n2_ := Aside0.mk (KeepBut.blk hk (g' := gb304) (o := .cells #[.int .i64 t298, .int .i64 t299, .int .i64 t300, .bool t301, .string t302] 42 (0, 0)) (kb_ BK304) NB304_0.out (by simp))
           have n3_ := Aside0.mk (KeepBut.blk hk (g' := gb305) (o := .cells #[.bool (t289 == 1), .int .i64 t298, .int .i64 t299, .int .i64 t300, .bool t301, .string t302, u306006] 45 (0, 0)) (kb_ BK305) NB305_0.out (by simp))
           have n4_ := Aside0.mk (KeepBut.trans (by repeat (first | (with_reducible first | exact HK.out | apply KeepBut.set_ | apply keep_drewN | apply keep_drew | apply keep_alloc | refine keep_far ?_ GW288.out _ | refine keep_far ?_ GW304.out _ | refine keep_far ?_ GW305.out _) | exact HK.out)) hk (.inl rfl))
           have n5_ := Aside0.mk (hb)
           have n6_ := Aside0.mk (hi)
           clear HO_306006
           clear BK288
           clear BK304
           clear BK305
           clear HK
           clear HB
           clear HI0
           have HO_306006 := n0_
           have BK288 := n1_
           have BK304 := n2_
           have BK305 := n3_
           have HK := n4_
           have HB := n5_
           have HI0 := n6_
           clear n0_ n1_ n2_ n3_ n4_ n5_ n6_
           (try clear hb)
           (try clear hb2)
           (try clear hk)
           (try clear hi)
           refine hK.out _ _ ⟨(blk_cell BK305.out 0).trans rfl, (blk_cell BK305.out 1).trans rfl, (blk_cell BK305.out 2).trans rfl, (blk_cell BK305.out 3).trans rfl, (blk_cell BK305.out 4).trans rfl, (blk_cell BK305.out 5).trans rfl, (blk_cell BK305.out 6).trans rfl⟩ (fun hHeld => ?_)
           clear hK K
           refine norm_ (a' := ?_) ?_ ?_
           rotate_left
           ·show Act.put _ (some 63) _ = _
            simp only [Act.put, List.setIfInBounds_toArray, List.set_cons_zero, List.set_cons_succ, i64_w, i32_w]
            rfl
           refine one_ (i := 4) (N := some 64) (mb_ 8 31) rfl rfl (one_of HT_.out (by kernel_rfl)) (by decide) (fun K hK => ?_)
           refine value_ (w1 := ?_) (v := ?_) (by rfl) rfl ?_ ?_
           rotate_left 2
           ·go_simp
            constructor
            ·rfl
            ·rfl
           refine hK.out _ _ ⟨(blk_cell (blk_alloc BK305.out _) 0).trans rfl, (blk_cell (blk_alloc BK305.out _) 1).trans rfl, (blk_cell (blk_alloc BK305.out _) 2).trans rfl, (blk_cell (blk_alloc BK305.out _) 3).trans rfl, (blk_cell (blk_alloc BK305.out _) 4).trans rfl, (blk_cell (blk_alloc BK305.out _) 5).trans rfl, (blk_cell (blk_alloc BK305.out _) 6).trans rfl⟩ (fun hHeld => ?_)
           clear hK K
           refine norm_ (a' := ?_) ?_ ?_
           rotate_left
           ·show Act.put _ (some 64) _ = _
            simp only [Act.put, List.setIfInBounds_toArray, List.set_cons_zero, List.set_cons_succ, i64_w, i32_w]
            rfl
           refine one_ (i := 5) (N := some 65) (mb_ 8 63) rfl rfl (one_of HT_.out (by kernel_rfl)) (by decide) (fun K hK => ?_)
           refine Kd.R_append_step (Kd.int .i64) w.heap.size (by rfl) (.tmp 61) (.tmp 64) 43 3 (.int .i64 0) 8 rfl Try.underlying43 info3 rfl (by decide) (by omega) u306006 x306006_3 t309 [.int .i64 t309] (fun _ => True) (fun _ => False) rfl rfl ?aP (fun _ hk => hk.elim) ?aF ?aO (Below.refl _ _) ?aS ?aL ?_
           (case aP => exact rfl)
           (case aF => exact (fun _ _ => trivial))
           (case aO => exact (by (with_reducible repeat (first | apply Kd.R_alloc | apply Kd.R_drewN | apply Kd.R_drew)); exact HO_306006.out))
           (case aS => exact (keep_size (w := w) (g := g) (row := none) (by repeat (first | (with_reducible first | exact HK.out | apply KeepBut.set_ | apply keep_drewN | apply keep_drew | apply keep_alloc | refine keep_far ?_ GW288.out _ | refine keep_far ?_ GW304.out _ | refine keep_far ?_ GW305.out _) | exact HK.out))))
           (case aL => have := LMc35.out; omega)
           intro v313 w39 ho hb hg hat
           rw [← Ny312.out] at ho
           have n0_ := Aside0.mk (blk_grown (kb_ BK288) hg (Kd.R_ne HO_306006.out BK288.out (by decide)))
           have n1_ := Aside0.mk (blk_grown (kb_ BK304) hg (Kd.R_ne HO_306006.out BK304.out (by decide)))
           have n2_ := Aside0.mk (blk_grown (kb_ BK305) hg (Kd.R_ne HO_306006.out BK305.out (by decide)))
           have n3_ := Aside0.mk (IsS67.grown (by repeat (first | (with_reducible first | exact HI0.out | apply IsS67.alloc | apply IsS67.drewN | apply IsS67.drew | apply IsS67.set_0 | apply IsS67.set_1 | apply IsS67.far (hne := NB0_288.out) | apply IsS67.far (hne := NB0_304.out) | apply IsS67.far (hne := NB0_305.out)) | exact HI0.out)) hg (IsS67.own_ne HI0.out HO_306006.out (by decide)))
           have n4_ := Aside0.mk (below_weaken (by repeat (first | (with_reducible first | exact HB.out | apply a1_ | apply a2_ | apply a3_ | refine below_set ?_ (IsS67.ge HI0.out) | refine below_set ?_ GE288.out | refine below_set ?_ GE304.out | refine below_set ?_ GE305.out) | exact HB.out)) HL.out hb)
           have n5_ := Aside0.mk (KeepBut.trans (by repeat (first | (with_reducible first | exact HK.out | apply KeepBut.set_ | apply keep_drewN | apply keep_drew | apply keep_alloc | refine keep_far ?_ GW288.out _ | refine keep_far ?_ GW304.out _ | refine keep_far ?_ GW305.out _) | exact HK.out)) (KeepBut.of_grown hg g) (Kd.R_base2 HO_306006.out))
           have n6_ := Aside0.mk (ho)
           clear BK288
           clear BK304
           clear BK305
           clear HI0
           clear HB
           clear HK
           clear HO_306006
           have BK288 := n0_
           have BK304 := n1_
           have BK305 := n2_
           have HI0 := n3_
           have HB := n4_
           have HK := n5_
           have HO314 := n6_
           clear n0_ n1_ n2_ n3_ n4_ n5_ n6_
           clear ho hb hg hat
           obtain ⟨Ao40, co40, eo40⟩ := Kd.R_slice HO314.out
           (first | subst eo40 | (injection eo40 with f1_ f2_ f3_; have f4_ := f1_.symm; have f5_ := f3_.symm; clear f1_ f2_ f3_; subst f4_; subst f5_))
           refine hK.out _ _ ⟨(blk_cell BK305.out 0).trans rfl, (blk_cell BK305.out 1).trans rfl, (blk_cell BK305.out 2).trans rfl, (blk_cell BK305.out 3).trans rfl, (blk_cell BK305.out 4).trans rfl, (blk_cell BK305.out 5).trans rfl, (blk_cell BK305.out 6).trans rfl⟩ (fun hHeld => ?_)
           clear hK K
           refine norm_ (a' := ?_) ?_ ?_
           rotate_left
           ·show Act.put _ (some 65) _ = _
            simp only [Act.put, List.setIfInBounds_toArray, List.set_cons_zero, List.set_cons_succ, i64_w, i32_w]
            rfl
           refine pq_ 6 66 (mb_ 8 127) HT_.out ?_
           refine last_ (i := 7) (N := none) (mb_ 8 255) rfl rfl (one_of HT_.out (by kernel_rfl)) (by decide) (fun K hK => ?_)
           have hs41 : w39.cell? ⟨gb305, 6, none⟩ = some (u306006) := (blk_cell BK305.out 6).trans rfl
           have hfs41 := blk_frozen BK305.out 6
           have hns41_0 := NB288_305.out
           have hns41_1 := NB304_305.out
           have hms41_0 := NB305_288.out
           have hms41_1 := NB305_304.out
           refine skip_ (w1 := ?_) (by rfl) rfl ?_ ?_
           rotate_left
           ·go_simp
            rfl
           refine hK.out _ _ ?_
           clear hK K
           refine done_ (done_of HT_.out (by kernel_rfl)) ?_
           try go_wp2
           go_roundg k3
           case measure => have := HJ2.out; have := HJ8.out; have := HK3.out; omega
           case rel => exact ⟨(wrap64 (x8_3 - 1)), (t310), (t311), (y312), (.slice Ao40 y312.length co40), r_, H', ⟨by have := HJ2.out; have := HJ8.out; have := HK3.out; omega⟩, ⟨by (with_reducible repeat (first | apply Kd.R_alloc | apply Kd.R_drewN | apply Kd.R_drew)); exact Kd.R_mono (Kd.R_far (p := ⟨gb305, 6, none⟩) (Kd.R_types HO314.out BK305.out (by decide)) (fun _ hk => hk.2) (.slice Ao40 y312.length co40)) (fun _ hk => trivial)⟩, ⟨kb_ BK288⟩, ⟨kb_ BK304⟩, ⟨by (with_reducible repeat (first | refine blk_drewN ?_ _ | refine blk_drew ?_ | refine blk_alloc ?_ _)); refine blk_put (cs := #[.bool (t289 == 1), .int .i64 t298, .int .i64 t299, .int .i64 t300, .bool t301, .string t302, u306006]) ?_ 6 _ rfl; (with_reducible repeat (first | refine blk_drewN ?_ _ | refine blk_drew ?_ | refine blk_alloc ?_ _)); exact BK305.out⟩, ⟨by repeat (first | (with_reducible first | exact HI0.out | apply IsS67.alloc | apply IsS67.drewN | apply IsS67.drew | apply IsS67.set_0 | apply IsS67.set_1 | apply IsS67.far (hne := NB0_288.out) | apply IsS67.far (hne := NB0_304.out) | apply IsS67.far (hne := NB0_305.out)) | exact HI0.out)⟩, ⟨by repeat (first | (with_reducible first | exact HK.out | apply KeepBut.set_ | apply keep_drewN | apply keep_drew | apply keep_alloc | refine keep_far ?_ GW288.out _ | refine keep_far ?_ GW304.out _ | refine keep_far ?_ GW305.out _) | exact HK.out)⟩, ⟨by repeat (first | (with_reducible first | exact HB.out | apply a1_ | apply a2_ | apply a3_ | refine below_set ?_ (IsS67.ge HI0.out) | refine below_set ?_ GE288.out | refine below_set ?_ GE304.out | refine below_set ?_ GE305.out) | exact HB.out)⟩⟩
          ·rw [if_neg c35] at H
           exact absurd H (by simp)
         ·rw [if_neg c33] at H
          have c33b0 : (x1001_3 == 0) = false := beq_eq_false_iff_ne.mpr c33
          have c33b1 : (x1001_3 != 0) = true := bne_iff_ne.mpr c33
          simp only [Option.some.injEq, Prod.mk.injEq] at H
          obtain ⟨rfl, rfl, rfl, rfl, rfl, rfl, rfl, rfl, rfl⟩ := H
          obtain ⟨HGz42, hgz42⟩ := HI0.out
          have hcz42_0 := cellS67_0 HGz42
          have hcz42_1 := cellS67_1 HGz42
          have hfz42_0 := blk_frozen HGz42 0
          have hfz42_1 := blk_frozen HGz42 1
          clear HGz42 hgz42
          have hnb43 := NB305_288.out
          have hnc43 := NB288_305.out
          have hnb44 := NB305_304.out
          have hnc44 := NB304_305.out
          have hnb45 := NB305_0.out
          have hnc45 := NB0_305.out
          obtain ⟨hcz46_0, hcz46_1, hcz46_2, hcz46_3, hcz46_4, hcz46_5, hcz46_6, hfz46_0, hfz46_1, hfz46_2, hfz46_3, hfz46_4, hfz46_5, hfz46_6⟩ := bb7_ BK305.out
          have hnb47 := NB288_304.out
          have hnc47 := NB304_288.out
          have hnb48 := NB288_0.out
          have hnc48 := NB0_288.out
          obtain ⟨hcz49_0, hcz49_1, hcz49_2, hcz49_3, hcz49_4, hcz49_5, hcz49_6, hfz49_0, hfz49_1, hfz49_2, hfz49_3, hfz49_4, hfz49_5, hfz49_6⟩ := bb7_ BK288.out
          obtain ⟨Ao50, co50, eo50⟩ := Kd.R_slice HO_306006.out
          subst eo50
          go_wp2
          refine bodyPost_ret (results_cell_row rfl _ _ gb288 45 #[.bool (t289 == 1), .int .i64 t298, .int .i64 t299, .int .i64 t300, .bool t301, .string t302, .slice Ao50 x306006_3.length co50] (0, 0) _ rfl (by (with_reducible repeat (first | refine blk_drewN ?_ _ | refine blk_drew ?_ | refine blk_alloc ?_ _)); refine blk_put (cs := #[.bool (t289 == 1), .int .i64 t298, .int .i64 t299, .int .i64 t300, .bool t301, .string t302, .slice none 0 0]) ?_ 6 _ rfl; (with_reducible repeat (first | refine blk_drewN ?_ _ | refine blk_drew ?_ | refine blk_alloc ?_ _)); refine blk_put (cs := #[.bool (t289 == 1), .int .i64 t298, .int .i64 t299, .int .i64 t300, .bool t301, .string va2_, .slice none 0 0]) ?_ 5 _ rfl; (with_reducible repeat (first | refine blk_drewN ?_ _ | refine blk_drew ?_ | refine blk_alloc ?_ _)); refine blk_put (cs := #[.bool (t289 == 1), .int .i64 t298, .int .i64 t299, .int .i64 t300, .bool false, .string va2_, .slice none 0 0]) ?_ 4 _ rfl; (with_reducible repeat (first | refine blk_drewN ?_ _ | refine blk_drew ?_ | refine blk_alloc ?_ _)); refine blk_put (cs := #[.bool (t289 == 1), .int .i64 t298, .int .i64 t299, .int .i64 0, .bool false, .string va2_, .slice none 0 0]) ?_ 3 _ rfl; (with_reducible repeat (first | refine blk_drewN ?_ _ | refine blk_drew ?_ | refine blk_alloc ?_ _)); refine blk_put (cs := #[.bool (t289 == 1), .int .i64 t298, .int .i64 0, .int .i64 0, .bool false, .string va2_, .slice none 0 0]) ?_ 2 _ rfl; (with_reducible repeat (first | refine blk_drewN ?_ _ | refine blk_drew ?_ | refine blk_alloc ?_ _)); refine blk_put (cs := #[.bool (t289 == 1), .int .i64 0, .int .i64 0, .int .i64 0, .bool false, .string va2_, .slice none 0 0]) ?_ 1 _ rfl; (with_reducible repeat (first | refine blk_drewN ?_ _ | refine blk_drew ?_ | refine blk_alloc ?_ _)); refine blk_put (cs := #[.bool false, .int .i64 0, .int .i64 0, .int .i64 0, .bool false, .string va2_, .slice none 0 0]) ?_ 0 _ rfl; (with_reducible repeat (first | refine blk_drewN ?_ _ | refine blk_drew ?_ | refine blk_alloc ?_ _)); exact BK288.out) Try.underlying45 rfl (by kernel_rfl)) rfl ?_
          exact ⟨_, rfl, by (with_reducible repeat (first | apply Kd.R_alloc | apply Kd.R_drewN | apply Kd.R_drew)); exact Kd.R_mono (Kd.R_far (p := ⟨gb288, 6, none⟩) (Kd.R_far (p := ⟨gb288, 5, none⟩) (Kd.R_far (p := ⟨gb288, 4, none⟩) (Kd.R_far (p := ⟨gb288, 3, none⟩) (Kd.R_far (p := ⟨gb288, 2, none⟩) (Kd.R_far (p := ⟨gb288, 1, none⟩) (Kd.R_far (p := ⟨gb288, 0, none⟩) (Kd.R_types HO_306006.out BK288.out (by decide)) (fun _ hk => hk.2) (.bool (t289 == 1))) (fun _ hk => hk.2) (.int .i64 t298)) (fun _ hk => hk.2) (.int .i64 t299)) (fun _ hk => hk.2) (.int .i64 t300)) (fun _ hk => hk.2) (.bool t301)) (fun _ hk => hk.2) (.string t302)) (fun _ hk => hk.2) (.slice Ao50 x306006_3.length co50)) (fun _ hk => trivial), by repeat (first | (with_reducible first | exact HI0.out | apply IsS67.alloc | apply IsS67.drewN | apply IsS67.drew | apply IsS67.set_0 | apply IsS67.set_1 | apply IsS67.far (hne := NB0_288.out) | apply IsS67.far (hne := NB0_304.out) | apply IsS67.far (hne := NB0_305.out)) | exact HI0.out), by repeat (first | (with_reducible first | exact HB.out | apply a1_ | apply a2_ | apply a3_ | refine below_set ?_ (IsS67.ge HI0.out) | refine below_set ?_ GE288.out | refine below_set ?_ GE304.out | refine below_set ?_ GE305.out) | exact HB.out), by repeat (first | (with_reducible first | exact HK.out | apply KeepBut.set_ | apply keep_drewN | apply keep_drew | apply keep_alloc | refine keep_far ?_ GW288.out _ | refine keep_far ?_ GW304.out _ | refine keep_far ?_ GW305.out _) | exact HK.out)⟩
        ·rw [if_neg c32] at H
         have c32b0 : decide (0 < x8_3) = false := decide_eq_false c32
         clear c32
         simp only [Option.some.injEq, Prod.mk.injEq] at H
         obtain ⟨rfl, rfl, rfl, rfl, rfl, rfl, rfl, rfl, rfl⟩ := H
         have hnb51 := NB305_288.out
         have hnc51 := NB288_305.out
         have hnb52 := NB305_304.out
         have hnc52 := NB304_305.out
         have hnb53 := NB305_0.out
         have hnc53 := NB0_305.out
         obtain ⟨hcz54_0, hcz54_1, hcz54_2, hcz54_3, hcz54_4, hcz54_5, hcz54_6, hfz54_0, hfz54_1, hfz54_2, hfz54_3, hfz54_4, hfz54_5, hfz54_6⟩ := bb7_ BK305.out
         have hnb55 := NB288_304.out
         have hnc55 := NB304_288.out
         have hnb56 := NB288_0.out
         have hnc56 := NB0_288.out
         obtain ⟨hcz57_0, hcz57_1, hcz57_2, hcz57_3, hcz57_4, hcz57_5, hcz57_6, hfz57_0, hfz57_1, hfz57_2, hfz57_3, hfz57_4, hfz57_5, hfz57_6⟩ := bb7_ BK288.out
         obtain ⟨Ao58, co58, eo58⟩ := Kd.R_slice HO_306006.out
         subst eo58
         go_wp2
         refine bodyPost_ret (results_cell_row rfl _ _ gb288 45 #[.bool (t289 == 1), .int .i64 t298, .int .i64 t299, .int .i64 t300, .bool t301, .string t302, .slice Ao58 x306006_3.length co58] (0, 0) _ rfl (by (with_reducible repeat (first | refine blk_drewN ?_ _ | refine blk_drew ?_ | refine blk_alloc ?_ _)); refine blk_put (cs := #[.bool (t289 == 1), .int .i64 t298, .int .i64 t299, .int .i64 t300, .bool t301, .string t302, .slice none 0 0]) ?_ 6 _ rfl; (with_reducible repeat (first | refine blk_drewN ?_ _ | refine blk_drew ?_ | refine blk_alloc ?_ _)); refine blk_put (cs := #[.bool (t289 == 1), .int .i64 t298, .int .i64 t299, .int .i64 t300, .bool t301, .string va2_, .slice none 0 0]) ?_ 5 _ rfl; (with_reducible repeat (first | refine blk_drewN ?_ _ | refine blk_drew ?_ | refine blk_alloc ?_ _)); refine blk_put (cs := #[.bool (t289 == 1), .int .i64 t298, .int .i64 t299, .int .i64 t300, .bool false, .string va2_, .slice none 0 0]) ?_ 4 _ rfl; (with_reducible repeat (first | refine blk_drewN ?_ _ | refine blk_drew ?_ | refine blk_alloc ?_ _)); refine blk_put (cs := #[.bool (t289 == 1), .int .i64 t298, .int .i64 t299, .int .i64 0, .bool false, .string va2_, .slice none 0 0]) ?_ 3 _ rfl; (with_reducible repeat (first | refine blk_drewN ?_ _ | refine blk_drew ?_ | refine blk_alloc ?_ _)); refine blk_put (cs := #[.bool (t289 == 1), .int .i64 t298, .int .i64 0, .int .i64 0, .bool false, .string va2_, .slice none 0 0]) ?_ 2 _ rfl; (with_reducible repeat (first | refine blk_drewN ?_ _ | refine blk_drew ?_ | refine blk_alloc ?_ _)); refine blk_put (cs := #[.bool (t289 == 1), .int .i64 0, .int .i64 0, .int .i64 0, .bool false, .string va2_, .slice none 0 0]) ?_ 1 _ rfl; (with_reducible repeat (first | refine blk_drewN ?_ _ | refine blk_drew ?_ | refine blk_alloc ?_ _)); refine blk_put (cs := #[.bool false, .int .i64 0, .int .i64 0, .int .i64 0, .bool false, .string va2_, .slice none 0 0]) ?_ 0 _ rfl; (with_reducible repeat (first | refine blk_drewN ?_ _ | refine blk_drew ?_ | refine blk_alloc ?_ _)); exact BK288.out) Try.underlying45 rfl (by kernel_rfl)) rfl ?_
         exact ⟨_, rfl, by (with_reducible repeat (first | apply Kd.R_alloc | apply Kd.R_drewN | apply Kd.R_drew)); exact Kd.R_mono (Kd.R_far (p := ⟨gb288, 6, none⟩) (Kd.R_far (p := ⟨gb288, 5, none⟩) (Kd.R_far (p := ⟨gb288, 4, none⟩) (Kd.R_far (p := ⟨gb288, 3, none⟩) (Kd.R_far (p := ⟨gb288, 2, none⟩) (Kd.R_far (p := ⟨gb288, 1, none⟩) (Kd.R_far (p := ⟨gb288, 0, none⟩) (Kd.R_types HO_306006.out BK288.out (by decide)) (fun _ hk => hk.2) (.bool (t289 == 1))) (fun _ hk => hk.2) (.int .i64 t298)) (fun _ hk => hk.2) (.int .i64 t299)) (fun _ hk => hk.2) (.int .i64 t300)) (fun _ hk => hk.2) (.bool t301)) (fun _ hk => hk.2) (.string t302)) (fun _ hk => hk.2) (.slice Ao58 x306006_3.length co58)) (fun _ hk => trivial), by repeat (first | (with_reducible first | exact HI0.out | apply IsS67.alloc | apply IsS67.drewN | apply IsS67.drew | apply IsS67.set_0 | apply IsS67.set_1 | apply IsS67.far (hne := NB0_288.out) | apply IsS67.far (hne := NB0_304.out) | apply IsS67.far (hne := NB0_305.out)) | exact HI0.out), by repeat (first | (with_reducible first | exact HB.out | apply a1_ | apply a2_ | apply a3_ | refine below_set ?_ (IsS67.ge HI0.out) | refine below_set ?_ GE288.out | refine below_set ?_ GE304.out | refine below_set ?_ GE305.out) | exact HB.out), by repeat (first | (with_reducible first | exact HK.out | apply KeepBut.set_ | apply keep_drewN | apply keep_drew | apply keep_alloc | refine keep_far ?_ GW288.out _ | refine keep_far ?_ GW304.out _ | refine keep_far ?_ GW305.out _) | exact HK.out)⟩
     ·rw [if_neg c14] at H
      have c14b0 : (t297 == 0) = false := beq_eq_false_iff_ne.mpr c14
      have c14b1 : (t297 != 0) = true := bne_iff_ne.mpr c14
      simp only [Option.some.injEq, Prod.mk.injEq] at H
      obtain ⟨rfl, rfl, rfl, rfl, rfl, rfl, rfl, rfl, rfl⟩ := H
      go_wp2_with (first | ((with_reducible refine gate_callee (f := 41) rfl ?_); refine gl_ (some 25) Try.func41 #[.pointer (some ⟨g, 0, none⟩), .int .i64 2] ?_; (with_reducible refine (outlawref25_reader_number.calls kj8 g t290 x1001_8 2 t292 t293 t294 w0 _ ?side1 ?side2 A12.out).mono ?_); (case side1 => repeat (first | (with_reducible first | exact HI0.out | apply IsS67.alloc | apply IsS67.drewN | apply IsS67.drew | apply IsS67.set_0 | apply IsS67.set_1 | apply IsS67.far (hne := NB0_288.out)) | exact HI0.out)); (case side2 => repeat (first | (with_reducible first | exact HB.out | apply a1_ | apply a2_ | apply a3_ | refine below_set ?_ (IsS67.ge HI0.out) | refine below_set ?_ GE288.out) | exact HB.out)); rintro e w59 ⟨rfl, hi, hb, hk⟩; refine ⟨_, rfl, ?_⟩; have n0_ := Aside0.mk (KeepBut.blk hk (g' := gb288) (o := .cells #[.bool false, .int .i64 0, .int .i64 0, .int .i64 0, .bool false, .string va2_, .slice none 0 0] 45 (0, 0)) (kb_ BK288) NB288_0.out (by simp)); have n1_ := Aside0.mk (KeepBut.trans (by repeat (first | (with_reducible first | exact HK.out | apply KeepBut.set_ | apply keep_drewN | apply keep_drew | apply keep_alloc | refine keep_far ?_ GW288.out _) | exact HK.out)) hk (.inl rfl)); have n2_ := Aside0.mk (hb); have n3_ := Aside0.mk (hi); clear BK288; clear HK; clear HB; clear HI0; have BK288 := n0_; have HK := n1_; have HB := n2_; have HI0 := n3_; clear n0_ n1_ n2_ n3_; (try clear hb); (try clear hk)) | ((with_reducible refine gate_callee (f := 40) rfl ?_); refine gl_ (some 26) Try.func40 #[.pointer (some ⟨g, 0, none⟩), .int .i64 t292] ?_; (with_reducible refine (outlawref25_reader_take.calls kj8 g t293 t294 t292 t295 t296 t297 w0 _ ?side1 ?side2 A13.out).mono ?_); (case side1 => repeat (first | (with_reducible first | exact HI0.out | apply IsS67.alloc | apply IsS67.drewN | apply IsS67.drew | apply IsS67.set_0 | apply IsS67.set_1 | apply IsS67.far (hne := NB0_288.out)) | exact HI0.out)); (case side2 => repeat (first | (with_reducible first | exact HB.out | apply a1_ | apply a2_ | apply a3_ | refine below_set ?_ (IsS67.ge HI0.out) | refine below_set ?_ GE288.out) | exact HB.out)); rintro e w60 ⟨rfl, hi, hb, hk⟩; refine ⟨_, rfl, ?_⟩; have n0_ := Aside0.mk (KeepBut.blk hk (g' := gb288) (o := .cells #[.bool false, .int .i64 0, .int .i64 0, .int .i64 0, .bool false, .string va2_, .slice none 0 0] 45 (0, 0)) (kb_ BK288) NB288_0.out (by simp)); have n1_ := Aside0.mk (KeepBut.trans (by repeat (first | (with_reducible first | exact HK.out | apply KeepBut.set_ | apply keep_drewN | apply keep_drew | apply keep_alloc | refine keep_far ?_ GW288.out _) | exact HK.out)) hk (.inl rfl)); have n2_ := Aside0.mk (hb); have n3_ := Aside0.mk (hi); clear BK288; clear HK; clear HB; clear HI0; have BK288 := n0_; have HK := n1_; have HB := n2_; have HI0 := n3_; clear n0_ n1_ n2_ n3_; (try clear hb); (try clear hk); obtain ⟨HGz61, hgz61⟩ := HI0.out; have hcz61_0 := cellS67_0 HGz61; have hcz61_1 := cellS67_1 HGz61; have hfz61_0 := blk_frozen HGz61 0; have hfz61_1 := blk_frozen HGz61 1; clear HGz61 hgz61; have hnb62 := NB288_0.out; have hnc62 := NB0_288.out; obtain ⟨hcz63_0, hcz63_1, hcz63_2, hcz63_3, hcz63_4, hcz63_5, hcz63_6, hfz63_0, hfz63_1, hfz63_2, hfz63_3, hfz63_4, hfz63_5, hfz63_6⟩ := bb7_ BK288.out))
      refine bodyPost_ret (results_cell_row rfl _ _ gb288 45 #[.bool false, .int .i64 0, .int .i64 0, .int .i64 0, .bool false, .string va2_, .slice none 0 0] (0, 0) _ rfl (by (with_reducible repeat (first | refine blk_drewN ?_ _ | refine blk_drew ?_ | refine blk_alloc ?_ _)); refine blk_put (cs := #[.bool false, .int .i64 0, .int .i64 0, .int .i64 0, .bool false, .string va2_, .slice none 0 0]) ?_ 6 _ rfl; (with_reducible repeat (first | refine blk_drewN ?_ _ | refine blk_drew ?_ | refine blk_alloc ?_ _)); refine blk_put (cs := #[.bool false, .int .i64 0, .int .i64 0, .int .i64 0, .bool false, .string va2_, .slice none 0 0]) ?_ 5 _ rfl; (with_reducible repeat (first | refine blk_drewN ?_ _ | refine blk_drew ?_ | refine blk_alloc ?_ _)); refine blk_put (cs := #[.bool false, .int .i64 0, .int .i64 0, .int .i64 0, .bool false, .string va2_, .slice none 0 0]) ?_ 4 _ rfl; (with_reducible repeat (first | refine blk_drewN ?_ _ | refine blk_drew ?_ | refine blk_alloc ?_ _)); refine blk_put (cs := #[.bool false, .int .i64 0, .int .i64 0, .int .i64 0, .bool false, .string va2_, .slice none 0 0]) ?_ 3 _ rfl; (with_reducible repeat (first | refine blk_drewN ?_ _ | refine blk_drew ?_ | refine blk_alloc ?_ _)); refine blk_put (cs := #[.bool false, .int .i64 0, .int .i64 0, .int .i64 0, .bool false, .string va2_, .slice none 0 0]) ?_ 2 _ rfl; (with_reducible repeat (first | refine blk_drewN ?_ _ | refine blk_drew ?_ | refine blk_alloc ?_ _)); refine blk_put (cs := #[.bool false, .int .i64 0, .int .i64 0, .int .i64 0, .bool false, .string va2_, .slice none 0 0]) ?_ 1 _ rfl; (with_reducible repeat (first | refine blk_drewN ?_ _ | refine blk_drew ?_ | refine blk_alloc ?_ _)); refine blk_put (cs := #[.bool false, .int .i64 0, .int .i64 0, .int .i64 0, .bool false, .string va2_, .slice none 0 0]) ?_ 0 _ rfl; (with_reducible repeat (first | refine blk_drewN ?_ _ | refine blk_drew ?_ | refine blk_alloc ?_ _)); exact BK288.out) Try.underlying45 rfl (by kernel_rfl)) rfl ?_
      exact ⟨_, rfl, by first | exact Kd.R_nil _ _ _ _ _ | exact Kd.N_nil _ _ _ _ _ | exact Kd.V_nil _ _ _ _ _ | exact Kd.Q_nil _ _ _ _ _ | exact Kd.S_nil _ _ _ _ _, by repeat (first | (with_reducible first | exact HI0.out | apply IsS67.alloc | apply IsS67.drewN | apply IsS67.drew | apply IsS67.set_0 | apply IsS67.set_1 | apply IsS67.far (hne := NB0_288.out)) | exact HI0.out), by repeat (first | (with_reducible first | exact HB.out | apply a1_ | apply a2_ | apply a3_ | refine below_set ?_ (IsS67.ge HI0.out) | refine below_set ?_ GE288.out) | exact HB.out), by repeat (first | (with_reducible first | exact HK.out | apply KeepBut.set_ | apply keep_drewN | apply keep_drew | apply keep_alloc | refine keep_far ?_ GW288.out _) | exact HK.out)⟩
end Go.Proofs.Ytfgibjkgiolonaa.PA
