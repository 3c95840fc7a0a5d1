import Derived.Test.YtfgibjkgiolonaaWm
import Derived.Test.YtfgibjkgiolonaaPAx0
import Derived.Test.YtfgibjkgiolonaaPAx2
namespace Go.Proofs.Ytfgibjkgiolonaa.PA
open Go.RowKit Go.Proofs.YtfgibjkgiolonaaW.PrintWords Go.Proofs.YtfgibjkgiolonaaW.PrintLast Go.Proofs.YtfgibjkgiolonaaW.PrintMore Go.Proofs.YtfgibjkgiolonaaG Go.Proofs.YtfgibjkgiolonaaX Go.Proofs.YtfgibjkgiolonaaI Go.Proofs.Ytfgibjkgiolonaa.PR
attribute [local go_sem] max2_int min2_int max_two min_two max_three min_three max_four min_four
set_option linter.unusedVariables false
set_option linter.unusedSimpArgs false
mutual
def script_Bytes.l0 : Nat → List Int → List (S45) → Int → Int → Option (ByteArray × Int)
 | 0, _, _, _, _ => none
 | k + 1, x6, x39, x40, x41 => if x41 < x40 then (if 0 ≤ x41 then (if x41 < (x39.length : Int) then (if (rd_T45 x39 x41).f0 = true then (script_Bytes.j1 k x6 1 x39 x40 x41 ((rd_T45 x39 x41).f0) ((rd_T45 x39 x41).f1.f0) ((rd_T45 x39 x41).f1.f1) ((rd_T45 x39 x41).f1.f2) ((rd_T45 x39 x41).f1.f3) ((rd_T45 x39 x41).f1.f4) ((rd_T45 x39 x41).f2)) else (script_Bytes.j1 k x6 0 x39 x40 x41 ((rd_T45 x39 x41).f0) ((rd_T45 x39 x41).f1.f0) ((rd_T45 x39 x41).f1.f1) ((rd_T45 x39 x41).f1.f2) ((rd_T45 x39 x41).f1.f3) ((rd_T45 x39 x41).f1.f4) ((rd_T45 x39 x41).f2))) else (none)) else (none)) else (some (strOfNums x6, 0))
def script_Bytes.j1 : Nat → List Int → Int → List (S45) → Int → Int → Bool → Int → Int → Int → Bool → ByteArray → List Int → Option (ByteArray × Int)
 | 0, _, _, _, _, _, _, _, _, _, _, _, _ => none
 | k + 1, x6, x9, x39, x40, x41, x153000, x153001, x153002, x153003, x153004, x153005, x153006 => (record_Bytes.f k x153001 x153002 x153003 x153004 x153005).bind fun bt153 => (if x6.length < 140737488355328 then ((script_two.f (x6 ++ [x9]) (bt153.1.size : Int)).bind fun t158 => (if t158.length + bt153.1.size < 140737488355328 then ((some (t158 ++ bytesOf bt153.1 : List Int)).bind fun y161 => (if x153000 = true then (if y161.length < 140737488355328 then (script_Bytes.l1 k (y161 ++ [((x153006.length : Int)) % 256]) x39 x40 x41 x153006 (x153006.length : Int) 0) else (none)) else (script_Bytes.l0 k y161 x39 x40 (wrap64 (x41 + 1))))) else (none))) else (none))
def script_Bytes.l1 : Nat → List Int → List (S45) → Int → Int → List Int → Int → Int → Option (ByteArray × Int)
 | 0, _, _, _, _, _, _, _ => none
 | k + 1, x6, x39, x40, x41, x73, x74, x75 => if x75 < x74 then (if 0 ≤ x75 then (if x75 < (x73.length : Int) then ((script_two.f x6 (rd x73 x75)).bind fun t168 => (script_Bytes.l1 k t168 x39 x40 x41 x73 x74 (wrap64 (x75 + 1)))) else (none)) else (none)) else (script_Bytes.l0 k x6 x39 x40 (wrap64 (x41 + 1)))
end
def script_Bytes.f (k : Nat) (a0_0 : ByteArray) (a0_1 : Int) (l0_2 : List (S45)) : Option (ByteArray × Int) := (script_Check.f k a0_0 a0_1 l0_2).bind fun bt137 => (if bt137.2 = 0 then ((some (([((a0_0.size : Int)) % 256] : List Int) : List Int)).bind fun y139 => (if y139.length + a0_0.size < 140737488355328 then ((script_two.f (y139 ++ bytesOf a0_0) a0_1).bind fun t145 => ((script_two.f t145 (l0_2.length : Int)).bind fun t148 => (script_Bytes.l0 k t148 l0_2 (l0_2.length : Int) 0))) else (none))) else (some ((⟨#[]⟩ : ByteArray), bt137.2)))
theorem script_Bytes.mono_l : ∀ k, (∀ y0 y1 y2 y3, LeO (script_Bytes.l0 k y0 y1 y2 y3) (script_Bytes.l0 (k + 1) y0 y1 y2 y3)) ∧ (∀ y0 y1 y2 y3 y4 y5 y6 y7 y8 y9 y10 y11, LeO (script_Bytes.j1 k y0 y1 y2 y3 y4 y5 y6 y7 y8 y9 y10 y11) (script_Bytes.j1 (k + 1) y0 y1 y2 y3 y4 y5 y6 y7 y8 y9 y10 y11)) ∧ (∀ y0 y1 y2 y3 y4 y5 y6, LeO (script_Bytes.l1 k y0 y1 y2 y3 y4 y5 y6) (script_Bytes.l1 (k + 1) y0 y1 y2 y3 y4 y5 y6))
 | 0 => ⟨fun _ _ _ _ r h => by simp [script_Bytes.l0] at h, fun _ _ _ _ _ _ _ _ _ _ _ _ r h => by simp [script_Bytes.j1] at h, fun _ _ _ _ _ _ _ r h => by simp [script_Bytes.l1] at h⟩
 | k + 1 => by
  obtain ⟨ih0, ih1, ih2⟩ := script_Bytes.mono_l k
  refine ⟨?_, ?_, ?_⟩
  ·intro y0 y1 y2 y3
   unfold script_Bytes.l0
   repeat' first
   | (with_reducible exact ih0 _ _ _ _)
   | (with_reducible exact ih1 _ _ _ _ _ _ _ _ _ _ _ _)
   | (with_reducible exact ih2 _ _ _ _ _ _ _)
   | (with_reducible exact record_Bytes.mono _ _ _ _ _ _)
   | (with_reducible exact script_Check.mono _ _ _ _)
   | (with_reducible exact LeO.refl _)
   | (with_reducible exact LeO.none _)
   | (with_reducible refine LeO.ite ?_ ?_)
   | (with_reducible refine LeO.bind ?_ (fun _ => ?_))
   | refine LeO.ite ?_ ?_
   | refine LeO.bind ?_ (fun _ => ?_)
  ·intro y0 y1 y2 y3 y4 y5 y6 y7 y8 y9 y10 y11
   unfold script_Bytes.j1
   repeat' first
   | (with_reducible exact ih0 _ _ _ _)
   | (with_reducible exact ih1 _ _ _ _ _ _ _ _ _ _ _ _)
   | (with_reducible exact ih2 _ _ _ _ _ _ _)
   | (with_reducible exact record_Bytes.mono _ _ _ _ _ _)
   | (with_reducible exact script_Check.mono _ _ _ _)
   | (with_reducible exact LeO.refl _)
   | (with_reducible exact LeO.none _)
   | (with_reducible refine LeO.ite ?_ ?_)
   | (with_reducible refine LeO.bind ?_ (fun _ => ?_))
   | refine LeO.ite ?_ ?_
   | refine LeO.bind ?_ (fun _ => ?_)
  ·intro y0 y1 y2 y3 y4 y5 y6
   unfold script_Bytes.l1
   repeat' first
   | (with_reducible exact ih0 _ _ _ _)
   | (with_reducible exact ih1 _ _ _ _ _ _ _ _ _ _ _ _)
   | (with_reducible exact ih2 _ _ _ _ _ _ _)
   | (with_reducible exact record_Bytes.mono _ _ _ _ _ _)
   | (with_reducible exact script_Check.mono _ _ _ _)
   | (with_reducible exact LeO.refl _)
   | (with_reducible exact LeO.none _)
   | (with_reducible refine LeO.ite ?_ ?_)
   | (with_reducible refine LeO.bind ?_ (fun _ => ?_))
   | refine LeO.ite ?_ ?_
   | refine LeO.bind ?_ (fun _ => ?_)
theorem script_Bytes.mono : ∀ a0 a1 a2 k, LeO (script_Bytes.f k a0 a1 a2) (script_Bytes.f (k + 1) a0 a1 a2) := by
 intro a0 a1 a2 k
 obtain ⟨ih0, ih1, ih2⟩ := script_Bytes.mono_l k
 unfold script_Bytes.f
 repeat' first
   | (with_reducible exact ih0 _ _ _ _)
   | (with_reducible exact ih1 _ _ _ _ _ _ _ _ _ _ _ _)
   | (with_reducible exact ih2 _ _ _ _ _ _ _)
   | (with_reducible exact record_Bytes.mono _ _ _ _ _ _)
   | (with_reducible exact script_Check.mono _ _ _ _)
   | (with_reducible exact LeO.refl _)
   | (with_reducible exact LeO.none _)
   | (with_reducible refine LeO.ite ?_ ?_)
   | (with_reducible refine LeO.bind ?_ (fun _ => ?_))
   | refine LeO.ite ?_ ?_
   | refine LeO.bind ?_ (fun _ => ?_)
def script_Bytes.T5 : Bool × List (List Nat × List Nat) := (true, [([], []), ([], []), ([1], [1]), ([0, 2], [0, 2]), ([], []), ([4], [4]), ([5], [5]), ([3, 6, 3], [3, 6]), ([7, 7, 0, 1, 2, 3, 4, 5, 6, 7], [0, 7])])
def script_Bytes.B5 : List Nat := [0, 0, 2, 7, 0, 16, 48, 127, 255]
theorem script_Bytes.tab5 : rtab .any (opsOf Try.f11 5) = script_Bytes.T5 := by kernel_rfl
theorem script_Bytes.bits5 : waitsOk script_Bytes.T5.2 script_Bytes.B5 = true := by kernel_rfl
set_option maxHeartbeats 8000000 in
set_option maxRecDepth 100000 in
theorem script_Bytes.calls (k : Nat) (a0_0 : ByteArray) (a0_1 : Int) (A0_2 : Option Addr) (c0_2 : Nat) (l0_2 : List (S45)) (r1 : ByteArray) (r2 : Int) (w : World) (hr0_2 : Kd.C k45 w A0_2 l0_2.length l0_2) (hc0_2 : l0_2.length ≤ c0_2) (h : script_Bytes.f k a0_0 a0_1 l0_2 = some (r1, r2)) :
  Calls Try.prog 11 #[.agg #[.string a0_0, .int .i64 a0_1, .slice A0_2 l0_2.length c0_2]] w fun e w' => e = .returned (.tuple #[.string r1, .int .i64 r2]) ∧ Below w.heap.size w w' := by
 have hu24 := Try.underlying24
 have hu45 := Try.underlying45
 have hu42 := Try.underlying42
 have HR0_2 := Aside0.mk hr0_2
 have HC0_2 := Aside0.mk hc0_2
 clear hr0_2 hc0_2
 have HB := Aside0.mk (Below.refl w.heap.size w)
 have H : ((script_Check.f k a0_0 a0_1 l0_2).bind fun bt137 => (if bt137.2 = 0 then ((some (([((a0_0.size : Int)) % 256] : List Int) : List Int)).bind fun y139 => (if y139.length + a0_0.size < 140737488355328 then ((script_two.f (y139 ++ bytesOf a0_0) a0_1).bind fun t145 => ((script_two.f t145 (l0_2.length : Int)).bind fun t148 => (script_Bytes.l0 k t148 l0_2 (l0_2.length : Int) 0))) else (none))) else (some ((⟨#[]⟩ : ByteArray), bt137.2)))) = some (r1, r2) := h
 clear h
 replace H := Option.bind_eq_some_iff.mp H
 obtain ⟨⟨t137, t138⟩, A20, H⟩ := H
 have A2 := Aside0.mk A20
 clear A20
 by_cases c3 : t138 = 0
 ·rw [if_pos c3] at H
  have c3b0 : (t138 == 0) = true := beq_iff_eq.mpr c3
  have c3b1 : (t138 != 0) = false := bne_eq_false_iff_eq.mpr c3
  clear c3
  obtain ⟨y139, hy139⟩ : ∃ y_ : List Int, y_ = (([((a0_0.size : Int)) % 256] : List Int)) := ⟨_, rfl⟩
  first | rw [← hy139, Option.bind_some] at H | rw [← hy139] at H
  have Ny139 := Aside0.mk hy139
  clear hy139
  by_cases c4 : y139.length + a0_0.size < 140737488355328
  ·rw [if_pos c4] at H
   have LMc4 := Aside0.mk c4
   clear c4
   obtain ⟨y142, hy142⟩ : ∃ y_ : List Int, y_ = (y139 ++ bytesOf a0_0) := ⟨_, rfl⟩
   first | rw [← hy142, Option.bind_some] at H | rw [← hy142] at H
   have Ny142 := Aside0.mk hy142
   clear hy142
   replace H := Option.bind_eq_some_iff.mp H
   obtain ⟨t145, A50, H⟩ := H
   have A5 := Aside0.mk A50
   clear A50
   replace H := Option.bind_eq_some_iff.mp H
   obtain ⟨t148, A60, H⟩ := H
   have A6 := Aside0.mk A60
   clear A60
   have H' := Aside0.mk H
   clear H
   go_enter Try.func11, Try.ntmps11
   try go_wp2_with (first | ((with_reducible refine gate_dst (N := 1) rfl ?_); refine be_ 1 #[.string a0_0, .int .i64 a0_1, .slice A0_2 l0_2.length c0_2] 24 ?_; intro gb136 hg w7 hbox hb; have n0_ := Aside0.mk (below_step (bl_ HB) hb); have n1_ := Aside0.mk (hbox); have n2_ := Aside0.mk ((by rw [hg]; exact (below_size (bl_ HB)) : w.heap.size ≤ gb136)); have n3_ := Aside0.mk ((by rw [hg]; exact (below_size (bl_ HB)) : w.heap.size ≤ gb136)); clear HB; have HB := n0_; have BK136 := n1_; have GW136 := n2_; have GE136 := n3_; clear n0_ n1_ n2_ n3_; clear hb hbox hg; obtain ⟨hcz8_0, hcz8_1, hcz8_2, hfz8_0, hfz8_1, hfz8_2⟩ := bb3_ BK136.out) | ((with_reducible refine gate_callee (f := 10) rfl ?_); refine gl_ (some 16) Try.func10 #[.agg #[.string a0_0, .int .i64 a0_1, .slice A0_2 l0_2.length c0_2]] ?_; (with_reducible refine (script_Check.calls k a0_0 a0_1 _ _ l0_2 t137 t138 _ ?side1 ?side2 A2.out).mono ?_); (case side1 => repeat (first | exact (Kd.C_below HR0_2.out HB.out) | (with_reducible refine Kd.C_alloc ?_ _) | (with_reducible refine Kd.C_drewN ?_ _) | (with_reducible refine Kd.C_drew ?_))); (case side2 => exact HC0_2.out); rintro e w9 ⟨rfl, hb⟩; refine ⟨_, rfl, ?_⟩; have n0_ := Aside0.mk (blk_below (kb_ BK136) hb); have n1_ := Aside0.mk (below_step (bl_ HB) hb); clear BK136; clear HB; have BK136 := n0_; have HB := n1_; clear n0_ n1_; (try clear hb); (try clear hk); obtain ⟨hcz10_0, hcz10_1, hcz10_2, hfz10_0, hfz10_1, hfz10_2⟩ := bb3_ BK136.out) | ((with_reducible refine gate_dst (N := 26) rfl ?_); refine Kd.R_lit (Kd.int .u8) _ 5 ?hg (N := 26) ?hd (xs := ([((a0_0.size : Int)) % 256] : List Int)) (inner := [.int .u8 (((a0_0.size : Int)) % 256)]) (ok := fun _ => True) (okp := fun _ => True) ?hr ?hp (fun _ hk => hk) trivial (Below.refl _ _) (Nat.le_refl _) (by simp) ?_; (case hd => rfl); (case hg => rfl); (case hr => first | (go_simp; done) | (go_simp; rfl)); (case hp => exact (Reps.one (show Kd.M (Kd.int .u8) _ _ _ (((a0_0.size : Int)) % 256) [.int .u8 (((a0_0.size : Int)) % 256)] from rfl) (Reps.none _ _))); intro v140 w11 ho12 hb hg_ hnew_; clear hg_ hnew_; (first | rw [← Ny139.out] at ho12 | (simp only [Int.reduceToNat] at ho12; rw [← Ny139.out] at ho12)); have n0_ := Aside0.mk (Kd.R_lower ho12 (below_size (bl_ HB))); have n1_ := Aside0.mk (blk_below (kb_ BK136) hb); have n2_ := Aside0.mk (below_step (bl_ HB) hb); clear BK136; clear HB; have HO141 := n0_; have BK136 := n1_; have HB := n2_; clear n0_ n1_ n2_; clear hb ho12; obtain ⟨hcz13_0, hcz13_1, hcz13_2, hfz13_0, hfz13_1, hfz13_2⟩ := bb3_ BK136.out) | (at_builtin; refine print_append_str (w0 := w) w.heap.size rfl (.tmp 26) _ 37 9 5 rfl Try.underlying37 Try.underlying9 info5 v140 y139 a0_0 rfl rfl ?aO ?aB ?aS ?aL ?_; (case aB => exact (bl_ HB)); (case aO => exact (Kd.own_of_R (by (with_reducible repeat (first | apply Kd.R_alloc | apply Kd.R_drewN | apply Kd.R_drew)); exact HO141.out))); (case aS => exact (below_size (bl_ HB))); (case aL => have := LMc4.out; omega); intro v143 w14 ho0 hb hg; have ho := Kd.R_of_own (h1 := fun _ => rfl) (ok := fun _ => True) ho0 (fun _ _ => trivial); clear ho0; have hat := True.intro; rw [← Ny142.out] at ho; change Kd.R (Kd.int .u8) 5 w14 w.heap.size (fun _ => True) v143 y142 at ho; have n0_ := Aside0.mk (blk_grown (kb_ BK136) hg (Kd.R_ne HO141.out BK136.out (by decide))); have n1_ := Aside0.mk (hb); have n2_ := Aside0.mk (ho); clear BK136; clear HB; clear HO141; have BK136 := n0_; have HB := n1_; have HO144 := n2_; clear n0_ n1_ n2_; clear ho hb hg hat))
   have n0_ := Aside0.mk (Kd.R_drew HO144.out)
   have n1_ := Aside0.mk (blk_drew BK136.out)
   have n2_ := Aside0.mk (below_drew1 HB.out)
   clear HO144
   clear BK136
   clear HB
   have HO144 := n0_
   have BK136 := n1_
   have HB := n2_
   clear n0_ n1_ n2_
   obtain ⟨Ao16, co16, eo16⟩ := Kd.R_slice HO144.out
   (first | subst eo16 | (injection eo16 with f1_ f2_ f3_; have f4_ := f1_.symm; have f5_ := f3_.symm; clear f1_ f2_ f3_; subst f4_; subst f5_))
   refine start_ (n := 9) (S := fun w' => w'.cell? ⟨gb136, 0, none⟩ = some (.string a0_0) ∧ w'.cell? ⟨gb136, 1, none⟩ = some (.int .i64 a0_1) ∧ w'.cell? ⟨gb136, 2, none⟩ = some (.slice A0_2 l0_2.length c0_2)) (ds := []) #[F_,F_,F_,F_,F_,F_,F_,F_,F_] (by kernel_rfl) rfl rfl ⟨(blk_cell BK136.out 0).trans rfl, (blk_cell BK136.out 1).trans rfl, (blk_cell BK136.out 2).trans rfl⟩ (fun hHeld => ?_); refine with_tabW script_Bytes.tab5 script_Bytes.bits5 (fun HT_ HW_ => ?_)
   generalize w14.drew = w15 at HO144 BK136 HB hHeld ⊢
   refine pq_ 0 30 (mb_ 9 1) HT_.out ?_
   refine pq_ 1 31 (mb_ 9 3) HT_.out ?_
   refine pq_ 4 34 (mb_ 9 19) HT_.out ?_
   refine tq_ 2 32 (mb_ 9 23) HT_.out HW_.out hHeld ?_ (hr := by rintro w' ⟨s0, s1, s2⟩; go_simp; with_reducible rfl)
   refine tq_ 5 35 (mb_ 9 55) HT_.out HW_.out hHeld ?_ (hr := by rintro w' ⟨s0, s1, s2⟩; go_simp; with_reducible rfl)
   refine pq_ 6 36 (mb_ 9 119) HT_.out ?_
   refine one_ (i := 3) (N := some 33) (mb_ 9 127) rfl rfl (one_of HT_.out (by kernel_rfl)) (by decide) (fun K hK => ?_)
   refine goes_ Try.func27 (by kernel_rfl) rfl #[.slice Ao16 y142.length co16, .int .i64 a0_1] (by rfl) rfl rfl (by (try simp only [List.map_toArray, List.map_cons, List.map_nil]); first | done | rfl | (simp only [List.length_drop, List.length_take]; rfl)) ?_
   with_reducible refine (script_two.calls (fun k_ => some k_ = (.slice Ao16 y142.length co16 : Value).ownBlock) (.slice Ao16 y142.length co16) y142 a0_1 t145 w _ ?side1 ?side2 A5.out).mono ?_
   (case side1 => repeat (first | (with_reducible first | exact HB.out | apply a1_ | apply a2_ | apply a3_ | refine below_set ?_ GE136.out) | exact HB.out))
   (case side2 => exact Kd.R_tight rfl HO144.out)
   rintro e w17 ⟨v146, rfl, ho0, hb, hkp⟩
   refine ⟨_, rfl, ?_⟩
   have n0_ := Aside0.mk (blk_kept (kb_ BK136) hkp (fun hs_ => (fun e_ => (Kd.R_ne HO144.out BK136.out (by decide)) e_) hs_))
   have n1_ := Aside0.mk (Kd.R_mono (ok' := fun k_ => True) ho0 (fun k_ hk_ => trivial))
   have n2_ := Aside0.mk (hb)
   clear BK136
   clear HB
   clear HO144
   have BK136 := n0_
   have HO147 := n1_
   have HB := n2_
   clear n0_ n1_ n2_
   (try clear hb)
   (try clear hkp)
   (try clear ho0)
   obtain ⟨Ao18, co18, eo18⟩ := Kd.R_slice HO147.out
   (first | subst eo18 | (injection eo18 with f1_ f2_ f3_; have f4_ := f1_.symm; have f5_ := f3_.symm; clear f1_ f2_ f3_; subst f4_; subst f5_))
   refine hK.out _ _ ⟨(blk_cell BK136.out 0).trans rfl, (blk_cell BK136.out 1).trans rfl, (blk_cell BK136.out 2).trans rfl⟩ (fun hHeld => ?_)
   clear hK K
   refine norm_ (a' := ?_) ?_ ?_
   rotate_left
   ·show Act.put _ (some 33) _ = _
    simp only [Act.put, List.setIfInBounds_toArray, List.set_cons_zero, List.set_cons_succ, i64_w, i32_w]
    rfl
   refine one_ (i := 7) (N := some 37) (mb_ 9 255) rfl rfl (one_of HT_.out (by kernel_rfl)) (by decide) (fun K hK => ?_)
   refine goes_ Try.func27 (by kernel_rfl) rfl #[.slice Ao18 t145.length co18, .int .i64 (l0_2.length : Int)] (by rfl) rfl rfl (by (try simp only [List.map_toArray, List.map_cons, List.map_nil]); first | done | rfl | (simp only [List.length_drop, List.length_take]; rfl)) ?_
   with_reducible refine (script_two.calls (fun k_ => some k_ = (.slice Ao18 t145.length co18 : Value).ownBlock) (.slice Ao18 t145.length co18) t145 (l0_2.length : Int) t148 w _ ?side1 ?side2 A6.out).mono ?_
   (case side1 => repeat (first | (with_reducible first | exact HB.out | apply a1_ | apply a2_ | apply a3_ | refine below_set ?_ GE136.out) | exact HB.out))
   (case side2 => exact Kd.R_tight rfl HO147.out)
   rintro e w19 ⟨v149, rfl, ho0, hb, hkp⟩
   refine ⟨_, rfl, ?_⟩
   have n0_ := Aside0.mk (blk_kept (kb_ BK136) hkp (fun hs_ => (fun e_ => (Kd.R_ne HO147.out BK136.out (by decide)) e_) hs_))
   have n1_ := Aside0.mk (Kd.R_mono (ok' := fun k_ => True) ho0 (fun k_ hk_ => trivial))
   have n2_ := Aside0.mk (hb)
   clear BK136
   clear HB
   clear HO147
   have BK136 := n0_
   have HO150 := n1_
   have HB := n2_
   clear n0_ n1_ n2_
   (try clear hb)
   (try clear hkp)
   (try clear ho0)
   refine hK.out _ _ ⟨(blk_cell BK136.out 0).trans rfl, (blk_cell BK136.out 1).trans rfl, (blk_cell BK136.out 2).trans rfl⟩ (fun hHeld => ?_)
   clear hK K
   refine norm_ (a' := ?_) ?_ ?_
   rotate_left
   ·show Act.put _ (some 37) _ = _
    simp only [Act.put, List.setIfInBounds_toArray, List.set_cons_zero, List.set_cons_succ, i64_w, i32_w]
    rfl
   refine pq_ 8 6 (mb_ 9 511) HT_.out ?_
   refine done_ (done_of HT_.out (by kernel_rfl)) ?_
   obtain ⟨hcz20_0, hcz20_1, hcz20_2, hfz20_0, hfz20_1, hfz20_2⟩ := bb3_ BK136.out
   try go_wp2
   go_loopg [6, 41] k (fun kq v6 v41 w' => ∃ (x6_1 : List Int) (x41_1 : Int), v41 = .int .i64 x41_1 ∧ Aside0 (script_Bytes.l0 kq x6_1 l0_2 (l0_2.length : Int) x41_1 = some (r1, r2)) ∧ Aside0 (kq ≤ k) ∧ Aside0 (Kd.R (Kd.int .u8) 5 w' w.heap.size (fun _ => True) v6 x6_1) ∧ Aside0 (w'.heap[gb136]? = some (.cells #[.string a0_0, .int .i64 a0_1, (.slice A0_2 l0_2.length c0_2)] 24 (0, 0))) ∧ Aside0 (Below w.heap.size w w'))
   case atStart => exact ⟨(t148), (0), r_, H', ⟨Nat.le_refl _⟩, ⟨by (with_reducible repeat (first | apply Kd.R_alloc | apply Kd.R_drewN | apply Kd.R_drew)); exact HO150.out⟩, ⟨kb_ BK136⟩, ⟨bl_ HB⟩⟩
   case round =>
    clear H'
    try clear c1
    try clear c2
    try clear p2
    try clear c3
    try clear c3b0
    try clear c3b1
    try clear c4
    try clear c10
    try clear c11
    try clear hcz10_0 hcz10_1 hcz10_2
    try clear hcz13_0 hcz13_1 hcz13_2
    try clear hcz20_0 hcz20_1 hcz20_2
    try clear hcz8_0 hcz8_1 hcz8_2
    try clear hfz10_0 hfz10_1 hfz10_2
    try clear hfz13_0 hfz13_1 hfz13_2
    try clear hfz20_0 hfz20_1 hfz20_2
    try clear hfz8_0 hfz8_1 hfz8_2
    obtain ⟨x6_1, x41_1, rfl, HA, HK1, HO_6, BK136, HB⟩ := hrel
    cases gk with
    | zero => exact absurd HA.out (by simp [script_Bytes.l0])
    | succ k1 =>
     have H := HA.out
     clear HA
     simp only [script_Bytes.l0] at H
     by_cases c21 : x41_1 < (l0_2.length : Int)
     ·rw [if_pos c21] at H
      have c21b0 : decide (x41_1 < (l0_2.length : Int)) = true := decide_eq_true c21
      clear c21
      by_cases c22 : 0 ≤ x41_1
      ·rw [if_pos c22] at H
       have c22b0 : decide (0 ≤ x41_1) = true := decide_eq_true c22
       clear c22
       by_cases c23 : x41_1 < (l0_2.length : Int)
       ·rw [if_pos c23] at H
        have c23b0 : decide (x41_1 < (l0_2.length : Int)) = true := decide_eq_true c23
        clear c23
        have HC24 := Aside0.mk H
        clear H
        have p151 : 0 ≤ (x41_1 : Int) := of_decide_eq_true (by first | (with_reducible assumption) | assumption)
        have q151 : x41_1 < (l0_2.length : Int) := of_decide_eq_true (by first | (with_reducible assumption) | assumption)
        obtain ⟨ad151, A151_6, c151_6, e151, hx151_0, hx151_1, hx151_2, hx151_3, hx151_4, hx151_5, hx151_6, hl151_6, hi151_6⟩ := at_T45 HR0_2.out x41_1 p151 q151
        cases e151
        replace hx151_0 := up_ HB.out hx151_0
        replace hx151_1 := up_ HB.out hx151_1
        replace hx151_2 := up_ HB.out hx151_2
        replace hx151_3 := up_ HB.out hx151_3
        replace hx151_4 := up_ HB.out hx151_4
        replace hx151_5 := up_ HB.out hx151_5
        replace hx151_6 := up_ HB.out hx151_6
        have HR151_6 := Aside0.mk hi151_6
        have HC151_6 := Aside0.mk hl151_6
        clear hi151_6 hl151_6
        replace p151 := eq_true p151
        replace q151 := eq_true q151
        go_upto_if 46 with (first | ((with_reducible refine gate_dst (N := 8) rfl ?_); refine be_ 8 #[.bool false, .int .i64 0, .int .i64 0, .int .i64 0, .bool false, .string (⟨#[]⟩ : ByteArray), .slice none 0 0] 45 ?_; intro gb152 hg w25 hbox hb; have n0_ := Aside0.mk (Kd.R_below (by (with_reducible repeat (first | apply Kd.R_alloc | apply Kd.R_drewN | apply Kd.R_drew)); exact HO_6.out) hb); have n1_ := Aside0.mk (blk_below (kb_ BK136) hb); have n2_ := Aside0.mk (below_step (bl_ HB) hb); have n3_ := Aside0.mk (hbox); have n4_ := Aside0.mk ((by rw [hg]; exact (below_size (bl_ HB)) : w.heap.size ≤ gb152)); have n5_ := Aside0.mk ((by rw [hg]; exact (below_size (bl_ HB)) : w.heap.size ≤ gb152)); have n6_ := Aside0.mk ((by rw [hg]; exact Nat.ne_of_lt (blk_lt (kb_ BK136)) : gb136 ≠ gb152)); have n7_ := Aside0.mk ((by rw [hg]; exact Nat.ne_of_gt (blk_lt (kb_ BK136)) : gb152 ≠ gb136)); clear HO_6; clear BK136; clear HB; have HO_6 := n0_; have BK136 := n1_; have HB := n2_; have BK152 := n3_; have GW152 := n4_; have GE152 := n5_; have NB136_152 := n6_; have NB152_136 := n7_; clear n0_ n1_ n2_ n3_ n4_ n5_ n6_ n7_; clear hb hbox hg; have hnb26 := NB152_136.out; have hnc26 := NB136_152.out; obtain ⟨hcz27_0, hcz27_1, hcz27_2, hcz27_3, hcz27_4, hcz27_5, hcz27_6, hfz27_0, hfz27_1, hfz27_2, hfz27_3, hfz27_4, hfz27_5, hfz27_6⟩ := bb7_ BK152.out))
        (try simp only [Act.put, List.setIfInBounds_toArray, List.set_cons_zero, List.set_cons_succ])
        go_cut [9] (fun v9 wc => ∃ (kq : Nat) (x9_23 : Int), v9 = .int .u8 x9_23 ∧ Aside0 (script_Bytes.j1 kq x6_1 x9_23 l0_2 (l0_2.length : Int) x41_1 ((rd_T45 l0_2 x41_1).f0) ((rd_T45 l0_2 x41_1).f1.f0) ((rd_T45 l0_2 x41_1).f1.f1) ((rd_T45 l0_2 x41_1).f1.f2) ((rd_T45 l0_2 x41_1).f1.f3) ((rd_T45 l0_2 x41_1).f1.f4) ((rd_T45 l0_2 x41_1).f2) = some (r1, r2)) ∧ Aside0 (kq ≤ k1) ∧ Aside0 (Kd.R (Kd.int .u8) 5 wc w.heap.size (fun _ => True) u6 x6_1) ∧ Aside0 (wc.heap[gb136]? = some (.cells #[.string a0_0, .int .i64 a0_1, (.slice (some ad151) l0_2.length c0_2)] 24 (0, 0))) ∧ Aside0 (wc.heap[gb152]? = some (.cells #[.bool ((rd_T45 l0_2 x41_1).f0), .int .i64 ((rd_T45 l0_2 x41_1).f1.f0), .int .i64 ((rd_T45 l0_2 x41_1).f1.f1), .int .i64 ((rd_T45 l0_2 x41_1).f1.f2), .bool ((rd_T45 l0_2 x41_1).f1.f3), .string ((rd_T45 l0_2 x41_1).f1.f4), (.slice A151_6 ((rd_T45 l0_2 x41_1).f2).length c151_6)] 45 (0, 0))) ∧ Aside0 (Below w.heap.size w wc))
        case first =>
         have H := HC24.out
         clear HC24
         obtain ⟨bq28, hbq28⟩ : ∃ b_ : Bool, b_ = ((rd_T45 l0_2 x41_1).f0) := ⟨_, rfl⟩
         replace H : (if bq28 = true then (script_Bytes.j1 k1 x6_1 1 l0_2 (l0_2.length : Int) x41_1 bq28 ((rd_T45 l0_2 x41_1).f1.f0) ((rd_T45 l0_2 x41_1).f1.f1) ((rd_T45 l0_2 x41_1).f1.f2) ((rd_T45 l0_2 x41_1).f1.f3) ((rd_T45 l0_2 x41_1).f1.f4) ((rd_T45 l0_2 x41_1).f2)) else (script_Bytes.j1 k1 x6_1 0 l0_2 (l0_2.length : Int) x41_1 bq28 ((rd_T45 l0_2 x41_1).f1.f0) ((rd_T45 l0_2 x41_1).f1.f1) ((rd_T45 l0_2 x41_1).f1.f2) ((rd_T45 l0_2 x41_1).f1.f3) ((rd_T45 l0_2 x41_1).f1.f4) ((rd_T45 l0_2 x41_1).f2))) = some (r1, r2) := by rw [← hbq28] at H; exact H
         have Nbq28 := Aside0.mk hbq28
         clear hbq28
         (try rw [← Nbq28.out])
         by_cases c29 : bq28 = true
         ·subst c29
          rw [if_pos rfl] at H
          have H' := Aside0.mk H
          clear H
          go_wp2
          all_goals
           go_meet
           case rel => (try rw [← Nbq28.out]); exact ⟨_, (1), r_, H', ⟨by have := HK1.out; first | omega | exact Nat.le_refl _⟩, ⟨by (with_reducible repeat (first | apply Kd.R_alloc | apply Kd.R_drewN | apply Kd.R_drew)); exact Kd.R_mono (Kd.R_far (p := ⟨gb152, 6, none⟩) (Kd.R_far (p := ⟨gb152, 5, none⟩) (Kd.R_far (p := ⟨gb152, 4, none⟩) (Kd.R_far (p := ⟨gb152, 3, none⟩) (Kd.R_far (p := ⟨gb152, 2, none⟩) (Kd.R_far (p := ⟨gb152, 1, none⟩) (Kd.R_far (p := ⟨gb152, 0, none⟩) (Kd.R_types HO_6.out BK152.out (by decide)) (fun _ hk => hk.2) (.bool (true))) (fun _ hk => hk.2) (.int .i64 ((rd_T45 l0_2 x41_1).f1.f0))) (fun _ hk => hk.2) (.int .i64 ((rd_T45 l0_2 x41_1).f1.f1))) (fun _ hk => hk.2) (.int .i64 ((rd_T45 l0_2 x41_1).f1.f2))) (fun _ hk => hk.2) (.bool ((rd_T45 l0_2 x41_1).f1.f3))) (fun _ hk => hk.2) (.string ((rd_T45 l0_2 x41_1).f1.f4))) (fun _ hk => hk.2) (.slice A151_6 ((rd_T45 l0_2 x41_1).f2).length c151_6)) (fun _ hk => trivial)⟩, ⟨kb_ BK136⟩, ⟨by (with_reducible repeat (first | refine blk_drewN ?_ _ | refine blk_drew ?_ | refine blk_alloc ?_ _)); refine blk_put (cs := #[.bool (true), .int .i64 ((rd_T45 l0_2 x41_1).f1.f0), .int .i64 ((rd_T45 l0_2 x41_1).f1.f1), .int .i64 ((rd_T45 l0_2 x41_1).f1.f2), .bool ((rd_T45 l0_2 x41_1).f1.f3), .string ((rd_T45 l0_2 x41_1).f1.f4), .slice none 0 0]) ?_ 6 _ rfl; (with_reducible repeat (first | refine blk_drewN ?_ _ | refine blk_drew ?_ | refine blk_alloc ?_ _)); refine blk_put (cs := #[.bool (true), .int .i64 ((rd_T45 l0_2 x41_1).f1.f0), .int .i64 ((rd_T45 l0_2 x41_1).f1.f1), .int .i64 ((rd_T45 l0_2 x41_1).f1.f2), .bool ((rd_T45 l0_2 x41_1).f1.f3), .string (⟨#[]⟩ : ByteArray), .slice none 0 0]) ?_ 5 _ rfl; (with_reducible repeat (first | refine blk_drewN ?_ _ | refine blk_drew ?_ | refine blk_alloc ?_ _)); refine blk_put (cs := #[.bool (true), .int .i64 ((rd_T45 l0_2 x41_1).f1.f0), .int .i64 ((rd_T45 l0_2 x41_1).f1.f1), .int .i64 ((rd_T45 l0_2 x41_1).f1.f2), .bool false, .string (⟨#[]⟩ : ByteArray), .slice none 0 0]) ?_ 4 _ rfl; (with_reducible repeat (first | refine blk_drewN ?_ _ | refine blk_drew ?_ | refine blk_alloc ?_ _)); refine blk_put (cs := #[.bool (true), .int .i64 ((rd_T45 l0_2 x41_1).f1.f0), .int .i64 ((rd_T45 l0_2 x41_1).f1.f1), .int .i64 0, .bool false, .string (⟨#[]⟩ : ByteArray), .slice none 0 0]) ?_ 3 _ rfl; (with_reducible repeat (first | refine blk_drewN ?_ _ | refine blk_drew ?_ | refine blk_alloc ?_ _)); refine blk_put (cs := #[.bool (true), .int .i64 ((rd_T45 l0_2 x41_1).f1.f0), .int .i64 0, .int .i64 0, .bool false, .string (⟨#[]⟩ : ByteArray), .slice none 0 0]) ?_ 2 _ rfl; (with_reducible repeat (first | refine blk_drewN ?_ _ | refine blk_drew ?_ | refine blk_alloc ?_ _)); refine blk_put (cs := #[.bool (true), .int .i64 0, .int .i64 0, .int .i64 0, .bool false, .string (⟨#[]⟩ : ByteArray), .slice none 0 0]) ?_ 1 _ rfl; (with_reducible repeat (first | refine blk_drewN ?_ _ | refine blk_drew ?_ | refine blk_alloc ?_ _)); refine blk_put (cs := #[.bool false, .int .i64 0, .int .i64 0, .int .i64 0, .bool false, .string (⟨#[]⟩ : ByteArray), .slice none 0 0]) ?_ 0 _ rfl; (with_reducible repeat (first | refine blk_drewN ?_ _ | refine blk_drew ?_ | refine blk_alloc ?_ _)); exact BK152.out⟩, ⟨bl_ HB⟩⟩
         ·replace c29 := Bool.eq_false_iff.mpr c29
          subst c29
          rw [if_neg (show ¬ (false = true) by decide)] at H
          have H' := Aside0.mk H
          clear H
          go_wp2
          all_goals
           go_meet
           case rel => (try rw [← Nbq28.out]); exact ⟨_, (0), r_, H', ⟨by have := HK1.out; first | omega | exact Nat.le_refl _⟩, ⟨by (with_reducible repeat (first | apply Kd.R_alloc | apply Kd.R_drewN | apply Kd.R_drew)); exact Kd.R_mono (Kd.R_far (p := ⟨gb152, 6, none⟩) (Kd.R_far (p := ⟨gb152, 5, none⟩) (Kd.R_far (p := ⟨gb152, 4, none⟩) (Kd.R_far (p := ⟨gb152, 3, none⟩) (Kd.R_far (p := ⟨gb152, 2, none⟩) (Kd.R_far (p := ⟨gb152, 1, none⟩) (Kd.R_far (p := ⟨gb152, 0, none⟩) (Kd.R_types HO_6.out BK152.out (by decide)) (fun _ hk => hk.2) (.bool (false))) (fun _ hk => hk.2) (.int .i64 ((rd_T45 l0_2 x41_1).f1.f0))) (fun _ hk => hk.2) (.int .i64 ((rd_T45 l0_2 x41_1).f1.f1))) (fun _ hk => hk.2) (.int .i64 ((rd_T45 l0_2 x41_1).f1.f2))) (fun _ hk => hk.2) (.bool ((rd_T45 l0_2 x41_1).f1.f3))) (fun _ hk => hk.2) (.string ((rd_T45 l0_2 x41_1).f1.f4))) (fun _ hk => hk.2) (.slice A151_6 ((rd_T45 l0_2 x41_1).f2).length c151_6)) (fun _ hk => trivial)⟩, ⟨kb_ BK136⟩, ⟨by (with_reducible repeat (first | refine blk_drewN ?_ _ | refine blk_drew ?_ | refine blk_alloc ?_ _)); refine blk_put (cs := #[.bool (false), .int .i64 ((rd_T45 l0_2 x41_1).f1.f0), .int .i64 ((rd_T45 l0_2 x41_1).f1.f1), .int .i64 ((rd_T45 l0_2 x41_1).f1.f2), .bool ((rd_T45 l0_2 x41_1).f1.f3), .string ((rd_T45 l0_2 x41_1).f1.f4), .slice none 0 0]) ?_ 6 _ rfl; (with_reducible repeat (first | refine blk_drewN ?_ _ | refine blk_drew ?_ | refine blk_alloc ?_ _)); refine blk_put (cs := #[.bool (false), .int .i64 ((rd_T45 l0_2 x41_1).f1.f0), .int .i64 ((rd_T45 l0_2 x41_1).f1.f1), .int .i64 ((rd_T45 l0_2 x41_1).f1.f2), .bool ((rd_T45 l0_2 x41_1).f1.f3), .string (⟨#[]⟩ : ByteArray), .slice none 0 0]) ?_ 5 _ rfl; (with_reducible repeat (first | refine blk_drewN ?_ _ | refine blk_drew ?_ | refine blk_alloc ?_ _)); refine blk_put (cs := #[.bool (false), .int .i64 ((rd_T45 l0_2 x41_1).f1.f0), .int .i64 ((rd_T45 l0_2 x41_1).f1.f1), .int .i64 ((rd_T45 l0_2 x41_1).f1.f2), .bool false, .string (⟨#[]⟩ : ByteArray), .slice none 0 0]) ?_ 4 _ rfl; (with_reducible repeat (first | refine blk_drewN ?_ _ | refine blk_drew ?_ | refine blk_alloc ?_ _)); refine blk_put (cs := #[.bool (false), .int .i64 ((rd_T45 l0_2 x41_1).f1.f0), .int .i64 ((rd_T45 l0_2 x41_1).f1.f1), .int .i64 0, .bool false, .string (⟨#[]⟩ : ByteArray), .slice none 0 0]) ?_ 3 _ rfl; (with_reducible repeat (first | refine blk_drewN ?_ _ | refine blk_drew ?_ | refine blk_alloc ?_ _)); refine blk_put (cs := #[.bool (false), .int .i64 ((rd_T45 l0_2 x41_1).f1.f0), .int .i64 0, .int .i64 0, .bool false, .string (⟨#[]⟩ : ByteArray), .slice none 0 0]) ?_ 2 _ rfl; (with_reducible repeat (first | refine blk_drewN ?_ _ | refine blk_drew ?_ | refine blk_alloc ?_ _)); refine blk_put (cs := #[.bool (false), .int .i64 0, .int .i64 0, .int .i64 0, .bool false, .string (⟨#[]⟩ : ByteArray), .slice none 0 0]) ?_ 1 _ rfl; (with_reducible repeat (first | refine blk_drewN ?_ _ | refine blk_drew ?_ | refine blk_alloc ?_ _)); refine blk_put (cs := #[.bool false, .int .i64 0, .int .i64 0, .int .i64 0, .bool false, .string (⟨#[]⟩ : ByteArray), .slice none 0 0]) ?_ 0 _ rfl; (with_reducible repeat (first | refine blk_drewN ?_ _ | refine blk_drew ?_ | refine blk_alloc ?_ _)); exact BK152.out⟩, ⟨bl_ HB⟩⟩
        case rest =>
         clear HC24
         try clear c1
         try clear p1
         try clear q1
         try clear hx1
         try clear c2
         try clear p2
         try clear q2
         try clear c3
         try clear c3b0
         try clear c3b1
         try clear c4
         try clear c10
         try clear c11
         try clear c15
         try clear p15
         try clear q15
         try clear hx15
         try clear c21
         try clear c21b0
         try clear c22
         try clear c22b0
         try clear c23
         try clear c23b0
         try clear c26
         try clear c27
         try clear q28
         try clear c29
         try clear hcz10_0 hcz10_1 hcz10_2
         try clear hcz13_0 hcz13_1 hcz13_2
         try clear hcz20_0 hcz20_1 hcz20_2
         try clear hcz27_0 hcz27_1 hcz27_2 hcz27_3 hcz27_4 hcz27_5 hcz27_6
         try clear hcz8_0 hcz8_1 hcz8_2
         try clear hfz10_0 hfz10_1 hfz10_2
         try clear hfz13_0 hfz13_1 hfz13_2
         try clear hfz20_0 hfz20_1 hfz20_2
         try clear hfz27_0 hfz27_1 hfz27_2 hfz27_3 hfz27_4 hfz27_5 hfz27_6
         try clear hfz8_0 hfz8_1 hfz8_2
         try clear hx151_0
         try clear hx151_1
         try clear hx151_2
         try clear hx151_3
         try clear hx151_4
         try clear hx151_5
         try clear hx151_6
         try clear p151
         try clear p2
         try clear q151
         obtain ⟨kq, x9_23, rfl, HA, HJ23, HO_6, BK136, BK152, HB⟩ := hcut
         cases kq with
         | zero => exact absurd HA.out (by simp [script_Bytes.j1])
         | succ kj23 =>
          have H := HA.out
          clear HA
          simp only [script_Bytes.j1] at H
          replace H := Option.bind_eq_some_iff.mp H
          obtain ⟨⟨t153, t154⟩, A300, H⟩ := H
          have A30 := Aside0.mk A300
          clear A300
          by_cases c31 : x6_1.length < 140737488355328
          ·rw [if_pos c31] at H
           have LMc31 := Aside0.mk c31
           clear c31
           obtain ⟨y155, hy155⟩ : ∃ y_ : List Int, y_ = (x6_1 ++ [x9_23]) := ⟨_, rfl⟩
           first | rw [← hy155, Option.bind_some] at H | rw [← hy155] at H
           have Ny155 := Aside0.mk hy155
           clear hy155
           replace H := Option.bind_eq_some_iff.mp H
           obtain ⟨t158, A320, H⟩ := H
           have A32 := Aside0.mk A320
           clear A320
           by_cases c33 : t158.length + t153.size < 140737488355328
           ·rw [if_pos c33] at H
            have LMc33 := Aside0.mk c33
            clear c33
            obtain ⟨y161, hy161⟩ : ∃ y_ : List Int, y_ = (t158 ++ bytesOf t153) := ⟨_, rfl⟩
            first | rw [← hy161, Option.bind_some] at H | rw [← hy161] at H
            have Ny161 := Aside0.mk hy161
            clear hy161
            by_cases c34 : ((rd_T45 l0_2 x41_1).f0) = true
            ·rw [if_pos c34] at H
             have c34b0 : ((rd_T45 l0_2 x41_1).f0) = true := c34
             clear c34
             by_cases c35 : y161.length < 140737488355328
             ·rw [if_pos c35] at H
              have LMc35 := Aside0.mk c35
              clear c35
              obtain ⟨y164, hy164⟩ : ∃ y_ : List Int, y_ = (y161 ++ [((((rd_T45 l0_2 x41_1).f2).length : Int)) % 256]) := ⟨_, rfl⟩
              first | rw [← hy164, Option.bind_some] at H | rw [← hy164] at H
              have Ny164 := Aside0.mk hy164
              clear hy164
              have H' := Aside0.mk H
              clear H
              have hnb36 := NB152_136.out
              have hnc36 := NB136_152.out
              obtain ⟨hcz37_0, hcz37_1, hcz37_2, hcz37_3, hcz37_4, hcz37_5, hcz37_6, hfz37_0, hfz37_1, hfz37_2, hfz37_3, hfz37_4, hfz37_5, hfz37_6⟩ := bb7_ BK152.out
              go_wp2_with (first | ((with_reducible refine gate_callee (f := 28) rfl ?_); refine gl_ (some 50) Try.func28 #[.agg #[.int .i64 ((rd_T45 l0_2 x41_1).f1.f0), .int .i64 ((rd_T45 l0_2 x41_1).f1.f1), .int .i64 ((rd_T45 l0_2 x41_1).f1.f2), .bool ((rd_T45 l0_2 x41_1).f1.f3), .string ((rd_T45 l0_2 x41_1).f1.f4)]] ?_; (with_reducible refine (record_Bytes.calls kj23 ((rd_T45 l0_2 x41_1).f1.f0) ((rd_T45 l0_2 x41_1).f1.f1) ((rd_T45 l0_2 x41_1).f1.f2) ((rd_T45 l0_2 x41_1).f1.f3) ((rd_T45 l0_2 x41_1).f1.f4) t153 t154 _ A30.out).mono ?_); rintro e w38 ⟨rfl, hb⟩; refine ⟨_, rfl, ?_⟩; have n0_ := Aside0.mk (Kd.R_below (by (with_reducible repeat (first | apply Kd.R_alloc | apply Kd.R_drewN | apply Kd.R_drew)); exact HO_6.out) hb); have n1_ := Aside0.mk (blk_below (kb_ BK136) hb); have n2_ := Aside0.mk (blk_below (kb_ BK152) hb); have n3_ := Aside0.mk (below_step (bl_ HB) hb); clear HO_6; clear BK136; clear BK152; clear HB; have HO_6 := n0_; have BK136 := n1_; have BK152 := n2_; have HB := n3_; clear n0_ n1_ n2_ n3_; (try clear hb); (try clear hk)) | ((with_reducible refine gate_builtin (b := .append) (xs := #[.tmp 53, .tmp 55]) rfl ?_); at_builtin; refine Kd.R_append (Kd.int .u8) (w0 := w) w.heap.size rfl (.tmp 53) (.tmp 55) 37 5 (.int .u8 0) 1 rfl Try.underlying37 info5 rfl (by decide) (by omega) u6 x6_1 x9_23 [.int .u8 x9_23] (fun _ => True) (fun _ => False) rfl rfl ?aP (fun _ hk => hk.elim) ?aF ?aO ?aB ?aS ?aL ?_; (case aP => exact rfl); (case aB => exact (bl_ HB)); (case aF => exact (fun _ _ => trivial)); (case aO => exact (by (with_reducible repeat (first | apply Kd.R_alloc | apply Kd.R_drewN | apply Kd.R_drew)); exact HO_6.out)); (case aS => exact (below_size (bl_ HB))); (case aL => have := LMc31.out; omega); intro v156 w39 ho hb hg hat; rw [← Ny155.out] at ho; have n0_ := Aside0.mk (blk_grown (kb_ BK136) hg (Kd.R_ne HO_6.out BK136.out (by decide))); have n1_ := Aside0.mk (blk_grown (kb_ BK152) hg (Kd.R_ne HO_6.out BK152.out (by decide))); have n2_ := Aside0.mk (hb); have n3_ := Aside0.mk (ho); clear BK136; clear BK152; clear HB; clear HO_6; have BK136 := n0_; have BK152 := n1_; have HB := n2_; have HO157 := n3_; clear n0_ n1_ n2_ n3_; clear ho hb hg hat; obtain ⟨Ao40, co40, eo40⟩ := Kd.R_slice HO157.out; subst eo40) | ((with_reducible refine gate_callee (f := 27) rfl ?_); refine gl_ (some 59) Try.func27 #[.slice Ao40 y155.length co40, .int .i64 (t153.size : Int)] ?_; (with_reducible refine (script_two.calls (fun k_ => some k_ = (.slice Ao40 y155.length co40 : Value).ownBlock) (.slice Ao40 y155.length co40) y155 (t153.size : Int) t158 w _ ?side1 ?side2 A32.out).mono ?_); (case side1 => repeat (first | (with_reducible first | exact HB.out | apply a1_ | apply a2_ | apply a3_ | refine below_set ?_ GE136.out | refine below_set ?_ GE152.out) | exact HB.out)); (case side2 => exact Kd.R_tight rfl HO157.out); rintro e w41 ⟨v159, rfl, ho0, hb, hkp⟩; refine ⟨_, rfl, ?_⟩; have n0_ := Aside0.mk (blk_kept (kb_ BK136) hkp (fun hs_ => (fun e_ => (Kd.R_ne HO157.out BK136.out (by decide)) e_) hs_)); have n1_ := Aside0.mk (blk_kept (kb_ BK152) hkp (fun hs_ => (fun e_ => (Kd.R_ne HO157.out BK152.out (by decide)) e_) hs_)); have n2_ := Aside0.mk (Kd.R_mono (ok' := fun k_ => True) ho0 (fun k_ hk_ => trivial)); have n3_ := Aside0.mk (hb); clear BK136; clear BK152; clear HB; clear HO157; have BK136 := n0_; have BK152 := n1_; have HO160 := n2_; have HB := n3_; clear n0_ n1_ n2_ n3_; (try clear hb); (try clear hkp); (try clear ho0)) | (at_builtin; refine print_append_str (w0 := w) w.heap.size rfl (.tmp 59) _ 37 9 5 rfl Try.underlying37 Try.underlying9 info5 v159 t158 t153 rfl rfl ?aO ?aB ?aS ?aL ?_; (case aB => exact (bl_ HB)); (case aO => exact (Kd.own_of_R (by (with_reducible repeat (first | apply Kd.R_alloc | apply Kd.R_drewN | apply Kd.R_drew)); exact HO160.out))); (case aS => exact (below_size (bl_ HB))); (case aL => have := LMc33.out; omega); intro v162 w42 ho0 hb hg; have ho := Kd.R_of_own (h1 := fun _ => rfl) (ok := fun _ => True) ho0 (fun _ _ => trivial); clear ho0; have hat := True.intro; rw [← Ny161.out] at ho; change Kd.R (Kd.int .u8) 5 w42 w.heap.size (fun _ => True) v162 y161 at ho; have n0_ := Aside0.mk (blk_grown (kb_ BK136) hg (Kd.R_ne HO160.out BK136.out (by decide))); have n1_ := Aside0.mk (blk_grown (kb_ BK152) hg (Kd.R_ne HO160.out BK152.out (by decide))); have n2_ := Aside0.mk (hb); have n3_ := Aside0.mk (ho); clear BK136; clear BK152; clear HB; clear HO160; have BK136 := n0_; have BK152 := n1_; have HB := n2_; have HO163 := n3_; clear n0_ n1_ n2_ n3_; clear ho hb hg hat; obtain ⟨hcz43_0, hcz43_1, hcz43_2, hcz43_3, hcz43_4, hcz43_5, hcz43_6, hfz43_0, hfz43_1, hfz43_2, hfz43_3, hfz43_4, hfz43_5, hfz43_6⟩ := bb7_ BK152.out) | ((with_reducible refine gate_builtin (b := .append) (xs := #[.tmp 65, .tmp 70]) rfl ?_); at_builtin; refine Kd.R_append (Kd.int .u8) (w0 := w) w.heap.size rfl (.tmp 65) (.tmp 70) 37 5 (.int .u8 0) 1 rfl Try.underlying37 info5 rfl (by decide) (by omega) v162 y161 (((((rd_T45 l0_2 x41_1).f2).length : Int)) % 256) [.int .u8 (((((rd_T45 l0_2 x41_1).f2).length : Int)) % 256)] (fun _ => True) (fun _ => False) rfl rfl ?aP (fun _ hk => hk.elim) ?aF ?aO ?aB ?aS ?aL ?_; (case aP => exact rfl); (case aB => exact (bl_ HB)); (case aF => exact (fun _ _ => trivial)); (case aO => exact (by (with_reducible repeat (first | apply Kd.R_alloc | apply Kd.R_drewN | apply Kd.R_drew)); exact HO163.out)); (case aS => exact (below_size (bl_ HB))); (case aL => have := LMc35.out; omega); intro v165 w44 ho hb hg hat; rw [← Ny164.out] at ho; have n0_ := Aside0.mk (blk_grown (kb_ BK136) hg (Kd.R_ne HO163.out BK136.out (by decide))); have n1_ := Aside0.mk (blk_grown (kb_ BK152) hg (Kd.R_ne HO163.out BK152.out (by decide))); have n2_ := Aside0.mk (hb); have n3_ := Aside0.mk (ho); clear BK136; clear BK152; clear HB; clear HO163; have BK136 := n0_; have BK152 := n1_; have HB := n2_; have HO166 := n3_; clear n0_ n1_ n2_ n3_; clear ho hb hg hat; obtain ⟨hcz45_0, hcz45_1, hcz45_2, hcz45_3, hcz45_4, hcz45_5, hcz45_6, hfz45_0, hfz45_1, hfz45_2, hfz45_3, hfz45_4, hfz45_5, hfz45_6⟩ := bb7_ BK152.out))
              go_loopg [6, 75] kj23 (fun kq v6 v75 w' => ∃ (x6_3 : List Int) (x75_3 : Int), v75 = .int .i64 x75_3 ∧ Aside0 (script_Bytes.l1 kq x6_3 l0_2 (l0_2.length : Int) x41_1 ((rd_T45 l0_2 x41_1).f2) (((rd_T45 l0_2 x41_1).f2).length : Int) x75_3 = some (r1, r2)) ∧ Aside0 (kq ≤ kj23) ∧ Aside0 (Kd.R (Kd.int .u8) 5 w' w.heap.size (fun _ => True) v6 x6_3) ∧ Aside0 (w'.heap[gb136]? = some (.cells #[.string a0_0, .int .i64 a0_1, (.slice (some ad151) l0_2.length c0_2)] 24 (0, 0))) ∧ Aside0 (w'.heap[gb152]? = some (.cells #[.bool ((rd_T45 l0_2 x41_1).f0), .int .i64 ((rd_T45 l0_2 x41_1).f1.f0), .int .i64 ((rd_T45 l0_2 x41_1).f1.f1), .int .i64 ((rd_T45 l0_2 x41_1).f1.f2), .bool ((rd_T45 l0_2 x41_1).f1.f3), .string ((rd_T45 l0_2 x41_1).f1.f4), (.slice A151_6 ((rd_T45 l0_2 x41_1).f2).length c151_6)] 45 (0, 0))) ∧ Aside0 (Below w.heap.size w w'))
              case atStart => exact ⟨(y164), (0), r_, H', ⟨Nat.le_refl _⟩, ⟨by (with_reducible repeat (first | apply Kd.R_alloc | apply Kd.R_drewN | apply Kd.R_drew)); exact HO166.out⟩, ⟨kb_ BK136⟩, ⟨kb_ BK152⟩, ⟨bl_ HB⟩⟩
              case round =>
               clear H'
               try clear c1
               try clear p1
               try clear q1
               try clear hx1
               try clear c2
               try clear p2
               try clear q2
               try clear c3
               try clear c3b0
               try clear c3b1
               try clear c4
               try clear p6
               try clear c10
               try clear c11
               try clear c15
               try clear p15
               try clear q15
               try clear hx15
               try clear c21
               try clear c21b0
               try clear c22
               try clear c22b0
               try clear c23
               try clear c23b0
               try clear c26
               try clear c27
               try clear c28
               try clear q28
               try clear c29
               try clear c31
               try clear c33
               try clear c34
               try clear c34b0
               try clear c35
               try clear c36
               try clear hcz10_0 hcz10_1 hcz10_2
               try clear hcz13_0 hcz13_1 hcz13_2
               try clear hcz20_0 hcz20_1 hcz20_2
               try clear hcz27_0 hcz27_1 hcz27_2 hcz27_3 hcz27_4 hcz27_5 hcz27_6
               try clear hcz37_0 hcz37_1 hcz37_2 hcz37_3 hcz37_4 hcz37_5 hcz37_6
               try clear hcz43_0 hcz43_1 hcz43_2 hcz43_3 hcz43_4 hcz43_5 hcz43_6
               try clear hcz45_0 hcz45_1 hcz45_2 hcz45_3 hcz45_4 hcz45_5 hcz45_6
               try clear hcz8_0 hcz8_1 hcz8_2
               try clear hfz10_0 hfz10_1 hfz10_2
               try clear hfz13_0 hfz13_1 hfz13_2
               try clear hfz20_0 hfz20_1 hfz20_2
               try clear hfz27_0 hfz27_1 hfz27_2 hfz27_3 hfz27_4 hfz27_5 hfz27_6
               try clear hfz37_0 hfz37_1 hfz37_2 hfz37_3 hfz37_4 hfz37_5 hfz37_6
               try clear hfz43_0 hfz43_1 hfz43_2 hfz43_3 hfz43_4 hfz43_5 hfz43_6
               try clear hfz45_0 hfz45_1 hfz45_2 hfz45_3 hfz45_4 hfz45_5 hfz45_6
               try clear hfz8_0 hfz8_1 hfz8_2
               try clear hx151_0
               try clear hx151_1
               try clear hx151_2
               try clear hx151_3
               try clear hx151_4
               try clear hx151_5
               try clear hx151_6
               try clear p1
               try clear p15
               try clear p151
               try clear p2
               try clear q1
               try clear q15
               try clear q151
               try clear q2
               try clear q28
               obtain ⟨x6_3, x75_3, rfl, HA, HK3, HO_6, BK136, BK152, HB⟩ := hrel
               cases gk with
               | zero => exact absurd HA.out (by simp [script_Bytes.l1])
               | succ k3 =>
                have H := HA.out
                clear HA
                simp only [script_Bytes.l1] at H
                by_cases c46 : x75_3 < (((rd_T45 l0_2 x41_1).f2).length : Int)
                ·rw [if_pos c46] at H
                 have c46b0 : decide (x75_3 < (((rd_T45 l0_2 x41_1).f2).length : Int)) = true := decide_eq_true c46
                 clear c46
                 by_cases c47 : 0 ≤ x75_3
                 ·rw [if_pos c47] at H
                  have c47b0 : decide (0 ≤ x75_3) = true := decide_eq_true c47
                  clear c47
                  by_cases c48 : x75_3 < (((rd_T45 l0_2 x41_1).f2).length : Int)
                  ·rw [if_pos c48] at H
                   have c48b0 : decide (x75_3 < (((rd_T45 l0_2 x41_1).f2).length : Int)) = true := decide_eq_true c48
                   clear c48
                   replace H := Option.bind_eq_some_iff.mp H
                   obtain ⟨t168, A490, H⟩ := H
                   have A49 := Aside0.mk A490
                   clear A490
                   have H' := Aside0.mk H
                   clear H
                   have p167 : 0 ≤ (x75_3 : Int) := of_decide_eq_true (by first | (with_reducible assumption) | assumption)
                   have q167 : x75_3 < (((rd_T45 l0_2 x41_1).f2).length : Int) := of_decide_eq_true (by first | (with_reducible assumption) | assumption)
                   obtain ⟨ad167, e167, hx167_0⟩ := Kd.at_int HR151_6.out x75_3 p167 q167
                   cases e167
                   replace hx167_0 := up_ HB.out hx167_0
                   replace p167 := eq_true p167
                   replace q167 := eq_true q167
                   obtain ⟨Ao50, co50, eo50⟩ := Kd.R_slice HO_6.out
                   subst eo50
                   go_wp2_with (first | ((with_reducible refine gate_callee (f := 27) rfl ?_); refine gl_ (some 81) Try.func27 #[.slice Ao50 x6_3.length co50, .int .i64 (rd ((rd_T45 l0_2 x41_1).f2) x75_3)] ?_; (with_reducible refine (script_two.calls (fun k_ => some k_ = (.slice Ao50 x6_3.length co50 : Value).ownBlock) (.slice Ao50 x6_3.length co50) x6_3 (rd ((rd_T45 l0_2 x41_1).f2) x75_3) t168 w _ ?side1 ?side2 A49.out).mono ?_); (case side1 => repeat (first | (with_reducible first | exact HB.out | apply a1_ | apply a2_ | apply a3_ | refine below_set ?_ GE136.out | refine below_set ?_ GE152.out) | exact HB.out)); (case side2 => exact Kd.R_tight rfl HO_6.out); rintro e w51 ⟨v169, rfl, ho0, hb, hkp⟩; refine ⟨_, rfl, ?_⟩; have n0_ := Aside0.mk (blk_kept (kb_ BK136) hkp (fun hs_ => (fun e_ => (Kd.R_ne HO_6.out BK136.out (by decide)) e_) hs_)); have n1_ := Aside0.mk (blk_kept (kb_ BK152) hkp (fun hs_ => (fun e_ => (Kd.R_ne HO_6.out BK152.out (by decide)) e_) hs_)); have n2_ := Aside0.mk (Kd.R_mono (ok' := fun k_ => True) ho0 (fun k_ hk_ => trivial)); have n3_ := Aside0.mk (hb); clear BK136; clear BK152; clear HB; clear HO_6; have BK136 := n0_; have BK152 := n1_; have HO170 := n2_; have HB := n3_; clear n0_ n1_ n2_ n3_; (try clear hb); (try clear hkp); (try clear ho0)))
                   go_roundg k3
                   case measure => have := HK1.out; have := HJ23.out; have := HK3.out; omega
                   case rel => exact ⟨(t168), (wrap64 (x75_3 + 1)), r_, H', ⟨by have := HK1.out; have := HJ23.out; have := HK3.out; omega⟩, ⟨by (with_reducible repeat (first | apply Kd.R_alloc | apply Kd.R_drewN | apply Kd.R_drew)); exact HO170.out⟩, ⟨kb_ BK136⟩, ⟨kb_ BK152⟩, ⟨bl_ HB⟩⟩
                  ·rw [if_neg c48] at H
                   exact absurd H (by simp)
                 ·rw [if_neg c47] at H
                  exact absurd H (by simp)
                ·rw [if_neg c46] at H
                 have c46b0 : decide (x75_3 < (((rd_T45 l0_2 x41_1).f2).length : Int)) = false := decide_eq_false c46
                 clear c46
                 have H' := Aside0.mk H
                 clear H
                 go_wp2
                 go_roundg k3
                 case measure => have := HK1.out; have := HJ23.out; have := HK3.out; omega
                 case rel => exact ⟨(x6_3), (wrap64 (x41_1 + 1)), r_, H', ⟨by have := HK1.out; have := HJ23.out; have := HK3.out; omega⟩, ⟨by (with_reducible repeat (first | apply Kd.R_alloc | apply Kd.R_drewN | apply Kd.R_drew)); exact HO_6.out⟩, ⟨kb_ BK136⟩, ⟨bl_ HB⟩⟩
             ·rw [if_neg c35] at H
              exact absurd H (by simp)
            ·rw [if_neg c34] at H
             have c34b0 : ((rd_T45 l0_2 x41_1).f0) = false := by simpa using c34
             clear c34
             have H' := Aside0.mk H
             clear H
             have hnb52 := NB152_136.out
             have hnc52 := NB136_152.out
             obtain ⟨hcz53_0, hcz53_1, hcz53_2, hcz53_3, hcz53_4, hcz53_5, hcz53_6, hfz53_0, hfz53_1, hfz53_2, hfz53_3, hfz53_4, hfz53_5, hfz53_6⟩ := bb7_ BK152.out
             go_wp2_with (first | ((with_reducible refine gate_callee (f := 28) rfl ?_); refine gl_ (some 50) Try.func28 #[.agg #[.int .i64 ((rd_T45 l0_2 x41_1).f1.f0), .int .i64 ((rd_T45 l0_2 x41_1).f1.f1), .int .i64 ((rd_T45 l0_2 x41_1).f1.f2), .bool ((rd_T45 l0_2 x41_1).f1.f3), .string ((rd_T45 l0_2 x41_1).f1.f4)]] ?_; (with_reducible refine (record_Bytes.calls kj23 ((rd_T45 l0_2 x41_1).f1.f0) ((rd_T45 l0_2 x41_1).f1.f1) ((rd_T45 l0_2 x41_1).f1.f2) ((rd_T45 l0_2 x41_1).f1.f3) ((rd_T45 l0_2 x41_1).f1.f4) t153 t154 _ A30.out).mono ?_); rintro e w54 ⟨rfl, hb⟩; refine ⟨_, rfl, ?_⟩; have n0_ := Aside0.mk (Kd.R_below (by (with_reducible repeat (first | apply Kd.R_alloc | apply Kd.R_drewN | apply Kd.R_drew)); exact HO_6.out) hb); have n1_ := Aside0.mk (blk_below (kb_ BK136) hb); have n2_ := Aside0.mk (blk_below (kb_ BK152) hb); have n3_ := Aside0.mk (below_step (bl_ HB) hb); clear HO_6; clear BK136; clear BK152; clear HB; have HO_6 := n0_; have BK136 := n1_; have BK152 := n2_; have HB := n3_; clear n0_ n1_ n2_ n3_; (try clear hb); (try clear hk)) | ((with_reducible refine gate_builtin (b := .append) (xs := #[.tmp 53, .tmp 55]) rfl ?_); at_builtin; refine Kd.R_append (Kd.int .u8) (w0 := w) w.heap.size rfl (.tmp 53) (.tmp 55) 37 5 (.int .u8 0) 1 rfl Try.underlying37 info5 rfl (by decide) (by omega) u6 x6_1 x9_23 [.int .u8 x9_23] (fun _ => True) (fun _ => False) rfl rfl ?aP (fun _ hk => hk.elim) ?aF ?aO ?aB ?aS ?aL ?_; (case aP => exact rfl); (case aB => exact (bl_ HB)); (case aF => exact (fun _ _ => trivial)); (case aO => exact (by (with_reducible repeat (first | apply Kd.R_alloc | apply Kd.R_drewN | apply Kd.R_drew)); exact HO_6.out)); (case aS => exact (below_size (bl_ HB))); (case aL => have := LMc31.out; omega); intro v156 w55 ho hb hg hat; rw [← Ny155.out] at ho; have n0_ := Aside0.mk (blk_grown (kb_ BK136) hg (Kd.R_ne HO_6.out BK136.out (by decide))); have n1_ := Aside0.mk (blk_grown (kb_ BK152) hg (Kd.R_ne HO_6.out BK152.out (by decide))); have n2_ := Aside0.mk (hb); have n3_ := Aside0.mk (ho); clear BK136; clear BK152; clear HB; clear HO_6; have BK136 := n0_; have BK152 := n1_; have HB := n2_; have HO157 := n3_; clear n0_ n1_ n2_ n3_; clear ho hb hg hat; obtain ⟨Ao56, co56, eo56⟩ := Kd.R_slice HO157.out; subst eo56) | ((with_reducible refine gate_callee (f := 27) rfl ?_); refine gl_ (some 59) Try.func27 #[.slice Ao56 y155.length co56, .int .i64 (t153.size : Int)] ?_; (with_reducible refine (script_two.calls (fun k_ => some k_ = (.slice Ao56 y155.length co56 : Value).ownBlock) (.slice Ao56 y155.length co56) y155 (t153.size : Int) t158 w _ ?side1 ?side2 A32.out).mono ?_); (case side1 => repeat (first | (with_reducible first | exact HB.out | apply a1_ | apply a2_ | apply a3_ | refine below_set ?_ GE136.out | refine below_set ?_ GE152.out) | exact HB.out)); (case side2 => exact Kd.R_tight rfl HO157.out); rintro e w57 ⟨v159, rfl, ho0, hb, hkp⟩; refine ⟨_, rfl, ?_⟩; have n0_ := Aside0.mk (blk_kept (kb_ BK136) hkp (fun hs_ => (fun e_ => (Kd.R_ne HO157.out BK136.out (by decide)) e_) hs_)); have n1_ := Aside0.mk (blk_kept (kb_ BK152) hkp (fun hs_ => (fun e_ => (Kd.R_ne HO157.out BK152.out (by decide)) e_) hs_)); have n2_ := Aside0.mk (Kd.R_mono (ok' := fun k_ => True) ho0 (fun k_ hk_ => trivial)); have n3_ := Aside0.mk (hb); clear BK136; clear BK152; clear HB; clear HO157; have BK136 := n0_; have BK152 := n1_; have HO160 := n2_; have HB := n3_; clear n0_ n1_ n2_ n3_; (try clear hb); (try clear hkp); (try clear ho0)) | (at_builtin; refine print_append_str (w0 := w) w.heap.size rfl (.tmp 59) _ 37 9 5 rfl Try.underlying37 Try.underlying9 info5 v159 t158 t153 rfl rfl ?aO ?aB ?aS ?aL ?_; (case aB => exact (bl_ HB)); (case aO => exact (Kd.own_of_R (by (with_reducible repeat (first | apply Kd.R_alloc | apply Kd.R_drewN | apply Kd.R_drew)); exact HO160.out))); (case aS => exact (below_size (bl_ HB))); (case aL => have := LMc33.out; omega); intro v162 w58 ho0 hb hg; have ho := Kd.R_of_own (h1 := fun _ => rfl) (ok := fun _ => True) ho0 (fun _ _ => trivial); clear ho0; have hat := True.intro; rw [← Ny161.out] at ho; change Kd.R (Kd.int .u8) 5 w58 w.heap.size (fun _ => True) v162 y161 at ho; have n0_ := Aside0.mk (blk_grown (kb_ BK136) hg (Kd.R_ne HO160.out BK136.out (by decide))); have n1_ := Aside0.mk (blk_grown (kb_ BK152) hg (Kd.R_ne HO160.out BK152.out (by decide))); have n2_ := Aside0.mk (hb); have n3_ := Aside0.mk (ho); clear BK136; clear BK152; clear HB; clear HO160; have BK136 := n0_; have BK152 := n1_; have HB := n2_; have HO163 := n3_; clear n0_ n1_ n2_ n3_; clear ho hb hg hat; obtain ⟨hcz59_0, hcz59_1, hcz59_2, hcz59_3, hcz59_4, hcz59_5, hcz59_6, hfz59_0, hfz59_1, hfz59_2, hfz59_3, hfz59_4, hfz59_5, hfz59_6⟩ := bb7_ BK152.out))
             go_roundg kj23
             case measure => have := HK1.out; have := HJ23.out; omega
             case rel => exact ⟨(y161), (wrap64 (x41_1 + 1)), r_, H', ⟨by have := HK1.out; have := HJ23.out; omega⟩, ⟨by (with_reducible repeat (first | apply Kd.R_alloc | apply Kd.R_drewN | apply Kd.R_drew)); exact HO163.out⟩, ⟨kb_ BK136⟩, ⟨bl_ HB⟩⟩
           ·rw [if_neg c33] at H
            exact absurd H (by simp)
          ·rw [if_neg c31] at H
           exact absurd H (by simp)
       ·rw [if_neg c23] at H
        exact absurd H (by simp)
      ·rw [if_neg c22] at H
       exact absurd H (by simp)
     ·rw [if_neg c21] at H
      have c21b0 : decide (x41_1 < (l0_2.length : Int)) = false := decide_eq_false c21
      clear c21
      simp only [Option.some.injEq, Prod.mk.injEq] at H
      obtain ⟨rfl, rfl⟩ := H
      have hcv60 := own_string (P := Try.prog) Try.underlying37 Try.underlying5 Try.underlying9 (Kd.own_of_R HO_6.out)
      go_wp2
      go_ret2
      exact ⟨rfl, bl_ HB⟩
  ·rw [if_neg c4] at H
   exact absurd H (by simp)
 ·rw [if_neg c3] at H
  have c3b0 : (t138 == 0) = false := beq_eq_false_iff_ne.mpr c3
  have c3b1 : (t138 != 0) = true := bne_iff_ne.mpr c3
  simp only [Option.some.injEq, Prod.mk.injEq] at H
  obtain ⟨rfl, rfl⟩ := H
  go_enter Try.func11, Try.ntmps11
  go_wp2_with (first | ((with_reducible refine gate_dst (N := 1) rfl ?_); refine be_ 1 #[.string a0_0, .int .i64 a0_1, .slice A0_2 l0_2.length c0_2] 24 ?_; intro gb136 hg w61 hbox hb; have n0_ := Aside0.mk (below_step (bl_ HB) hb); have n1_ := Aside0.mk (hbox); have n2_ := Aside0.mk ((by rw [hg]; exact (below_size (bl_ HB)) : w.heap.size ≤ gb136)); have n3_ := Aside0.mk ((by rw [hg]; exact (below_size (bl_ HB)) : w.heap.size ≤ gb136)); clear HB; have HB := n0_; have BK136 := n1_; have GW136 := n2_; have GE136 := n3_; clear n0_ n1_ n2_ n3_; clear hb hbox hg; obtain ⟨hcz62_0, hcz62_1, hcz62_2, hfz62_0, hfz62_1, hfz62_2⟩ := bb3_ BK136.out) | ((with_reducible refine gate_callee (f := 10) rfl ?_); refine gl_ (some 16) Try.func10 #[.agg #[.string a0_0, .int .i64 a0_1, .slice A0_2 l0_2.length c0_2]] ?_; (with_reducible refine (script_Check.calls k a0_0 a0_1 _ _ l0_2 t137 t138 _ ?side1 ?side2 A2.out).mono ?_); (case side1 => repeat (first | exact (Kd.C_below HR0_2.out HB.out) | (with_reducible refine Kd.C_alloc ?_ _) | (with_reducible refine Kd.C_drewN ?_ _) | (with_reducible refine Kd.C_drew ?_))); (case side2 => exact HC0_2.out); rintro e w63 ⟨rfl, hb⟩; refine ⟨_, rfl, ?_⟩; have n0_ := Aside0.mk (blk_below (kb_ BK136) hb); have n1_ := Aside0.mk (below_step (bl_ HB) hb); clear BK136; clear HB; have BK136 := n0_; have HB := n1_; clear n0_ n1_; (try clear hb); (try clear hk)))
  go_ret2
  exact ⟨rfl, bl_ HB⟩
def outlawlaw25_one.f  : Option (ByteArray × Int × (List (S45))) := some ((⟨#[64, 98, 58, 120]⟩ : ByteArray), 8, (([(⟨false, (⟨6, 0, 0, false, (⟨#[]⟩ : ByteArray)⟩ : S42), ([] : List Int)⟩ : S45)] : List (S45))))
set_option maxHeartbeats 8000000 in
set_option maxRecDepth 100000 in
theorem outlawlaw25_one.calls  (r1 : ByteArray) (r2 : Int) (r3 : List (S45)) (w : World) (h : outlawlaw25_one.f  = some (r1, r2, r3)) :
  Calls Try.prog 16 #[] w fun e w' => ∃ v2_ : Value, e = .returned (.agg #[.string r1, .int .i64 r2, v2_]) ∧ Kd.S k45 45 w' w.heap.size (fun _ => True) v2_ r3 ∧ Below w.heap.size w w' := by
 have hu24 := Try.underlying24
 have hu42 := Try.underlying42
 have hu45 := Try.underlying45
 have HB := Aside0.mk (Below.refl w.heap.size w)
 have H : (some ((⟨#[64, 98, 58, 120]⟩ : ByteArray), 8, (([(⟨false, (⟨6, 0, 0, false, (⟨#[]⟩ : ByteArray)⟩ : S42), ([] : List Int)⟩ : S45)] : List (S45))))) = some (r1, r2, r3) := h
 clear h
 obtain ⟨y172, hy172⟩ : ∃ y_ : List (S45), y_ = (([(⟨false, (⟨6, 0, 0, false, (⟨#[]⟩ : ByteArray)⟩ : S42), ([] : List Int)⟩ : S45)] : List (S45))) := ⟨_, rfl⟩
 first | rw [← hy172, Option.bind_some] at H | rw [← hy172] at H
 have Ny172 := Aside0.mk hy172
 clear hy172
 simp only [Option.some.injEq, Prod.mk.injEq] at H
 obtain ⟨rfl, rfl, rfl⟩ := H
 go_enter Try.func16, Try.ntmps16
 go_wp2_with (first | ((with_reducible refine gate_dst (N := 0) rfl ?_); refine be_ 0 #[.string (⟨#[]⟩ : ByteArray), .int .i64 0, .slice none 0 0] 24 ?_; intro gb171 hg w1 hbox hb; have n0_ := Aside0.mk (below_step (bl_ HB) hb); have n1_ := Aside0.mk (hbox); have n2_ := Aside0.mk ((by rw [hg]; exact (below_size (bl_ HB)) : w.heap.size ≤ gb171)); have n3_ := Aside0.mk ((by rw [hg]; exact (below_size (bl_ HB)) : w.heap.size ≤ gb171)); clear HB; have HB := n0_; have BK171 := n1_; have GW171 := n2_; have GE171 := n3_; clear n0_ n1_ n2_ n3_; clear hb hbox hg) | ((with_reducible refine gate_dst (N := 3) rfl ?_); refine Kd.S_lit k45 _ 45 ?hg (N := 3) ?hd (xs := ([(⟨false, (⟨6, 0, 0, false, (⟨#[]⟩ : ByteArray)⟩ : S42), ([] : List Int)⟩ : S45)] : List (S45))) (inner := [.bool false, .int .i64 6, .int .i64 0, .int .i64 0, .bool false, .string (⟨#[]⟩ : ByteArray), .slice none 0 0]) (ok := fun _ => True) (okp := fun _ => True) ?hr ?hp (fun _ hk => hk) trivial (Below.refl _ _) (Nat.le_refl _) (by simp) ?_; (case hd => rfl); (case hg => rfl); (case hr => first | (go_simp; done) | (go_simp; rfl)); (case hp => exact (Reps.c7 (show Kd.M k45 _ _ _ (⟨false, (⟨6, 0, 0, false, (⟨#[]⟩ : ByteArray)⟩ : S42), ([] : List Int)⟩ : S45) [.bool false, .int .i64 6, .int .i64 0, .int .i64 0, .bool false, .string (⟨#[]⟩ : ByteArray), .slice none 0 0] from (k45_mkM _ _ _ (⟨false, (⟨6, 0, 0, false, (⟨#[]⟩ : ByteArray)⟩ : S42), ([] : List Int)⟩ : S45) (Kd.R_nil _ _ _ _ _))) (Reps.none _ _))); intro v173 w2 ho3 hb hg_ hnew_; clear hg_ hnew_; (first | rw [← Ny172.out] at ho3 | (simp only [Int.reduceToNat] at ho3; rw [← Ny172.out] at ho3)); have n0_ := Aside0.mk (Kd.S_lower ho3 (below_size (bl_ HB))); have n1_ := Aside0.mk (blk_below (kb_ BK171) hb); have n2_ := Aside0.mk (below_step (bl_ HB) hb); clear BK171; clear HB; have HO174 := n0_; have BK171 := n1_; have HB := n2_; clear n0_ n1_ n2_; clear hb ho3; obtain ⟨Ao4, co4, eo4⟩ := Kd.S_slice HO174.out; subst eo4; obtain ⟨hcz5_0, hcz5_1, hcz5_2, hfz5_0, hfz5_1, hfz5_2⟩ := bb3_ BK171.out))
 refine bodyPost_ret (results_cell_row rfl _ _ gb171 24 #[.string (⟨#[64, 98, 58, 120]⟩ : ByteArray), .int .i64 8, .slice Ao4 y172.length co4] (0, 0) _ rfl (by (with_reducible repeat (first | refine blk_drewN ?_ _ | refine blk_drew ?_ | refine blk_alloc ?_ _)); refine blk_put (cs := #[.string (⟨#[64, 98, 58, 120]⟩ : ByteArray), .int .i64 8, .slice none 0 0]) ?_ 2 _ rfl; (with_reducible repeat (first | refine blk_drewN ?_ _ | refine blk_drew ?_ | refine blk_alloc ?_ _)); refine blk_put (cs := #[.string (⟨#[64, 98, 58, 120]⟩ : ByteArray), .int .i64 0, .slice none 0 0]) ?_ 1 _ rfl; (with_reducible repeat (first | refine blk_drewN ?_ _ | refine blk_drew ?_ | refine blk_alloc ?_ _)); refine blk_put (cs := #[.string (⟨#[]⟩ : ByteArray), .int .i64 0, .slice none 0 0]) ?_ 0 _ rfl; (with_reducible repeat (first | refine blk_drewN ?_ _ | refine blk_drew ?_ | refine blk_alloc ?_ _)); exact BK171.out) Try.underlying24 rfl (by kernel_rfl)) rfl ?_
 exact ⟨_, rfl, by (with_reducible repeat (first | apply Kd.S_alloc | apply Kd.S_drewN | apply Kd.S_drew)); exact Kd.S_mono (Kd.S_far (p := ⟨gb171, 2, none⟩) (Kd.S_far (p := ⟨gb171, 1, none⟩) (Kd.S_far (p := ⟨gb171, 0, none⟩) (Kd.S_types HO174.out BK171.out (by decide)) (fun _ hk => hk.2) (.string (⟨#[64, 98, 58, 120]⟩ : ByteArray))) (fun _ hk => hk.2) (.int .i64 8)) (fun _ hk => hk.2) (.slice Ao4 y172.length co4)) (fun _ hk => trivial), bl_ HB⟩
end Go.Proofs.Ytfgibjkgiolonaa.PA
