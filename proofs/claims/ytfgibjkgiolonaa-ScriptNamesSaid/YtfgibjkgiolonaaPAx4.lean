import Derived.Test.YtfgibjkgiolonaaWm
import Derived.Test.YtfgibjkgiolonaaPAx0
import Derived.Test.YtfgibjkgiolonaaPAx3
import Derived.Test.YtfgibjkgiolonaaS7
import Derived.Test.YtfgibjkgiolonaaSh
namespace Go.Proofs.Ytfgibjkgiolonaa.PA
open Go.RowKit Go.Proofs.YtfgibjkgiolonaaW.PrintWords Go.Proofs.YtfgibjkgiolonaaW.PrintLast Go.Proofs.YtfgibjkgiolonaaW.PrintMore Go.Proofs.YtfgibjkgiolonaaG Go.Proofs.YtfgibjkgiolonaaX Go.Proofs.YtfgibjkgiolonaaI Go.Proofs.Ytfgibjkgiolonaa.PR Go.Proofs.YtfgibjkgiolonaaS
attribute [local go_sem] max2_int min2_int max_two min_two max_three min_three max_four min_four
set_option linter.unusedVariables false
set_option linter.unusedSimpArgs false
def outlawlaw25_lives.f (k : Nat)  : Option (Bool) := (outlawlaw25_one.f).bind fun bt175 => ((script_Bytes.f k bt175.1 bt175.2.1 bt175.2.2).bind fun bt180 => ((script_Read.f bt180.1).bind fun bt182 => (if bt180.2 = 0 then (if bt180.1.toList = ([4, 64, 98, 58, 120, 0, 8, 0, 1, 0, 0, 1, 6] : List UInt8) then (if bt182.2.2.2 = 0 then ((outlawlaw25_one.f).bind fun bt189 => ((script_Same.f bt182.1 bt182.2.1 bt182.2.2.1 bt189.1 bt189.2.1 bt189.2.2).bind fun t194 => (some t194))) else (some false)) else (some false)) else (some false))))
theorem outlawlaw25_lives.mono : ∀ k, LeO (outlawlaw25_lives.f k ) (outlawlaw25_lives.f (k + 1) ) := by
 intro  k
 unfold outlawlaw25_lives.f
 repeat' first
   | (with_reducible exact script_Bytes.mono _ _ _ _)
   | (with_reducible exact LeO.refl _)
   | (with_reducible exact LeO.none _)
   | (with_reducible refine LeO.ite ?_ ?_)
   | (with_reducible refine LeO.bind ?_ (fun _ => ?_))
   | refine LeO.ite ?_ ?_
   | refine LeO.bind ?_ (fun _ => ?_)
def outlawlaw25_lives.T3 : Bool × List (List Nat × List Nat) := (true, [([], []), ([0], [0]), ([1], [1]), ([2], [2]), ([3, 2], [2, 3]), ([2, 4], [2, 4]), ([5, 2], [5]), ([6], [6]), ([7, 6], [6, 7]), ([6, 8], [6, 8]), ([9, 6], [9]), ([10], [10]), ([10, 10], [10]), ([11, 12, 12, 10], [10, 11, 12]), ([10, 13], [10, 13]), ([14, 13, 0, 1, 2, 3, 4, 5, 6, 7, 8, 9, 10, 11, 12, 13, 14], [14])])
def outlawlaw25_lives.B3 : List Nat := [0, 1, 3, 7, 15, 31, 63, 127, 255, 511, 1023, 2047, 2047, 8191, 16383, 32767]
theorem outlawlaw25_lives.tab3 : rtab .any (opsOf Try.f8 3) = outlawlaw25_lives.T3 := by kernel_rfl
theorem outlawlaw25_lives.bits3 : waitsOk outlawlaw25_lives.T3.2 outlawlaw25_lives.B3 = true := by kernel_rfl
set_option maxHeartbeats 8000000 in
set_option maxRecDepth 100000 in
theorem outlawlaw25_lives.calls (k : Nat)  (r : Bool) (w : World) (h : outlawlaw25_lives.f k  = some r) :
  Calls Try.prog 8 #[] w fun e w' => e = .returned (.bool r) ∧ Below w.heap.size w w' := by
 have hu24 := Try.underlying24
 have HB := Aside0.mk (Below.refl w.heap.size w)
 have H : ((outlawlaw25_one.f).bind fun bt175 => ((script_Bytes.f k bt175.1 bt175.2.1 bt175.2.2).bind fun bt180 => ((script_Read.f bt180.1).bind fun bt182 => (if bt180.2 = 0 then (if bt180.1.toList = ([4, 64, 98, 58, 120, 0, 8, 0, 1, 0, 0, 1, 6] : List UInt8) then (if bt182.2.2.2 = 0 then ((outlawlaw25_one.f).bind fun bt189 => ((script_Same.f bt182.1 bt182.2.1 bt182.2.2.1 bt189.1 bt189.2.1 bt189.2.2).bind fun t194 => (some t194))) else (some false)) else (some false)) else (some false))))) = some r := h
 clear h
 replace H := Option.bind_eq_some_iff.mp H
 obtain ⟨⟨t175, t176, t177⟩, A10, H⟩ := H
 have A1 := Aside0.mk A10
 clear A10
 replace H := Option.bind_eq_some_iff.mp H
 obtain ⟨⟨t180, t181⟩, A20, H⟩ := H
 have A2 := Aside0.mk A20
 clear A20
 replace H := Option.bind_eq_some_iff.mp H
 obtain ⟨⟨t182, t183, t184, t187⟩, A30, H⟩ := H
 have A3 := Aside0.mk A30
 clear A30
 by_cases c4 : t181 = 0
 ·rw [if_pos c4] at H
  have c4b0 : (t181 == 0) = true := beq_iff_eq.mpr c4
  have c4b1 : (t181 != 0) = false := bne_eq_false_iff_eq.mpr c4
  clear c4
  by_cases c5 : t180.toList = ([4, 64, 98, 58, 120, 0, 8, 0, 1, 0, 0, 1, 6] : List UInt8)
  ·rw [if_pos c5] at H
   have c5b0 : (t180.toList == ([4, 64, 98, 58, 120, 0, 8, 0, 1, 0, 0, 1, 6] : List UInt8)) = true := beq_iff_eq.mpr c5
   have c5b1 : (t180.toList != ([4, 64, 98, 58, 120, 0, 8, 0, 1, 0, 0, 1, 6] : List UInt8)) = false := bne_eq_false_iff_eq.mpr c5
   clear c5
   by_cases c6 : t187 = 0
   ·rw [if_pos c6] at H
    have c6b0 : (t187 == 0) = true := beq_iff_eq.mpr c6
    have c6b1 : (t187 != 0) = false := bne_eq_false_iff_eq.mpr c6
    clear c6
    replace H := Option.bind_eq_some_iff.mp H
    obtain ⟨⟨t189, t190, t191⟩, A70, H⟩ := H
    have A7 := Aside0.mk A70
    clear A70
    replace H := Option.bind_eq_some_iff.mp H
    obtain ⟨t194, A80, H⟩ := H
    have A8 := Aside0.mk A80
    clear A80
    obtain rfl := Option.some.inj H
    go_enter Try.func8, Try.ntmps8
    try go_wp2_with (first | ((with_reducible refine gate_callee (f := 16) rfl ?_); refine gl_ (some 6) Try.func16 #[] ?_; (with_reducible refine (outlawlaw25_one.calls  t175 t176 t177 _ A1.out).mono ?_); rintro e w9 ⟨v178, rfl, ho0, hb⟩; refine ⟨_, rfl, ?_⟩; have n0_ := Aside0.mk (Kd.S_lower ho0 (below_size (bl_ HB))); have n1_ := Aside0.mk (below_step (bl_ HB) hb); clear HB; have HO179 := n0_; have HB := n1_; clear n0_ n1_; (try clear hb); (try clear hk); (try clear ho0); obtain ⟨Ao10, co10, eo10⟩ := Kd.S_slice HO179.out; subst eo10) | ((with_reducible refine gate_callee (f := 11) rfl ?_); refine gl_ (some 7) Try.func11 #[.agg #[.string t175, .int .i64 t176, .slice Ao10 t177.length co10]] ?_; (with_reducible refine (script_Bytes.calls k t175 t176 _ _ t177 t180 t181 _ ?side1 ?side2 A2.out).mono ?_); (case side1 => repeat (first | exact (Kd.S_reads' HO179.out).2.2 | (with_reducible refine Kd.C_alloc ?_ _) | (with_reducible refine Kd.C_drewN ?_ _) | (with_reducible refine Kd.C_drew ?_))); (case side2 => exact (Kd.S_reads' HO179.out).2.1); rintro e w11 ⟨rfl, hb⟩; refine ⟨_, rfl, ?_⟩; have n0_ := Aside0.mk (Kd.S_below (by (with_reducible repeat (first | apply Kd.S_alloc | apply Kd.S_drewN | apply Kd.S_drew)); exact HO179.out) hb); have n1_ := Aside0.mk (below_step (bl_ HB) hb); clear HO179; clear HB; have HO179 := n0_; have HB := n1_; clear n0_ n1_; (try clear hb); (try clear hk)) | ((with_reducible refine gate_callee (f := 12) rfl ?_); refine gl_ (some 12) Try.func12 #[.string t180] ?_; (with_reducible refine (script_Read.calls t180 t182 t183 t184 t187 _ A3.out).mono ?_); rintro e w12 ⟨v185, rfl, ho0, hb⟩; refine ⟨_, rfl, ?_⟩; have n0_ := Aside0.mk (Kd.S_elder' (by (with_reducible repeat (first | apply Kd.S_alloc | apply Kd.S_drewN | apply Kd.S_drew)); exact HO179.out) (Kd.S_base ho0) hb); have n1_ := Aside0.mk (Kd.S_lower (Kd.S_new' ho0 (Kd.S_lt (by (with_reducible repeat (first | apply Kd.S_alloc | apply Kd.S_drewN | apply Kd.S_drew)); exact HO179.out))) (below_size (bl_ HB))); have n2_ := Aside0.mk (below_step (bl_ HB) hb); clear HO179; clear HB; have HO179 := n0_; have HO186 := n1_; have HB := n2_; clear n0_ n1_ n2_; (try clear hb); (try clear hk); (try clear ho0)) | ((with_reducible refine gate_dst (N := 3) rfl ?_); refine be_ 3 #[.string (⟨#[]⟩ : ByteArray), .int .i64 0, .slice none 0 0] 24 ?_; intro gb188 hg w13 hbox hb; have n0_ := Aside0.mk (Kd.S_below (by (with_reducible repeat (first | apply Kd.S_alloc | apply Kd.S_drewN | apply Kd.S_drew)); exact HO179.out) hb); have n1_ := Aside0.mk (Kd.S_below (by (with_reducible repeat (first | apply Kd.S_alloc | apply Kd.S_drewN | apply Kd.S_drew)); exact HO186.out) hb); have n2_ := Aside0.mk (below_step (bl_ HB) hb); have n3_ := Aside0.mk (hbox); have n4_ := Aside0.mk ((by rw [hg]; exact (below_size (bl_ HB)) : w.heap.size ≤ gb188)); have n5_ := Aside0.mk ((by rw [hg]; exact (below_size (bl_ HB)) : w.heap.size ≤ gb188)); clear HO179; clear HO186; clear HB; have HO179 := n0_; have HO186 := n1_; have HB := n2_; have BK188 := n3_; have GW188 := n4_; have GE188 := n5_; clear n0_ n1_ n2_ n3_ n4_ n5_; clear hb hbox hg; obtain ⟨hcz14_0, hcz14_1, hcz14_2, hfz14_0, hfz14_1, hfz14_2⟩ := bb3_ BK188.out; obtain ⟨Ao15, co15, eo15⟩ := Kd.S_slice HO186.out; subst eo15))
    have n0_ : Aside0 (Kd.S k45 45 (((w13.setCell ⟨gb188, 0, none⟩ (.string t182)).setCell ⟨gb188, 1, none⟩ (.int .i64 t183)).setCell ⟨gb188, 2, none⟩ (.slice Ao15 t184.length co15)) w.heap.size (fun k_ => some k_ ≠ (.slice Ao15 t184.length co15 : Value).ownBlock) (.slice Ao10 t177.length co10) t177) := ⟨by (with_reducible repeat (first | apply Kd.S_alloc | apply Kd.S_drewN | apply Kd.S_drew)); exact Kd.S_mono (Kd.S_far (p := ⟨gb188, 2, none⟩) (Kd.S_far (p := ⟨gb188, 1, none⟩) (Kd.S_far (p := ⟨gb188, 0, none⟩) (Kd.S_types HO179.out BK188.out (by decide)) (fun _ hk => hk.2) (.string t182)) (fun _ hk => hk.2) (.int .i64 t183)) (fun _ hk => hk.2) (.slice Ao15 t184.length co15)) (fun _ hk => hk.1.2)⟩
    have n1_ : Aside0 (Kd.S k45 45 (((w13.setCell ⟨gb188, 0, none⟩ (.string t182)).setCell ⟨gb188, 1, none⟩ (.int .i64 t183)).setCell ⟨gb188, 2, none⟩ (.slice Ao15 t184.length co15)) w.heap.size (fun k_ => some k_ ≠ (.slice Ao10 t177.length co10 : Value).ownBlock) (.slice Ao15 t184.length co15) t184) := ⟨by (with_reducible repeat (first | apply Kd.S_alloc | apply Kd.S_drewN | apply Kd.S_drew)); exact Kd.S_mono (Kd.S_far (p := ⟨gb188, 2, none⟩) (Kd.S_far (p := ⟨gb188, 1, none⟩) (Kd.S_far (p := ⟨gb188, 0, none⟩) (Kd.S_types HO186.out BK188.out (by decide)) (fun _ hk => hk.2) (.string t182)) (fun _ hk => hk.2) (.int .i64 t183)) (fun _ hk => hk.2) (.slice Ao15 t184.length co15)) (fun _ hk => hk.1.2)⟩
    have n2_ : Aside0 ((((w13.setCell ⟨gb188, 0, none⟩ (.string t182)).setCell ⟨gb188, 1, none⟩ (.int .i64 t183)).setCell ⟨gb188, 2, none⟩ (.slice Ao15 t184.length co15)).heap[gb188]? = some (.cells #[.string t182, .int .i64 t183, .slice Ao15 t184.length co15] 24 (0, 0))) := ⟨by (with_reducible repeat (first | refine blk_drewN ?_ _ | refine blk_drew ?_ | refine blk_alloc ?_ _)); refine blk_put (cs := #[.string t182, .int .i64 t183, .slice none 0 0]) ?_ 2 _ rfl; (with_reducible repeat (first | refine blk_drewN ?_ _ | refine blk_drew ?_ | refine blk_alloc ?_ _)); refine blk_put (cs := #[.string t182, .int .i64 0, .slice none 0 0]) ?_ 1 _ rfl; (with_reducible repeat (first | refine blk_drewN ?_ _ | refine blk_drew ?_ | refine blk_alloc ?_ _)); refine blk_put (cs := #[.string (⟨#[]⟩ : ByteArray), .int .i64 0, .slice none 0 0]) ?_ 0 _ rfl; (with_reducible repeat (first | refine blk_drewN ?_ _ | refine blk_drew ?_ | refine blk_alloc ?_ _)); exact BK188.out⟩
    have n3_ : Aside0 (Below w.heap.size w (((w13.setCell ⟨gb188, 0, none⟩ (.string t182)).setCell ⟨gb188, 1, none⟩ (.int .i64 t183)).setCell ⟨gb188, 2, none⟩ (.slice Ao15 t184.length co15))) := ⟨bl_ HB⟩
    (try clear HO179)
    (try clear HO186)
    (try clear BK188)
    (try clear HB)
    generalize (((w13.setCell ⟨gb188, 0, none⟩ (.string t182)).setCell ⟨gb188, 1, none⟩ (.int .i64 t183)).setCell ⟨gb188, 2, none⟩ (.slice Ao15 t184.length co15)) = w16 at n0_ n1_ n2_ n3_ ⊢
    have HO179 := n0_
    have HO186 := n1_
    have BK188 := n2_
    have HB := n3_
    clear n0_ n1_ n2_ n3_
    have n0_ := Aside0.mk (Kd.S_drew HO179.out)
    have n1_ := Aside0.mk (Kd.S_drew HO186.out)
    have n2_ := Aside0.mk (blk_drew BK188.out)
    have n3_ := Aside0.mk (below_drew1 HB.out)
    clear HO179
    clear HO186
    clear BK188
    clear HB
    have HO179 := n0_
    have HO186 := n1_
    have BK188 := n2_
    have HB := n3_
    clear n0_ n1_ n2_ n3_
    refine start_ (n := 16) (S := fun w' => w'.cell? ⟨gb188, 0, none⟩ = some (.string t182) ∧ w'.cell? ⟨gb188, 1, none⟩ = some (.int .i64 t183) ∧ w'.cell? ⟨gb188, 2, none⟩ = some (.slice Ao15 t184.length co15)) (ds := []) #[F_,F_,F_,F_,F_,F_,F_,F_,F_,F_,F_,F_,F_,F_,F_,F_] (by kernel_rfl) rfl rfl ⟨(blk_cell BK188.out 0).trans rfl, (blk_cell BK188.out 1).trans rfl, (blk_cell BK188.out 2).trans rfl⟩ (fun hHeld => ?_); refine with_tabW outlawlaw25_lives.tab3 outlawlaw25_lives.bits3 (fun HT_ HW_ => ?_)
    generalize w16.drew = w17 at HO179 HO186 BK188 HB hHeld ⊢
    refine pq_ 0 15 (mb_ 16 1) HT_.out ?_
    refine pq_ 1 16 (mb_ 16 3) HT_.out ?_
    refine pq_ 2 17 (mb_ 16 7) HT_.out ?_
    refine pq_ 3 18 (mb_ 16 15) HT_.out ?_
    refine pq_ 4 19 (mb_ 16 31) HT_.out ?_
    refine pq_ 5 20 (mb_ 16 63) HT_.out ?_
    refine pq_ 6 21 (mb_ 16 127) HT_.out ?_
    refine pq_ 7 22 (mb_ 16 255) HT_.out ?_
    refine pq_ 8 23 (mb_ 16 511) HT_.out ?_
    refine pq_ 9 24 (mb_ 16 1023) HT_.out ?_
    refine pq_ 10 25 (mb_ 16 2047) HT_.out ?_
    refine tq_ 11 26 (mb_ 16 4095) HT_.out HW_.out hHeld ?_ (hr := by rintro w' ⟨s0, s1, s2⟩; go_simp; with_reducible rfl)
    refine one_ (i := 12) (N := some 27) (mb_ 16 8191) rfl rfl (one_of HT_.out (by kernel_rfl)) (by decide) (fun K hK => ?_)
    refine goes_ Try.func16 (by kernel_rfl) rfl #[] (by rfl) rfl rfl (by (try simp only [List.map_toArray, List.map_cons, List.map_nil]); first | done | rfl | (simp only [List.length_drop, List.length_take]; rfl)) ?_
    with_reducible refine (outlawlaw25_one.calls  t189 t190 t191 _ A7.out).mono ?_
    rintro e w18 ⟨v192, rfl, ho0, hb⟩
    refine ⟨_, rfl, ?_⟩
    have n0_ := Aside0.mk (Kd.S_elder' (by (with_reducible repeat (first | apply Kd.S_alloc | apply Kd.S_drewN | apply Kd.S_drew)); exact HO179.out) (Kd.S_base ho0) hb)
    have n1_ := Aside0.mk (Kd.S_elder' (by (with_reducible repeat (first | apply Kd.S_alloc | apply Kd.S_drewN | apply Kd.S_drew)); exact HO186.out) (Kd.S_base ho0) hb)
    have n2_ := Aside0.mk (Kd.S_lower (Kd.S_new' (Kd.S_new' ho0 (Kd.S_lt (by (with_reducible repeat (first | apply Kd.S_alloc | apply Kd.S_drewN | apply Kd.S_drew)); exact HO179.out))) (Kd.S_lt (by (with_reducible repeat (first | apply Kd.S_alloc | apply Kd.S_drewN | apply Kd.S_drew)); exact HO186.out))) (below_size (bl_ HB)))
    have n3_ := Aside0.mk (blk_below (kb_ BK188) hb)
    have n4_ := Aside0.mk (below_step (bl_ HB) hb)
    clear HO179
    clear HO186
    clear BK188
    clear HB
    have HO179 := n0_
    have HO186 := n1_
    have HO193 := n2_
    have BK188 := n3_
    have HB := n4_
    clear n0_ n1_ n2_ n3_ n4_
    (try clear hb)
    (try clear hb2)
    (try clear hk)
    (try clear hi)
    (try clear ho0)
    obtain ⟨Ao19, co19, eo19⟩ := Kd.S_slice HO193.out
    (first | subst eo19 | (injection eo19 with f1_ f2_ f3_; have f4_ := f1_.symm; have f5_ := f3_.symm; clear f1_ f2_ f3_; subst f4_; subst f5_))
    refine hK.out _ _ ⟨(blk_cell BK188.out 0).trans rfl, (blk_cell BK188.out 1).trans rfl, (blk_cell BK188.out 2).trans rfl⟩ (fun hHeld => ?_)
    clear hK K
    refine norm_ (a' := ?_) ?_ ?_
    rotate_left
    ·show Act.put _ (some 27) _ = _
     simp only [Act.put, List.setIfInBounds_toArray, List.set_cons_zero, List.set_cons_succ, i64_w, i32_w]
     rfl
    refine one_ (i := 13) (N := some 28) (mb_ 16 16383) rfl rfl (one_of HT_.out (by kernel_rfl)) (by decide) (fun K hK => ?_)
    refine goes_ Try.func13 (by kernel_rfl) rfl #[.agg #[.string t182, .int .i64 t183, .slice Ao15 t184.length co15], .agg #[.string t189, .int .i64 t190, .slice Ao19 t191.length co19]] (by rfl) rfl rfl (by (try simp only [List.map_toArray, List.map_cons, List.map_nil]); first | done | rfl | (simp only [List.length_drop, List.length_take]; rfl)) ?_
    with_reducible refine (script_Same.calls t182 t183 _ _ t184 t189 t190 _ _ t191 t194 _ ?side1 ?side2 ?side3 ?side4 A8.out).mono ?_
    (case side1 => repeat (first | exact (Kd.S_reads' HO186.out).2.2 | (with_reducible refine Kd.C_alloc ?_ _) | (with_reducible refine Kd.C_drewN ?_ _) | (with_reducible refine Kd.C_drew ?_)))
    (case side2 => exact (Kd.S_reads' HO186.out).2.1)
    (case side3 => repeat (first | exact (Kd.S_reads' HO193.out).2.2 | (with_reducible refine Kd.C_alloc ?_ _) | (with_reducible refine Kd.C_drewN ?_ _) | (with_reducible refine Kd.C_drew ?_)))
    (case side4 => exact (Kd.S_reads' HO193.out).2.1)
    rintro e w20 ⟨rfl, hb⟩
    refine ⟨_, rfl, ?_⟩
    have n0_ := Aside0.mk (Kd.S_below (by (with_reducible repeat (first | apply Kd.S_alloc | apply Kd.S_drewN | apply Kd.S_drew)); exact HO179.out) hb)
    have n1_ := Aside0.mk (Kd.S_below (by (with_reducible repeat (first | apply Kd.S_alloc | apply Kd.S_drewN | apply Kd.S_drew)); exact HO186.out) hb)
    have n2_ := Aside0.mk (Kd.S_below (by (with_reducible repeat (first | apply Kd.S_alloc | apply Kd.S_drewN | apply Kd.S_drew)); exact HO193.out) hb)
    have n3_ := Aside0.mk (blk_below (kb_ BK188) hb)
    have n4_ := Aside0.mk (below_step (bl_ HB) hb)
    clear HO179
    clear HO186
    clear HO193
    clear BK188
    clear HB
    have HO179 := n0_
    have HO186 := n1_
    have HO193 := n2_
    have BK188 := n3_
    have HB := n4_
    clear n0_ n1_ n2_ n3_ n4_
    (try clear hb)
    (try clear hb2)
    (try clear hk)
    (try clear hi)
    refine hK.out _ _ ⟨(blk_cell BK188.out 0).trans rfl, (blk_cell BK188.out 1).trans rfl, (blk_cell BK188.out 2).trans rfl⟩ (fun hHeld => ?_)
    clear hK K
    refine norm_ (a' := ?_) ?_ ?_
    rotate_left
    ·show Act.put _ (some 28) _ = _
     simp only [Act.put, List.setIfInBounds_toArray, List.set_cons_zero, List.set_cons_succ, i64_w, i32_w]
     rfl
    refine pq_ 14 29 (mb_ 16 32767) HT_.out ?_
    refine pq_ 15 0 (mb_ 16 65535) HT_.out ?_
    refine done_ (done_of HT_.out (by kernel_rfl)) ?_
    try go_wp2
    go_ret
    exact ⟨rfl, bl_ HB⟩
   ·rw [if_neg c6] at H
    have c6b0 : (t187 == 0) = false := beq_eq_false_iff_ne.mpr c6
    have c6b1 : (t187 != 0) = true := bne_iff_ne.mpr c6
    obtain rfl := Option.some.inj H
    go_enter Try.func8, Try.ntmps8
    try go_wp2_with (first | ((with_reducible refine gate_callee (f := 16) rfl ?_); refine gl_ (some 6) Try.func16 #[] ?_; (with_reducible refine (outlawlaw25_one.calls  t175 t176 t177 _ A1.out).mono ?_); rintro e w21 ⟨v178, rfl, ho0, hb⟩; refine ⟨_, rfl, ?_⟩; have n0_ := Aside0.mk (Kd.S_lower ho0 (below_size (bl_ HB))); have n1_ := Aside0.mk (below_step (bl_ HB) hb); clear HB; have HO179 := n0_; have HB := n1_; clear n0_ n1_; (try clear hb); (try clear hk); (try clear ho0); obtain ⟨Ao22, co22, eo22⟩ := Kd.S_slice HO179.out; subst eo22) | ((with_reducible refine gate_callee (f := 11) rfl ?_); refine gl_ (some 7) Try.func11 #[.agg #[.string t175, .int .i64 t176, .slice Ao22 t177.length co22]] ?_; (with_reducible refine (script_Bytes.calls k t175 t176 _ _ t177 t180 t181 _ ?side1 ?side2 A2.out).mono ?_); (case side1 => repeat (first | exact (Kd.S_reads' HO179.out).2.2 | (with_reducible refine Kd.C_alloc ?_ _) | (with_reducible refine Kd.C_drewN ?_ _) | (with_reducible refine Kd.C_drew ?_))); (case side2 => exact (Kd.S_reads' HO179.out).2.1); rintro e w23 ⟨rfl, hb⟩; refine ⟨_, rfl, ?_⟩; have n0_ := Aside0.mk (Kd.S_below (by (with_reducible repeat (first | apply Kd.S_alloc | apply Kd.S_drewN | apply Kd.S_drew)); exact HO179.out) hb); have n1_ := Aside0.mk (below_step (bl_ HB) hb); clear HO179; clear HB; have HO179 := n0_; have HB := n1_; clear n0_ n1_; (try clear hb); (try clear hk)) | ((with_reducible refine gate_callee (f := 12) rfl ?_); refine gl_ (some 12) Try.func12 #[.string t180] ?_; (with_reducible refine (script_Read.calls t180 t182 t183 t184 t187 _ A3.out).mono ?_); rintro e w24 ⟨v185, rfl, ho0, hb⟩; refine ⟨_, rfl, ?_⟩; have n0_ := Aside0.mk (Kd.S_elder' (by (with_reducible repeat (first | apply Kd.S_alloc | apply Kd.S_drewN | apply Kd.S_drew)); exact HO179.out) (Kd.S_base ho0) hb); have n1_ := Aside0.mk (Kd.S_lower (Kd.S_new' ho0 (Kd.S_lt (by (with_reducible repeat (first | apply Kd.S_alloc | apply Kd.S_drewN | apply Kd.S_drew)); exact HO179.out))) (below_size (bl_ HB))); have n2_ := Aside0.mk (below_step (bl_ HB) hb); clear HO179; clear HB; have HO179 := n0_; have HO186 := n1_; have HB := n2_; clear n0_ n1_ n2_; (try clear hb); (try clear hk); (try clear ho0)) | ((with_reducible refine gate_dst (N := 3) rfl ?_); refine be_ 3 #[.string (⟨#[]⟩ : ByteArray), .int .i64 0, .slice none 0 0] 24 ?_; intro gb188 hg w25 hbox hb; have n0_ := Aside0.mk (Kd.S_below (by (with_reducible repeat (first | apply Kd.S_alloc | apply Kd.S_drewN | apply Kd.S_drew)); exact HO179.out) hb); have n1_ := Aside0.mk (Kd.S_below (by (with_reducible repeat (first | apply Kd.S_alloc | apply Kd.S_drewN | apply Kd.S_drew)); exact HO186.out) hb); have n2_ := Aside0.mk (below_step (bl_ HB) hb); have n3_ := Aside0.mk (hbox); have n4_ := Aside0.mk ((by rw [hg]; exact (below_size (bl_ HB)) : w.heap.size ≤ gb188)); have n5_ := Aside0.mk ((by rw [hg]; exact (below_size (bl_ HB)) : w.heap.size ≤ gb188)); clear HO179; clear HO186; clear HB; have HO179 := n0_; have HO186 := n1_; have HB := n2_; have BK188 := n3_; have GW188 := n4_; have GE188 := n5_; clear n0_ n1_ n2_ n3_ n4_ n5_; clear hb hbox hg; obtain ⟨hcz26_0, hcz26_1, hcz26_2, hfz26_0, hfz26_1, hfz26_2⟩ := bb3_ BK188.out; obtain ⟨Ao27, co27, eo27⟩ := Kd.S_slice HO186.out; subst eo27))
    have n0_ : Aside0 (Kd.S k45 45 (((w25.setCell ⟨gb188, 0, none⟩ (.string t182)).setCell ⟨gb188, 1, none⟩ (.int .i64 t183)).setCell ⟨gb188, 2, none⟩ (.slice Ao27 t184.length co27)) w.heap.size (fun k_ => some k_ ≠ (.slice Ao27 t184.length co27 : Value).ownBlock) (.slice Ao22 t177.length co22) t177) := ⟨by (with_reducible repeat (first | apply Kd.S_alloc | apply Kd.S_drewN | apply Kd.S_drew)); exact Kd.S_mono (Kd.S_far (p := ⟨gb188, 2, none⟩) (Kd.S_far (p := ⟨gb188, 1, none⟩) (Kd.S_far (p := ⟨gb188, 0, none⟩) (Kd.S_types HO179.out BK188.out (by decide)) (fun _ hk => hk.2) (.string t182)) (fun _ hk => hk.2) (.int .i64 t183)) (fun _ hk => hk.2) (.slice Ao27 t184.length co27)) (fun _ hk => hk.1.2)⟩
    have n1_ : Aside0 (Kd.S k45 45 (((w25.setCell ⟨gb188, 0, none⟩ (.string t182)).setCell ⟨gb188, 1, none⟩ (.int .i64 t183)).setCell ⟨gb188, 2, none⟩ (.slice Ao27 t184.length co27)) w.heap.size (fun k_ => some k_ ≠ (.slice Ao22 t177.length co22 : Value).ownBlock) (.slice Ao27 t184.length co27) t184) := ⟨by (with_reducible repeat (first | apply Kd.S_alloc | apply Kd.S_drewN | apply Kd.S_drew)); exact Kd.S_mono (Kd.S_far (p := ⟨gb188, 2, none⟩) (Kd.S_far (p := ⟨gb188, 1, none⟩) (Kd.S_far (p := ⟨gb188, 0, none⟩) (Kd.S_types HO186.out BK188.out (by decide)) (fun _ hk => hk.2) (.string t182)) (fun _ hk => hk.2) (.int .i64 t183)) (fun _ hk => hk.2) (.slice Ao27 t184.length co27)) (fun _ hk => hk.1.2)⟩
    have n2_ : Aside0 ((((w25.setCell ⟨gb188, 0, none⟩ (.string t182)).setCell ⟨gb188, 1, none⟩ (.int .i64 t183)).setCell ⟨gb188, 2, none⟩ (.slice Ao27 t184.length co27)).heap[gb188]? = some (.cells #[.string t182, .int .i64 t183, .slice Ao27 t184.length co27] 24 (0, 0))) := ⟨by (with_reducible repeat (first | refine blk_drewN ?_ _ | refine blk_drew ?_ | refine blk_alloc ?_ _)); refine blk_put (cs := #[.string t182, .int .i64 t183, .slice none 0 0]) ?_ 2 _ rfl; (with_reducible repeat (first | refine blk_drewN ?_ _ | refine blk_drew ?_ | refine blk_alloc ?_ _)); refine blk_put (cs := #[.string t182, .int .i64 0, .slice none 0 0]) ?_ 1 _ rfl; (with_reducible repeat (first | refine blk_drewN ?_ _ | refine blk_drew ?_ | refine blk_alloc ?_ _)); refine blk_put (cs := #[.string (⟨#[]⟩ : ByteArray), .int .i64 0, .slice none 0 0]) ?_ 0 _ rfl; (with_reducible repeat (first | refine blk_drewN ?_ _ | refine blk_drew ?_ | refine blk_alloc ?_ _)); exact BK188.out⟩
    have n3_ : Aside0 (Below w.heap.size w (((w25.setCell ⟨gb188, 0, none⟩ (.string t182)).setCell ⟨gb188, 1, none⟩ (.int .i64 t183)).setCell ⟨gb188, 2, none⟩ (.slice Ao27 t184.length co27))) := ⟨bl_ HB⟩
    (try clear HO179)
    (try clear HO186)
    (try clear BK188)
    (try clear HB)
    generalize (((w25.setCell ⟨gb188, 0, none⟩ (.string t182)).setCell ⟨gb188, 1, none⟩ (.int .i64 t183)).setCell ⟨gb188, 2, none⟩ (.slice Ao27 t184.length co27)) = w28 at n0_ n1_ n2_ n3_ ⊢
    have HO179 := n0_
    have HO186 := n1_
    have BK188 := n2_
    have HB := n3_
    clear n0_ n1_ n2_ n3_
    have n0_ := Aside0.mk (Kd.S_drew HO179.out)
    have n1_ := Aside0.mk (Kd.S_drew HO186.out)
    have n2_ := Aside0.mk (blk_drew BK188.out)
    have n3_ := Aside0.mk (below_drew1 HB.out)
    clear HO179
    clear HO186
    clear BK188
    clear HB
    have HO179 := n0_
    have HO186 := n1_
    have BK188 := n2_
    have HB := n3_
    clear n0_ n1_ n2_ n3_
    refine start_ (n := 16) (S := fun w' => True) (ds := []) #[F_,F_,F_,F_,F_,F_,F_,F_,F_,F_,F_,F_,F_,F_,F_,F_] (by kernel_rfl) rfl rfl trivial (fun hHeld => ?_); refine with_tabW outlawlaw25_lives.tab3 outlawlaw25_lives.bits3 (fun HT_ HW_ => ?_)
    generalize w28.drew = w29 at HO179 HO186 BK188 HB hHeld ⊢
    refine pq_ 0 15 (mb_ 16 1) HT_.out ?_
    refine pq_ 1 16 (mb_ 16 3) HT_.out ?_
    refine pq_ 2 17 (mb_ 16 7) HT_.out ?_
    refine pq_ 3 18 (mb_ 16 15) HT_.out ?_
    refine pq_ 4 19 (mb_ 16 31) HT_.out ?_
    refine pq_ 5 20 (mb_ 16 63) HT_.out ?_
    refine pq_ 6 21 (mb_ 16 127) HT_.out ?_
    refine pq_ 7 22 (mb_ 16 255) HT_.out ?_
    refine pq_ 8 23 (mb_ 16 511) HT_.out ?_
    refine pq_ 9 24 (mb_ 16 1023) HT_.out ?_
    refine pq_ 10 25 (mb_ 16 2047) HT_.out ?_
    refine pu_ 11 26 (mb_ 16 4095) HT_.out ?_
    refine pu_ 12 27 (mb_ 16 8191) HT_.out ?_
    refine pu_ 13 28 (mb_ 16 16383) HT_.out ?_
    refine pq_ 14 29 (mb_ 16 32767) HT_.out ?_
    refine pq_ 15 0 (mb_ 16 65535) HT_.out ?_
    refine done_ (done_of HT_.out (by kernel_rfl)) ?_
    try go_wp2
    go_ret
    exact ⟨rfl, bl_ HB⟩
  ·rw [if_neg c5] at H
   have c5b0 : (t180.toList == ([4, 64, 98, 58, 120, 0, 8, 0, 1, 0, 0, 1, 6] : List UInt8)) = false := beq_eq_false_iff_ne.mpr c5
   have c5b1 : (t180.toList != ([4, 64, 98, 58, 120, 0, 8, 0, 1, 0, 0, 1, 6] : List UInt8)) = true := bne_iff_ne.mpr c5
   obtain rfl := Option.some.inj H
   go_enter Try.func8, Try.ntmps8
   try go_wp2_with (first | ((with_reducible refine gate_callee (f := 16) rfl ?_); refine gl_ (some 6) Try.func16 #[] ?_; (with_reducible refine (outlawlaw25_one.calls  t175 t176 t177 _ A1.out).mono ?_); rintro e w30 ⟨v178, rfl, ho0, hb⟩; refine ⟨_, rfl, ?_⟩; have n0_ := Aside0.mk (Kd.S_lower ho0 (below_size (bl_ HB))); have n1_ := Aside0.mk (below_step (bl_ HB) hb); clear HB; have HO179 := n0_; have HB := n1_; clear n0_ n1_; (try clear hb); (try clear hk); (try clear ho0); obtain ⟨Ao31, co31, eo31⟩ := Kd.S_slice HO179.out; subst eo31) | ((with_reducible refine gate_callee (f := 11) rfl ?_); refine gl_ (some 7) Try.func11 #[.agg #[.string t175, .int .i64 t176, .slice Ao31 t177.length co31]] ?_; (with_reducible refine (script_Bytes.calls k t175 t176 _ _ t177 t180 t181 _ ?side1 ?side2 A2.out).mono ?_); (case side1 => repeat (first | exact (Kd.S_reads' HO179.out).2.2 | (with_reducible refine Kd.C_alloc ?_ _) | (with_reducible refine Kd.C_drewN ?_ _) | (with_reducible refine Kd.C_drew ?_))); (case side2 => exact (Kd.S_reads' HO179.out).2.1); rintro e w32 ⟨rfl, hb⟩; refine ⟨_, rfl, ?_⟩; have n0_ := Aside0.mk (Kd.S_below (by (with_reducible repeat (first | apply Kd.S_alloc | apply Kd.S_drewN | apply Kd.S_drew)); exact HO179.out) hb); have n1_ := Aside0.mk (below_step (bl_ HB) hb); clear HO179; clear HB; have HO179 := n0_; have HB := n1_; clear n0_ n1_; (try clear hb); (try clear hk)) | ((with_reducible refine gate_callee (f := 12) rfl ?_); refine gl_ (some 12) Try.func12 #[.string t180] ?_; (with_reducible refine (script_Read.calls t180 t182 t183 t184 t187 _ A3.out).mono ?_); rintro e w33 ⟨v185, rfl, ho0, hb⟩; refine ⟨_, rfl, ?_⟩; have n0_ := Aside0.mk (Kd.S_elder' (by (with_reducible repeat (first | apply Kd.S_alloc | apply Kd.S_drewN | apply Kd.S_drew)); exact HO179.out) (Kd.S_base ho0) hb); have n1_ := Aside0.mk (Kd.S_lower (Kd.S_new' ho0 (Kd.S_lt (by (with_reducible repeat (first | apply Kd.S_alloc | apply Kd.S_drewN | apply Kd.S_drew)); exact HO179.out))) (below_size (bl_ HB))); have n2_ := Aside0.mk (below_step (bl_ HB) hb); clear HO179; clear HB; have HO179 := n0_; have HO186 := n1_; have HB := n2_; clear n0_ n1_ n2_; (try clear hb); (try clear hk); (try clear ho0)) | ((with_reducible refine gate_dst (N := 3) rfl ?_); refine be_ 3 #[.string (⟨#[]⟩ : ByteArray), .int .i64 0, .slice none 0 0] 24 ?_; intro gb188 hg w34 hbox hb; have n0_ := Aside0.mk (Kd.S_below (by (with_reducible repeat (first | apply Kd.S_alloc | apply Kd.S_drewN | apply Kd.S_drew)); exact HO179.out) hb); have n1_ := Aside0.mk (Kd.S_below (by (with_reducible repeat (first | apply Kd.S_alloc | apply Kd.S_drewN | apply Kd.S_drew)); exact HO186.out) hb); have n2_ := Aside0.mk (below_step (bl_ HB) hb); have n3_ := Aside0.mk (hbox); have n4_ := Aside0.mk ((by rw [hg]; exact (below_size (bl_ HB)) : w.heap.size ≤ gb188)); have n5_ := Aside0.mk ((by rw [hg]; exact (below_size (bl_ HB)) : w.heap.size ≤ gb188)); clear HO179; clear HO186; clear HB; have HO179 := n0_; have HO186 := n1_; have HB := n2_; have BK188 := n3_; have GW188 := n4_; have GE188 := n5_; clear n0_ n1_ n2_ n3_ n4_ n5_; clear hb hbox hg; obtain ⟨hcz35_0, hcz35_1, hcz35_2, hfz35_0, hfz35_1, hfz35_2⟩ := bb3_ BK188.out; obtain ⟨Ao36, co36, eo36⟩ := Kd.S_slice HO186.out; subst eo36))
   have n0_ : Aside0 (Kd.S k45 45 (((w34.setCell ⟨gb188, 0, none⟩ (.string t182)).setCell ⟨gb188, 1, none⟩ (.int .i64 t183)).setCell ⟨gb188, 2, none⟩ (.slice Ao36 t184.length co36)) w.heap.size (fun k_ => some k_ ≠ (.slice Ao36 t184.length co36 : Value).ownBlock) (.slice Ao31 t177.length co31) t177) := ⟨by (with_reducible repeat (first | apply Kd.S_alloc | apply Kd.S_drewN | apply Kd.S_drew)); exact Kd.S_mono (Kd.S_far (p := ⟨gb188, 2, none⟩) (Kd.S_far (p := ⟨gb188, 1, none⟩) (Kd.S_far (p := ⟨gb188, 0, none⟩) (Kd.S_types HO179.out BK188.out (by decide)) (fun _ hk => hk.2) (.string t182)) (fun _ hk => hk.2) (.int .i64 t183)) (fun _ hk => hk.2) (.slice Ao36 t184.length co36)) (fun _ hk => hk.1.2)⟩
   have n1_ : Aside0 (Kd.S k45 45 (((w34.setCell ⟨gb188, 0, none⟩ (.string t182)).setCell ⟨gb188, 1, none⟩ (.int .i64 t183)).setCell ⟨gb188, 2, none⟩ (.slice Ao36 t184.length co36)) w.heap.size (fun k_ => some k_ ≠ (.slice Ao31 t177.length co31 : Value).ownBlock) (.slice Ao36 t184.length co36) t184) := ⟨by (with_reducible repeat (first | apply Kd.S_alloc | apply Kd.S_drewN | apply Kd.S_drew)); exact Kd.S_mono (Kd.S_far (p := ⟨gb188, 2, none⟩) (Kd.S_far (p := ⟨gb188, 1, none⟩) (Kd.S_far (p := ⟨gb188, 0, none⟩) (Kd.S_types HO186.out BK188.out (by decide)) (fun _ hk => hk.2) (.string t182)) (fun _ hk => hk.2) (.int .i64 t183)) (fun _ hk => hk.2) (.slice Ao36 t184.length co36)) (fun _ hk => hk.1.2)⟩
   have n2_ : Aside0 ((((w34.setCell ⟨gb188, 0, none⟩ (.string t182)).setCell ⟨gb188, 1, none⟩ (.int .i64 t183)).setCell ⟨gb188, 2, none⟩ (.slice Ao36 t184.length co36)).heap[gb188]? = some (.cells #[.string t182, .int .i64 t183, .slice Ao36 t184.length co36] 24 (0, 0))) := ⟨by (with_reducible repeat (first | refine blk_drewN ?_ _ | refine blk_drew ?_ | refine blk_alloc ?_ _)); refine blk_put (cs := #[.string t182, .int .i64 t183, .slice none 0 0]) ?_ 2 _ rfl; (with_reducible repeat (first | refine blk_drewN ?_ _ | refine blk_drew ?_ | refine blk_alloc ?_ _)); refine blk_put (cs := #[.string t182, .int .i64 0, .slice none 0 0]) ?_ 1 _ rfl; (with_reducible repeat (first | refine blk_drewN ?_ _ | refine blk_drew ?_ | refine blk_alloc ?_ _)); refine blk_put (cs := #[.string (⟨#[]⟩ : ByteArray), .int .i64 0, .slice none 0 0]) ?_ 0 _ rfl; (with_reducible repeat (first | refine blk_drewN ?_ _ | refine blk_drew ?_ | refine blk_alloc ?_ _)); exact BK188.out⟩
   have n3_ : Aside0 (Below w.heap.size w (((w34.setCell ⟨gb188, 0, none⟩ (.string t182)).setCell ⟨gb188, 1, none⟩ (.int .i64 t183)).setCell ⟨gb188, 2, none⟩ (.slice Ao36 t184.length co36))) := ⟨bl_ HB⟩
   (try clear HO179)
   (try clear HO186)
   (try clear BK188)
   (try clear HB)
   generalize (((w34.setCell ⟨gb188, 0, none⟩ (.string t182)).setCell ⟨gb188, 1, none⟩ (.int .i64 t183)).setCell ⟨gb188, 2, none⟩ (.slice Ao36 t184.length co36)) = w37 at n0_ n1_ n2_ n3_ ⊢
   have HO179 := n0_
   have HO186 := n1_
   have BK188 := n2_
   have HB := n3_
   clear n0_ n1_ n2_ n3_
   have n0_ := Aside0.mk (Kd.S_drew HO179.out)
   have n1_ := Aside0.mk (Kd.S_drew HO186.out)
   have n2_ := Aside0.mk (blk_drew BK188.out)
   have n3_ := Aside0.mk (below_drew1 HB.out)
   clear HO179
   clear HO186
   clear BK188
   clear HB
   have HO179 := n0_
   have HO186 := n1_
   have BK188 := n2_
   have HB := n3_
   clear n0_ n1_ n2_ n3_
   refine start_ (n := 16) (S := fun w' => True) (ds := []) #[F_,F_,F_,F_,F_,F_,F_,F_,F_,F_,F_,F_,F_,F_,F_,F_] (by kernel_rfl) rfl rfl trivial (fun hHeld => ?_); refine with_tabW outlawlaw25_lives.tab3 outlawlaw25_lives.bits3 (fun HT_ HW_ => ?_)
   generalize w37.drew = w38 at HO179 HO186 BK188 HB hHeld ⊢
   refine pq_ 0 15 (mb_ 16 1) HT_.out ?_
   refine pq_ 1 16 (mb_ 16 3) HT_.out ?_
   refine pq_ 2 17 (mb_ 16 7) HT_.out ?_
   refine pq_ 3 18 (mb_ 16 15) HT_.out ?_
   refine pq_ 4 19 (mb_ 16 31) HT_.out ?_
   refine pq_ 5 20 (mb_ 16 63) HT_.out ?_
   refine pq_ 6 21 (mb_ 16 127) HT_.out ?_
   refine pu_ 7 22 (mb_ 16 255) HT_.out ?_
   refine pu_ 8 23 (mb_ 16 511) HT_.out ?_
   refine pq_ 9 24 (mb_ 16 1023) HT_.out ?_
   refine pq_ 10 25 (mb_ 16 2047) HT_.out ?_
   refine pu_ 11 26 (mb_ 16 4095) HT_.out ?_
   refine pu_ 12 27 (mb_ 16 8191) HT_.out ?_
   refine pu_ 13 28 (mb_ 16 16383) HT_.out ?_
   refine pq_ 14 29 (mb_ 16 32767) HT_.out ?_
   refine pq_ 15 0 (mb_ 16 65535) HT_.out ?_
   refine done_ (done_of HT_.out (by kernel_rfl)) ?_
   try go_wp2
   go_ret
   exact ⟨rfl, bl_ HB⟩
 ·rw [if_neg c4] at H
  have c4b0 : (t181 == 0) = false := beq_eq_false_iff_ne.mpr c4
  have c4b1 : (t181 != 0) = true := bne_iff_ne.mpr c4
  obtain rfl := Option.some.inj H
  go_enter Try.func8, Try.ntmps8
  try go_wp2_with (first | ((with_reducible refine gate_callee (f := 16) rfl ?_); refine gl_ (some 6) Try.func16 #[] ?_; (with_reducible refine (outlawlaw25_one.calls  t175 t176 t177 _ A1.out).mono ?_); rintro e w39 ⟨v178, rfl, ho0, hb⟩; refine ⟨_, rfl, ?_⟩; have n0_ := Aside0.mk (Kd.S_lower ho0 (below_size (bl_ HB))); have n1_ := Aside0.mk (below_step (bl_ HB) hb); clear HB; have HO179 := n0_; have HB := n1_; clear n0_ n1_; (try clear hb); (try clear hk); (try clear ho0); obtain ⟨Ao40, co40, eo40⟩ := Kd.S_slice HO179.out; subst eo40) | ((with_reducible refine gate_callee (f := 11) rfl ?_); refine gl_ (some 7) Try.func11 #[.agg #[.string t175, .int .i64 t176, .slice Ao40 t177.length co40]] ?_; (with_reducible refine (script_Bytes.calls k t175 t176 _ _ t177 t180 t181 _ ?side1 ?side2 A2.out).mono ?_); (case side1 => repeat (first | exact (Kd.S_reads' HO179.out).2.2 | (with_reducible refine Kd.C_alloc ?_ _) | (with_reducible refine Kd.C_drewN ?_ _) | (with_reducible refine Kd.C_drew ?_))); (case side2 => exact (Kd.S_reads' HO179.out).2.1); rintro e w41 ⟨rfl, hb⟩; refine ⟨_, rfl, ?_⟩; have n0_ := Aside0.mk (Kd.S_below (by (with_reducible repeat (first | apply Kd.S_alloc | apply Kd.S_drewN | apply Kd.S_drew)); exact HO179.out) hb); have n1_ := Aside0.mk (below_step (bl_ HB) hb); clear HO179; clear HB; have HO179 := n0_; have HB := n1_; clear n0_ n1_; (try clear hb); (try clear hk)) | ((with_reducible refine gate_callee (f := 12) rfl ?_); refine gl_ (some 12) Try.func12 #[.string t180] ?_; (with_reducible refine (script_Read.calls t180 t182 t183 t184 t187 _ A3.out).mono ?_); rintro e w42 ⟨v185, rfl, ho0, hb⟩; refine ⟨_, rfl, ?_⟩; have n0_ := Aside0.mk (Kd.S_elder' (by (with_reducible repeat (first | apply Kd.S_alloc | apply Kd.S_drewN | apply Kd.S_drew)); exact HO179.out) (Kd.S_base ho0) hb); have n1_ := Aside0.mk (Kd.S_lower (Kd.S_new' ho0 (Kd.S_lt (by (with_reducible repeat (first | apply Kd.S_alloc | apply Kd.S_drewN | apply Kd.S_drew)); exact HO179.out))) (below_size (bl_ HB))); have n2_ := Aside0.mk (below_step (bl_ HB) hb); clear HO179; clear HB; have HO179 := n0_; have HO186 := n1_; have HB := n2_; clear n0_ n1_ n2_; (try clear hb); (try clear hk); (try clear ho0)) | ((with_reducible refine gate_dst (N := 3) rfl ?_); refine be_ 3 #[.string (⟨#[]⟩ : ByteArray), .int .i64 0, .slice none 0 0] 24 ?_; intro gb188 hg w43 hbox hb; have n0_ := Aside0.mk (Kd.S_below (by (with_reducible repeat (first | apply Kd.S_alloc | apply Kd.S_drewN | apply Kd.S_drew)); exact HO179.out) hb); have n1_ := Aside0.mk (Kd.S_below (by (with_reducible repeat (first | apply Kd.S_alloc | apply Kd.S_drewN | apply Kd.S_drew)); exact HO186.out) hb); have n2_ := Aside0.mk (below_step (bl_ HB) hb); have n3_ := Aside0.mk (hbox); have n4_ := Aside0.mk ((by rw [hg]; exact (below_size (bl_ HB)) : w.heap.size ≤ gb188)); have n5_ := Aside0.mk ((by rw [hg]; exact (below_size (bl_ HB)) : w.heap.size ≤ gb188)); clear HO179; clear HO186; clear HB; have HO179 := n0_; have HO186 := n1_; have HB := n2_; have BK188 := n3_; have GW188 := n4_; have GE188 := n5_; clear n0_ n1_ n2_ n3_ n4_ n5_; clear hb hbox hg; obtain ⟨hcz44_0, hcz44_1, hcz44_2, hfz44_0, hfz44_1, hfz44_2⟩ := bb3_ BK188.out; obtain ⟨Ao45, co45, eo45⟩ := Kd.S_slice HO186.out; subst eo45))
  have n0_ : Aside0 (Kd.S k45 45 (((w43.setCell ⟨gb188, 0, none⟩ (.string t182)).setCell ⟨gb188, 1, none⟩ (.int .i64 t183)).setCell ⟨gb188, 2, none⟩ (.slice Ao45 t184.length co45)) w.heap.size (fun k_ => some k_ ≠ (.slice Ao45 t184.length co45 : Value).ownBlock) (.slice Ao40 t177.length co40) t177) := ⟨by (with_reducible repeat (first | apply Kd.S_alloc | apply Kd.S_drewN | apply Kd.S_drew)); exact Kd.S_mono (Kd.S_far (p := ⟨gb188, 2, none⟩) (Kd.S_far (p := ⟨gb188, 1, none⟩) (Kd.S_far (p := ⟨gb188, 0, none⟩) (Kd.S_types HO179.out BK188.out (by decide)) (fun _ hk => hk.2) (.string t182)) (fun _ hk => hk.2) (.int .i64 t183)) (fun _ hk => hk.2) (.slice Ao45 t184.length co45)) (fun _ hk => hk.1.2)⟩
  have n1_ : Aside0 (Kd.S k45 45 (((w43.setCell ⟨gb188, 0, none⟩ (.string t182)).setCell ⟨gb188, 1, none⟩ (.int .i64 t183)).setCell ⟨gb188, 2, none⟩ (.slice Ao45 t184.length co45)) w.heap.size (fun k_ => some k_ ≠ (.slice Ao40 t177.length co40 : Value).ownBlock) (.slice Ao45 t184.length co45) t184) := ⟨by (with_reducible repeat (first | apply Kd.S_alloc | apply Kd.S_drewN | apply Kd.S_drew)); exact Kd.S_mono (Kd.S_far (p := ⟨gb188, 2, none⟩) (Kd.S_far (p := ⟨gb188, 1, none⟩) (Kd.S_far (p := ⟨gb188, 0, none⟩) (Kd.S_types HO186.out BK188.out (by decide)) (fun _ hk => hk.2) (.string t182)) (fun _ hk => hk.2) (.int .i64 t183)) (fun _ hk => hk.2) (.slice Ao45 t184.length co45)) (fun _ hk => hk.1.2)⟩
  have n2_ : Aside0 ((((w43.setCell ⟨gb188, 0, none⟩ (.string t182)).setCell ⟨gb188, 1, none⟩ (.int .i64 t183)).setCell ⟨gb188, 2, none⟩ (.slice Ao45 t184.length co45)).heap[gb188]? = some (.cells #[.string t182, .int .i64 t183, .slice Ao45 t184.length co45] 24 (0, 0))) := ⟨by (with_reducible repeat (first | refine blk_drewN ?_ _ | refine blk_drew ?_ | refine blk_alloc ?_ _)); refine blk_put (cs := #[.string t182, .int .i64 t183, .slice none 0 0]) ?_ 2 _ rfl; (with_reducible repeat (first | refine blk_drewN ?_ _ | refine blk_drew ?_ | refine blk_alloc ?_ _)); refine blk_put (cs := #[.string t182, .int .i64 0, .slice none 0 0]) ?_ 1 _ rfl; (with_reducible repeat (first | refine blk_drewN ?_ _ | refine blk_drew ?_ | refine blk_alloc ?_ _)); refine blk_put (cs := #[.string (⟨#[]⟩ : ByteArray), .int .i64 0, .slice none 0 0]) ?_ 0 _ rfl; (with_reducible repeat (first | refine blk_drewN ?_ _ | refine blk_drew ?_ | refine blk_alloc ?_ _)); exact BK188.out⟩
  have n3_ : Aside0 (Below w.heap.size w (((w43.setCell ⟨gb188, 0, none⟩ (.string t182)).setCell ⟨gb188, 1, none⟩ (.int .i64 t183)).setCell ⟨gb188, 2, none⟩ (.slice Ao45 t184.length co45))) := ⟨bl_ HB⟩
  (try clear HO179)
  (try clear HO186)
  (try clear BK188)
  (try clear HB)
  generalize (((w43.setCell ⟨gb188, 0, none⟩ (.string t182)).setCell ⟨gb188, 1, none⟩ (.int .i64 t183)).setCell ⟨gb188, 2, none⟩ (.slice Ao45 t184.length co45)) = w46 at n0_ n1_ n2_ n3_ ⊢
  have HO179 := n0_
  have HO186 := n1_
  have BK188 := n2_
  have HB := n3_
  clear n0_ n1_ n2_ n3_
  have n0_ := Aside0.mk (Kd.S_drew HO179.out)
  have n1_ := Aside0.mk (Kd.S_drew HO186.out)
  have n2_ := Aside0.mk (blk_drew BK188.out)
  have n3_ := Aside0.mk (below_drew1 HB.out)
  clear HO179
  clear HO186
  clear BK188
  clear HB
  have HO179 := n0_
  have HO186 := n1_
  have BK188 := n2_
  have HB := n3_
  clear n0_ n1_ n2_ n3_
  refine start_ (n := 16) (S := fun w' => True) (ds := []) #[F_,F_,F_,F_,F_,F_,F_,F_,F_,F_,F_,F_,F_,F_,F_,F_] (by kernel_rfl) rfl rfl trivial (fun hHeld => ?_); refine with_tabW outlawlaw25_lives.tab3 outlawlaw25_lives.bits3 (fun HT_ HW_ => ?_)
  generalize w46.drew = w47 at HO179 HO186 BK188 HB hHeld ⊢
  refine pq_ 0 15 (mb_ 16 1) HT_.out ?_
  refine pq_ 1 16 (mb_ 16 3) HT_.out ?_
  refine pq_ 2 17 (mb_ 16 7) HT_.out ?_
  refine pu_ 3 18 (mb_ 16 15) HT_.out ?_
  refine pu_ 4 19 (mb_ 16 31) HT_.out ?_
  refine pq_ 5 20 (mb_ 16 63) HT_.out ?_
  refine pq_ 6 21 (mb_ 16 127) HT_.out ?_
  refine pu_ 7 22 (mb_ 16 255) HT_.out ?_
  refine pu_ 8 23 (mb_ 16 511) HT_.out ?_
  refine pq_ 9 24 (mb_ 16 1023) HT_.out ?_
  refine pq_ 10 25 (mb_ 16 2047) HT_.out ?_
  refine pu_ 11 26 (mb_ 16 4095) HT_.out ?_
  refine pu_ 12 27 (mb_ 16 8191) HT_.out ?_
  refine pu_ 13 28 (mb_ 16 16383) HT_.out ?_
  refine pq_ 14 29 (mb_ 16 32767) HT_.out ?_
  refine pq_ 15 0 (mb_ 16 65535) HT_.out ?_
  refine done_ (done_of HT_.out (by kernel_rfl)) ?_
  try go_wp2
  go_ret
  exact ⟨rfl, bl_ HB⟩
def outlawlaw25_inputs.l0 : Nat → List (S42) → Int → ByteArray → Int → List (S45) → Option ((List (S42)))
 | 0, _, _, _, _, _ => none
 | k + 1, x3, x4, x196000, x196001, x196002 => if x4 < (x196002.length : Int) then (if 0 ≤ x4 then (if x3.length < 2932031007402 then (outlawlaw25_inputs.l0 k (x3 ++ [(⟨(rd_T45 x196002 x4).f1.f0, (rd_T45 x196002 x4).f1.f1, (rd_T45 x196002 x4).f1.f2, (rd_T45 x196002 x4).f1.f3, (rd_T45 x196002 x4).f1.f4⟩ : S42)]) (wrap64 (x4 + 1)) x196000 x196001 x196002) else (none)) else (none)) else (some x3)
def outlawlaw25_inputs.f (k : Nat) (a0_0 : ByteArray) (a0_1 : Int) (l0_2 : List (S45)) : Option ((List (S42))) := outlawlaw25_inputs.l0 k ([] : List (S42)) 0 a0_0 a0_1 l0_2
theorem outlawlaw25_inputs.mono_l : ∀ k, (∀ y0 y1 y2 y3 y4, LeO (outlawlaw25_inputs.l0 k y0 y1 y2 y3 y4) (outlawlaw25_inputs.l0 (k + 1) y0 y1 y2 y3 y4))
 | 0 => fun _ _ _ _ _ r h => by simp [outlawlaw25_inputs.l0] at h
 | k + 1 => by
  have ih0 := outlawlaw25_inputs.mono_l k
  ·intro y0 y1 y2 y3 y4
   unfold outlawlaw25_inputs.l0
   repeat' first
   | (with_reducible exact ih0 _ _ _ _ _)
   | (with_reducible exact LeO.refl _)
   | (with_reducible exact LeO.none _)
   | (with_reducible refine LeO.ite ?_ ?_)
   | (with_reducible refine LeO.bind ?_ (fun _ => ?_))
   | refine LeO.ite ?_ ?_
   | refine LeO.bind ?_ (fun _ => ?_)
theorem outlawlaw25_inputs.mono : ∀ a0 a1 a2 k, LeO (outlawlaw25_inputs.f k a0 a1 a2) (outlawlaw25_inputs.f (k + 1) a0 a1 a2) := by
 intro a0 a1 a2 k
 have ih0 := outlawlaw25_inputs.mono_l k
 unfold outlawlaw25_inputs.f
 repeat' first
   | (with_reducible exact ih0 _ _ _ _ _)
   | (with_reducible exact LeO.refl _)
   | (with_reducible exact LeO.none _)
   | (with_reducible refine LeO.ite ?_ ?_)
   | (with_reducible refine LeO.bind ?_ (fun _ => ?_))
   | refine LeO.ite ?_ ?_
   | refine LeO.bind ?_ (fun _ => ?_)
set_option maxHeartbeats 8000000 in
set_option maxRecDepth 100000 in
theorem outlawlaw25_inputs.calls (k : Nat) (a0_0 : ByteArray) (a0_1 : Int) (A0_2 : Option Addr) (c0_2 : Nat) (l0_2 : List (S45)) (r : List (S42)) (w : World) (hr0_2 : Kd.C k45 w A0_2 l0_2.length l0_2) (hc0_2 : l0_2.length ≤ c0_2) (h : outlawlaw25_inputs.f k a0_0 a0_1 l0_2 = some r) :
  Calls Try.prog 23 #[.agg #[.string a0_0, .int .i64 a0_1, .slice A0_2 l0_2.length c0_2]] w fun e w' => ∃ v0_ : Value, e = .returned (v0_) ∧ Kd.R k42 42 w' w.heap.size (fun _ => True) v0_ r ∧ Below w.heap.size w w' := by
 have hu24 := Try.underlying24
 have hu42 := Try.underlying42
 have HR0_2 := Aside0.mk hr0_2
 have HC0_2 := Aside0.mk hc0_2
 clear hr0_2 hc0_2
 have HB := Aside0.mk (Below.refl w.heap.size w)
 have H : (outlawlaw25_inputs.l0 k ([] : List (S42)) 0 a0_0 a0_1 l0_2) = some r := h
 clear h
 have H' := Aside0.mk H
 clear H
 go_enter Try.func23, Try.ntmps23
 go_wp2_with (first | ((with_reducible refine gate_dst (N := 1) rfl ?_); refine be_ 1 #[.string a0_0, .int .i64 a0_1, .slice A0_2 l0_2.length c0_2] 24 ?_; intro gb195 hg w2 hbox hb; have n0_ := Aside0.mk (below_step (bl_ HB) hb); have n1_ := Aside0.mk (hbox); have n2_ := Aside0.mk ((by rw [hg]; exact (below_size (bl_ HB)) : w.heap.size ≤ gb195)); have n3_ := Aside0.mk ((by rw [hg]; exact (below_size (bl_ HB)) : w.heap.size ≤ gb195)); clear HB; have HB := n0_; have BK195 := n1_; have GW195 := n2_; have GE195 := n3_; clear n0_ n1_ n2_ n3_; clear hb hbox hg))
 go_loopg [3, 4] k (fun kq v3 v4 w' => ∃ (x3_1 : List (S42)) (x4_1 : Int), v4 = .int .i64 x4_1 ∧ Aside0 (outlawlaw25_inputs.l0 kq x3_1 x4_1 a0_0 a0_1 l0_2 = some r) ∧ Aside0 (kq ≤ k) ∧ Aside0 (Kd.R k42 42 w' w.heap.size (fun _ => True) v3 x3_1) ∧ Aside0 (w'.heap[gb195]? = some (.cells #[.string a0_0, .int .i64 a0_1, (.slice A0_2 l0_2.length c0_2)] 24 (0, 0))) ∧ Aside0 (Below w.heap.size w w'))
 case atStart => exact ⟨(([] : List (S42))), (0), r_, H', ⟨Nat.le_refl _⟩, ⟨by first | exact Kd.R_nil _ _ _ _ _ | exact Kd.N_nil _ _ _ _ _ | exact Kd.V_nil _ _ _ _ _ | exact Kd.Q_nil _ _ _ _ _ | exact Kd.S_nil _ _ _ _ _⟩, ⟨kb_ BK195⟩, ⟨bl_ HB⟩⟩
 case round =>
  clear H'
  try clear c2
  try clear p2
  obtain ⟨x3_1, x4_1, rfl, HA, HK1, HO_3, BK195, HB⟩ := hrel
  cases gk with
  | zero => exact absurd HA.out (by simp [outlawlaw25_inputs.l0])
  | succ k1 =>
   have H := HA.out
   clear HA
   simp only [outlawlaw25_inputs.l0] at H
   by_cases c3 : x4_1 < (l0_2.length : Int)
   ·rw [if_pos c3] at H
    have c3b0 : decide (x4_1 < (l0_2.length : Int)) = true := decide_eq_true c3
    clear c3
    by_cases c4 : 0 ≤ x4_1
    ·rw [if_pos c4] at H
     have c4b0 : decide (0 ≤ x4_1) = true := decide_eq_true c4
     clear c4
     by_cases c5 : x3_1.length < 2932031007402
     ·rw [if_pos c5] at H
      have LMc5 := Aside0.mk c5
      clear c5
      obtain ⟨y197, hy197⟩ : ∃ y_ : List (S42), y_ = (x3_1 ++ [(⟨(rd_T45 l0_2 x4_1).f1.f0, (rd_T45 l0_2 x4_1).f1.f1, (rd_T45 l0_2 x4_1).f1.f2, (rd_T45 l0_2 x4_1).f1.f3, (rd_T45 l0_2 x4_1).f1.f4⟩ : S42)]) := ⟨_, rfl⟩
      first | rw [← hy197, Option.bind_some] at H | rw [← hy197] at H
      have Ny197 := Aside0.mk hy197
      clear hy197
      have H' := Aside0.mk H
      clear H
      obtain ⟨hcz6_0, hcz6_1, hcz6_2, hfz6_0, hfz6_1, hfz6_2⟩ := bb3_ BK195.out
      have p196 : 0 ≤ (x4_1 : Int) := of_decide_eq_true (by first | (with_reducible assumption) | assumption)
      have q196 : x4_1 < (l0_2.length : Int) := of_decide_eq_true (by first | (with_reducible assumption) | assumption)
      obtain ⟨ad196, A196_6, c196_6, e196, hx196_0, hx196_1, hx196_2, hx196_3, hx196_4, hx196_5, hx196_6, hl196_6, hi196_6⟩ := at_T45 HR0_2.out x4_1 p196 q196
      cases e196
      replace hx196_0 := up_ HB.out hx196_0
      replace hx196_1 := up_ HB.out hx196_1
      replace hx196_2 := up_ HB.out hx196_2
      replace hx196_3 := up_ HB.out hx196_3
      replace hx196_4 := up_ HB.out hx196_4
      replace hx196_5 := up_ HB.out hx196_5
      replace hx196_6 := up_ HB.out hx196_6
      have HR196_6 := Aside0.mk hi196_6
      have HC196_6 := Aside0.mk hl196_6
      clear hi196_6 hl196_6
      replace p196 := eq_true p196
      replace q196 := eq_true q196
      go_wp2_with (first | ((with_reducible refine gate_builtin (b := .append) (xs := #[.tmp 12, .tmp 19]) rfl ?_); at_builtin; refine Kd.R_append k42 (w0 := w) w.heap.size rfl (.tmp 12) (.tmp 19) 46 42 (.agg #[(.int .i64 0), (.int .i64 0), (.int .i64 0), (.bool false), (.string ⟨#[]⟩)]) 48 rfl Try.underlying46 info42 rfl (by decide) (by omega) u3 x3_1 (⟨(rd_T45 l0_2 x4_1).f1.f0, (rd_T45 l0_2 x4_1).f1.f1, (rd_T45 l0_2 x4_1).f1.f2, (rd_T45 l0_2 x4_1).f1.f3, (rd_T45 l0_2 x4_1).f1.f4⟩ : S42) [.int .i64 ((rd_T45 l0_2 x4_1).f1.f0), .int .i64 ((rd_T45 l0_2 x4_1).f1.f1), .int .i64 ((rd_T45 l0_2 x4_1).f1.f2), .bool ((rd_T45 l0_2 x4_1).f1.f3), .string ((rd_T45 l0_2 x4_1).f1.f4)] (fun _ => True) (fun _ => False) rfl rfl ?aP (fun _ hk => hk.elim) ?aF ?aO ?aB ?aS ?aL ?_; (case aP => exact k42_mkM _ _ _ (⟨(rd_T45 l0_2 x4_1).f1.f0, (rd_T45 l0_2 x4_1).f1.f1, (rd_T45 l0_2 x4_1).f1.f2, (rd_T45 l0_2 x4_1).f1.f3, (rd_T45 l0_2 x4_1).f1.f4⟩ : S42)); (case aB => exact (bl_ HB)); (case aF => exact (fun _ _ => trivial)); (case aO => exact (by (with_reducible repeat (first | apply Kd.R_alloc | apply Kd.R_drewN | apply Kd.R_drew)); exact HO_3.out)); (case aS => exact (below_size (bl_ HB))); (case aL => have := LMc5.out; omega); intro v198 w7 ho hb hg hat; rw [← Ny197.out] at ho; have n0_ := Aside0.mk (blk_grown (kb_ BK195) hg (Kd.R_ne HO_3.out BK195.out (by decide))); have n1_ := Aside0.mk (hb); have n2_ := Aside0.mk (ho); clear BK195; clear HB; clear HO_3; have BK195 := n0_; have HB := n1_; have HO199 := n2_; clear n0_ n1_ n2_; clear ho hb hg hat))
      go_roundg k1
      case measure => have := HK1.out; omega
      case rel => exact ⟨(y197), (wrap64 (x4_1 + 1)), r_, H', ⟨by have := HK1.out; omega⟩, ⟨by (with_reducible repeat (first | apply Kd.R_alloc | apply Kd.R_drewN | apply Kd.R_drew)); exact HO199.out⟩, ⟨kb_ BK195⟩, ⟨bl_ HB⟩⟩
     ·rw [if_neg c5] at H
      exact absurd H (by simp)
    ·rw [if_neg c4] at H
     exact absurd H (by simp)
   ·rw [if_neg c3] at H
    have c3b0 : decide (x4_1 < (l0_2.length : Int)) = false := decide_eq_false c3
    clear c3
    obtain rfl := Option.some.inj H
    obtain ⟨hcz8_0, hcz8_1, hcz8_2, hfz8_0, hfz8_1, hfz8_2⟩ := bb3_ BK195.out
    go_wp2
    go_ret
    exact ⟨_, rfl, by (with_reducible repeat (first | apply Kd.R_alloc | apply Kd.R_drewN | apply Kd.R_drew)); exact HO_3.out, bl_ HB⟩
end Go.Proofs.Ytfgibjkgiolonaa.PA
