import Derived.Test.YtfgibjkgiolonaaWm
import Derived.Test.YtfgibjkgiolonaaPAx0
import Derived.Test.YtfgibjkgiolonaaPAt
namespace Go.Proofs.Ytfgibjkgiolonaa.PA
open Go.RowKit Go.Proofs.YtfgibjkgiolonaaW.PrintWords Go.Proofs.YtfgibjkgiolonaaW.PrintLast Go.Proofs.YtfgibjkgiolonaaW.PrintMore Go.Proofs.YtfgibjkgiolonaaG Go.Proofs.YtfgibjkgiolonaaX Go.Proofs.YtfgibjkgiolonaaI Go.Proofs.Ytfgibjkgiolonaa.PR
attribute [local go_sem] max2_int min2_int max_two min_two max_three min_three max_four min_four
set_option linter.unusedVariables false
set_option linter.unusedSimpArgs false
def outlawlaw25_own.l0 : Nat → Int → ByteArray → Int → List (S45) → Option (ByteArray × Int × (List (S45)))
 | 0, _, _, _, _ => none
 | k + 1, x3, x247000, x247001, x247002 => if x3 < (x247002.length : Int) then (if 0 ≤ x3 then ((outlawkit_Own_int.f ((rd_T45 x247002 x3).f2)).bind fun t252 => (outlawlaw25_own.l0 k (wrap64 (x3 + 1)) x247000 x247001 (x247002.set (x3 : Int).toNat (⟨(rd_T45 x247002 x3).f0, (⟨(rd_T45 x247002 x3).f1.f0, (rd_T45 x247002 x3).f1.f1, (rd_T45 x247002 x3).f1.f2, (rd_T45 x247002 x3).f1.f3, (rd_T45 x247002 x3).f1.f4⟩ : S42), t252⟩ : S45)))) else (none)) else (some (x247000, x247001, x247002))
def outlawlaw25_own.f (k : Nat) (a0_0 : ByteArray) (a0_1 : Int) (l0_2 : List (S45)) : Option (ByteArray × Int × (List (S45))) := (api_Step.f l0_2).bind fun t248 => (outlawlaw25_own.l0 k 0 a0_0 a0_1 t248)
theorem outlawlaw25_own.mono_l : ∀ k, (∀ y0 y1 y2 y3, LeO (outlawlaw25_own.l0 k y0 y1 y2 y3) (outlawlaw25_own.l0 (k + 1) y0 y1 y2 y3))
 | 0 => fun _ _ _ _ r h => by simp [outlawlaw25_own.l0] at h
 | k + 1 => by
  have ih0 := outlawlaw25_own.mono_l k
  ·intro y0 y1 y2 y3
   unfold outlawlaw25_own.l0
   repeat' first
   | (with_reducible exact ih0 _ _ _ _)
   | (with_reducible exact LeO.refl _)
   | (with_reducible exact LeO.none _)
   | (with_reducible refine LeO.ite ?_ ?_)
   | (with_reducible refine LeO.bind ?_ (fun _ => ?_))
   | refine LeO.ite ?_ ?_
   | refine LeO.bind ?_ (fun _ => ?_)
theorem outlawlaw25_own.mono : ∀ a0 a1 a2 k, LeO (outlawlaw25_own.f k a0 a1 a2) (outlawlaw25_own.f (k + 1) a0 a1 a2) := by
 intro a0 a1 a2 k
 have ih0 := outlawlaw25_own.mono_l k
 unfold outlawlaw25_own.f
 repeat' first
   | (with_reducible exact ih0 _ _ _ _)
   | (with_reducible exact LeO.refl _)
   | (with_reducible exact LeO.none _)
   | (with_reducible refine LeO.ite ?_ ?_)
   | (with_reducible refine LeO.bind ?_ (fun _ => ?_))
   | refine LeO.ite ?_ ?_
   | refine LeO.bind ?_ (fun _ => ?_)
def outlawlaw25_own.T5 : Bool × List (List Nat × List Nat) := (true, [([], []), ([0], [0]), ([], []), ([], []), ([3], [3]), ([], []), ([4, 5], [4, 5]), ([6], [6]), ([7], [7]), ([8], [8]), ([1, 2, 0, 1, 2, 3, 4, 5, 6, 7, 8, 9], [1, 2]), ([10, 0, 1, 2, 3, 4, 5, 6, 7, 8, 9], [10]), ([11, 9, 9, 0, 1, 2, 3, 4, 5, 6, 7, 8, 9], [9, 11])])
def outlawlaw25_own.B5 : List Nat := [0, 1, 0, 0, 8, 0, 56, 120, 248, 504, 1023, 2047, 4095]
theorem outlawlaw25_own.tab5 : rtab .any (opsOf Try.f15 5) = outlawlaw25_own.T5 := by kernel_rfl
theorem outlawlaw25_own.bits5 : waitsOk outlawlaw25_own.T5.2 outlawlaw25_own.B5 = true := by kernel_rfl
set_option maxHeartbeats 8000000 in
set_option maxRecDepth 100000 in
theorem outlawlaw25_own.calls (k : Nat) (a0_0 : ByteArray) (a0_1 : Int) (P0_2_ : Nat → Prop) (A0_2 : Option Addr) (c0_2 : Nat) (l0_2 : List (S45)) (r1 : ByteArray) (r2 : Int) (r3 : List (S45)) (w : World) (hs0_2 : Kd.V k45 45 w w.heap.size (fun k_ => P0_2_ k_) (.slice A0_2 l0_2.length c0_2) l0_2) (h : outlawlaw25_own.f k a0_0 a0_1 l0_2 = some (r1, r2, r3)) :
  Calls Try.prog 15 #[.agg #[.string a0_0, .int .i64 a0_1, .slice A0_2 l0_2.length c0_2]] w fun e w' => ∃ v2_ : Value, e = .returned (.agg #[.string r1, .int .i64 r2, v2_]) ∧ Kd.N k45 45 w' w.heap.size (fun k_ => (P0_2_ k_ ∨ w.heap.size ≤ k_)) v2_ r3 ∧ Below w.heap.size w w' := by
 have hu24 := Try.underlying24
 have HO0_2 := Aside0.mk (show Kd.V k45 45 w w.heap.size (fun k_ => (P0_2_ k_ ∨ w.heap.size ≤ k_)) (.slice A0_2 l0_2.length c0_2) l0_2 from Kd.V_mono hs0_2 (fun k_ hk => .inl hk))
 have HB := Aside0.mk (Below.refl w.heap.size w)
 have H : ((api_Step.f l0_2).bind fun t248 => (outlawlaw25_own.l0 k 0 a0_0 a0_1 t248)) = some (r1, r2, r3) := h
 clear h
 replace H := Option.bind_eq_some_iff.mp H
 obtain ⟨t248, A20, H⟩ := H
 have A2 := Aside0.mk A20
 clear A20
 have H' := Aside0.mk H
 clear H
 go_enter Try.func15, Try.ntmps15
 go_wp2_with (first | ((with_reducible refine gate_dst (N := 1) rfl ?_); refine be_ 1 #[.string a0_0, .int .i64 a0_1, .slice A0_2 l0_2.length c0_2] 24 ?_; intro gb246 hg w3 hbox hb; have n0_ := Aside0.mk (Kd.V_below (Kd.V_elderB (by (with_reducible repeat (first | apply Kd.V_alloc | apply Kd.V_drewN | apply Kd.V_drew)); exact HO0_2.out) gb246 (Nat.le_of_eq hg.symm)) hb); have n1_ := Aside0.mk (below_step (bl_ HB) hb); have n2_ := Aside0.mk (hbox); have n3_ := Aside0.mk ((by rw [hg]; exact (below_size (bl_ HB)) : w.heap.size ≤ gb246)); have n4_ := Aside0.mk ((by rw [hg]; exact (below_size (bl_ HB)) : w.heap.size ≤ gb246)); clear HO0_2; clear HB; have HO0_2 := n0_; have HB := n1_; have BK246 := n2_; have GW246 := n3_; have GE246 := n4_; clear n0_ n1_ n2_ n3_ n4_; clear hb hbox hg) | ((with_reducible refine gate_dst (N := 2) rfl ?_); refine be_ 2 #[.string (⟨#[]⟩ : ByteArray), .int .i64 0, .slice none 0 0] 24 ?_; intro gb247 hg w4 hbox hb; have n0_ := Aside0.mk (Kd.V_below (Kd.V_elderB (by (with_reducible repeat (first | apply Kd.V_alloc | apply Kd.V_drewN | apply Kd.V_drew)); exact HO0_2.out) gb247 (Nat.le_of_eq hg.symm)) hb); have n1_ := Aside0.mk (blk_below (kb_ BK246) hb); have n2_ := Aside0.mk (below_step (bl_ HB) hb); have n3_ := Aside0.mk (hbox); have n4_ := Aside0.mk ((by rw [hg]; exact (below_size (bl_ HB)) : w.heap.size ≤ gb247)); have n5_ := Aside0.mk ((by rw [hg]; exact (below_size (bl_ HB)) : w.heap.size ≤ gb247)); have n6_ := Aside0.mk ((by rw [hg]; exact Nat.ne_of_lt (blk_lt (kb_ BK246)) : gb246 ≠ gb247)); have n7_ := Aside0.mk ((by rw [hg]; exact Nat.ne_of_gt (blk_lt (kb_ BK246)) : gb247 ≠ gb246)); clear HO0_2; clear BK246; clear HB; have HO0_2 := n0_; have BK246 := n1_; have HB := n2_; have BK247 := n3_; have GW247 := n4_; have GE247 := n5_; have NB246_247 := n6_; have NB247_246 := n7_; clear n0_ n1_ n2_ n3_ n4_ n5_ n6_ n7_; clear hb hbox hg; have hnb5 := NB246_247.out; have hnc5 := NB247_246.out; obtain ⟨hcz6_0, hcz6_1, hcz6_2, hfz6_0, hfz6_1, hfz6_2⟩ := bb3_ BK246.out) | ((with_reducible refine gate_callee (f := 34) rfl ?_); refine gl_ (some 6) Try.func34 #[.slice A0_2 l0_2.length c0_2] ?_; (with_reducible refine (api_Step.calls (fun k_ => (((P0_2_ k_ ∨ w.heap.size ≤ k_) ∧ k_ ≠ gb246) ∧ k_ ≠ gb247)) _ _ l0_2 t248 _ ?side1 A2.out).mono ?_); (case side1 => exact HO0_2.out); rintro e w7 ⟨v249, rfl, ho0, hb⟩; refine ⟨_, rfl, ?_⟩; have n0_ := Aside0.mk (Kd.V_elder' (by (with_reducible repeat (first | apply Kd.V_alloc | apply Kd.V_drewN | apply Kd.V_drew)); exact HO0_2.out) (Kd.N_base ho0) hb); have n1_ := Aside0.mk (Kd.N_lower (Kd.N_mono (ok' := fun k_ => (P0_2_ k_ ∨ w.heap.size ≤ k_) ∧ k_ ≠ gb246 ∧ k_ ≠ gb247) ho0 (fun k_ hk_ => ⟨Or.elim hk_ (fun hs_ => hs_.1.1) (fun hn_ => (.inr (Nat.le_trans (below_size (bl_ HB)) hn_))), Or.elim hk_ (fun hs_ => hs_.1.2) (fun hn_ => (Kd.freshB (kb_ BK246) k_ hn_)), Or.elim hk_ (fun hs_ => hs_.2) (fun hn_ => (Kd.freshB (kb_ BK247) k_ hn_))⟩)) (below_size (bl_ HB))); have n2_ := Aside0.mk (blk_below (kb_ BK246) hb); have n3_ := Aside0.mk (blk_below (kb_ BK247) hb); have n4_ := Aside0.mk (below_step (bl_ HB) hb); clear HO0_2; clear BK246; clear BK247; clear HB; have HO0_2 := n0_; have HO250 := n1_; have BK246 := n2_; have BK247 := n3_; have HB := n4_; clear n0_ n1_ n2_ n3_ n4_; (try clear hb); (try clear hk); (try clear ho0); obtain ⟨Ao8, co8, eo8⟩ := Kd.N_slice HO250.out; subst eo8; obtain ⟨hcz9_0, hcz9_1, hcz9_2, hfz9_0, hfz9_1, hfz9_2⟩ := bb3_ BK246.out))
 go_loopg [3] k (fun kq v3 w' => ∃ (x3_1 : Int) (x247002_1 : List (S45)) (u247002 : Value), v3 = .int .i64 x3_1 ∧ Aside0 (outlawlaw25_own.l0 kq x3_1 a0_0 a0_1 x247002_1 = some (r1, r2, r3)) ∧ Aside0 (kq ≤ k) ∧ Aside0 (Kd.N k45 45 w' w.heap.size (fun k_ => (P0_2_ k_ ∨ w.heap.size ≤ k_) ∧ k_ ≠ gb246 ∧ k_ ≠ gb247) u247002 x247002_1) ∧ Aside0 (w'.heap[gb246]? = some (.cells #[.string a0_0, .int .i64 a0_1, u247002] 24 (0, 0))) ∧ Aside0 (w'.heap[gb247]? = some (.cells #[.string (⟨#[]⟩ : ByteArray), .int .i64 0, (.slice none 0 0)] 24 (0, 0))) ∧ Aside0 (Below w.heap.size w w'))
 case atStart => exact ⟨(0), (t248), (.slice Ao8 t248.length co8), r_, H', ⟨Nat.le_refl _⟩, ⟨by (with_reducible repeat (first | apply Kd.N_alloc | apply Kd.N_drewN | apply Kd.N_drew)); exact Kd.N_mono (Kd.N_far (p := ⟨gb246, 2, none⟩) (Kd.N_mono HO250.out (fun k_ hk => (⟨hk, hk.2.1⟩ : _ ∧ k_ ≠ gb246))) (fun _ hk => hk.2) (.slice Ao8 t248.length co8)) (fun _ hk => ⟨hk.1.1, ⟨hk.1.2.1, hk.1.2.2⟩⟩)⟩, ⟨by (with_reducible repeat (first | refine blk_drewN ?_ _ | refine blk_drew ?_ | refine blk_alloc ?_ _)); refine blk_put (cs := #[.string a0_0, .int .i64 a0_1, .slice A0_2 l0_2.length c0_2]) ?_ 2 _ rfl; (with_reducible repeat (first | refine blk_drewN ?_ _ | refine blk_drew ?_ | refine blk_alloc ?_ _)); exact BK246.out⟩, ⟨kb_ BK247⟩, ⟨bl_ HB⟩⟩
 case round =>
  clear H'
  try clear c1
  try clear p2
  try clear c3
  try clear c5
  try clear hcz6_0 hcz6_1 hcz6_2
  try clear hcz9_0 hcz9_1 hcz9_2
  try clear hfz6_0 hfz6_1 hfz6_2
  try clear hfz9_0 hfz9_1 hfz9_2
  obtain ⟨x3_1, x247002_1, u247002, rfl, HA, HK1, HO_247002, BK246, BK247, HB⟩ := hrel
  cases gk with
  | zero => exact absurd HA.out (by simp [outlawlaw25_own.l0])
  | succ k1 =>
   have H := HA.out
   clear HA
   simp only [outlawlaw25_own.l0] at H
   by_cases c10 : x3_1 < (x247002_1.length : Int)
   ·rw [if_pos c10] at H
    have c10b0 : decide (x3_1 < (x247002_1.length : Int)) = true := decide_eq_true c10
    clear c10
    by_cases c11 : 0 ≤ x3_1
    ·rw [if_pos c11] at H
     have c11b0 : decide (0 ≤ x3_1) = true := decide_eq_true c11
     clear c11
     replace H := Option.bind_eq_some_iff.mp H
     obtain ⟨t252, A120, H⟩ := H
     have A12 := Aside0.mk A120
     clear A120
     obtain ⟨y255, hy255⟩ : ∃ y_ : List (S45), y_ = (x247002_1.set (x3_1 : Int).toNat (⟨(rd_T45 x247002_1 x3_1).f0, (⟨(rd_T45 x247002_1 x3_1).f1.f0, (rd_T45 x247002_1 x3_1).f1.f1, (rd_T45 x247002_1 x3_1).f1.f2, (rd_T45 x247002_1 x3_1).f1.f3, (rd_T45 x247002_1 x3_1).f1.f4⟩ : S42), t252⟩ : S45)) := ⟨_, rfl⟩
     first | rw [← hy255, Option.bind_some] at H | rw [← hy255] at H
     have Ny255 := Aside0.mk hy255
     clear hy255
     have H' := Aside0.mk H
     clear H
     have hnb14 := NB246_247.out
     have hnc14 := NB247_246.out
     obtain ⟨hcz15_0, hcz15_1, hcz15_2, hfz15_0, hfz15_1, hfz15_2⟩ := bb3_ BK246.out
     obtain ⟨Ao16, co16, eo16⟩ := Kd.N_slice HO_247002.out
     subst eo16
     try go_wp2
     have n0_ := Aside0.mk (Kd.N_drew HO_247002.out)
     have n1_ := Aside0.mk (blk_drew BK246.out)
     have n2_ := Aside0.mk (blk_drew BK247.out)
     have n3_ := Aside0.mk (below_drew1 HB.out)
     clear HO_247002
     clear BK246
     clear BK247
     clear HB
     have HO_247002 := n0_
     have BK246 := n1_
     have BK247 := n2_
     have HB := n3_
     clear n0_ n1_ n2_ n3_
     have p251 : 0 ≤ (x3_1 : Int) := of_decide_eq_true (by first | (with_reducible assumption) | assumption)
     have q251 : x3_1 < (x247002_1.length : Int) := of_decide_eq_true (by first | (with_reducible assumption) | assumption)
     obtain ⟨ad251, A251_6, c251_6, e251, hx251_0, hx251_1, hx251_2, hx251_3, hx251_4, hx251_5, hx251_6, hl251_6, hi251_6⟩ := at_T45 (Kd.N_reads' HO_247002.out).2.2 x3_1 p251 q251
     cases e251
     obtain ⟨ce251, hce251, hMe251, hcc251⟩ := Kd.N_get HO_247002.out z45 x3_1 p251 (by first | exact q251 | exact of_decide_eq_true (by first | (with_reducible assumption) | assumption) | (have e_ := (Kd.N_reads' HO_247002.out).1; omega))
     obtain ⟨ua251_6, uc251_6, rfl, ul251_6, ge251_6⟩ := k45_openF hMe251
     have hv251_6 := hcc251 6 _ rfl
     rw [add_field _ _ 6 (by omega)] at hv251_6
     replace hv251_6 := Option.some.inj (hv251_6.symm.trans hx251_6)
     injection hv251_6 with hva_ hvn_ hvc_
     rw [hva_] at ge251_6
     rw [hvc_] at ul251_6
     have HL251_6 := Aside0.mk (show Kd.V (Kd.int .i64) 3 _ w.heap.size _ _ ((rd_T45 x247002_1 x3_1).f2) from Kd.V_mk ul251_6 ge251_6)
     clear hva_ hvn_ hvc_ ge251_6 ul251_6
     clear hcc251 hce251
     have HR251_6 := Aside0.mk hi251_6
     have HC251_6 := Aside0.mk hl251_6
     clear hi251_6 hl251_6
     replace p251 := eq_true p251
     replace q251 := eq_true q251
     refine start_ (n := 13) (S := fun w' => w'.cell? ⟨gb246, 0, none⟩ = some (.string a0_0) ∧ w'.cell? ⟨gb246, 1, none⟩ = some (.int .i64 a0_1) ∧ w'.cell? ⟨gb246, 2, none⟩ = some (.slice (some ad251) x247002_1.length co16) ∧ w'.cell? (ad251.add ((x3_1).toNat * 7)) = some (.bool ((rd_T45 x247002_1 x3_1).f0)) ∧ w'.cell? ⟨(ad251.add ((x3_1).toNat * 7)).block, (ad251.add ((x3_1).toNat * 7)).off + 1, none⟩ = some (.int .i64 ((rd_T45 x247002_1 x3_1).f1.f0)) ∧ w'.cell? ⟨(ad251.add ((x3_1).toNat * 7)).block, (ad251.add ((x3_1).toNat * 7)).off + 2, none⟩ = some (.int .i64 ((rd_T45 x247002_1 x3_1).f1.f1)) ∧ w'.cell? ⟨(ad251.add ((x3_1).toNat * 7)).block, (ad251.add ((x3_1).toNat * 7)).off + 3, none⟩ = some (.int .i64 ((rd_T45 x247002_1 x3_1).f1.f2)) ∧ w'.cell? ⟨(ad251.add ((x3_1).toNat * 7)).block, (ad251.add ((x3_1).toNat * 7)).off + 4, none⟩ = some (.bool ((rd_T45 x247002_1 x3_1).f1.f3)) ∧ w'.cell? ⟨(ad251.add ((x3_1).toNat * 7)).block, (ad251.add ((x3_1).toNat * 7)).off + 5, none⟩ = some (.string ((rd_T45 x247002_1 x3_1).f1.f4)) ∧ w'.cell? ⟨(ad251.add ((x3_1).toNat * 7)).block, (ad251.add ((x3_1).toNat * 7)).off + 6, none⟩ = some (.slice A251_6 ((rd_T45 x247002_1 x3_1).f2).length c251_6)) (ds := [12]) #[F_,F_,F_,F_,F_,F_,F_,F_,F_,F_,F_,F_,F_] (by kernel_rfl) rfl rfl ⟨(blk_cell BK246.out 0).trans rfl, (blk_cell BK246.out 1).trans rfl, (blk_cell BK246.out 2).trans rfl, hx251_0, hx251_1, hx251_2, hx251_3, hx251_4, hx251_5, hx251_6⟩ (fun hHeld => ?_); refine with_tabW outlawlaw25_own.tab5 outlawlaw25_own.bits5 (fun HT_ HW_ => ?_)
     generalize wr.drew = w17 at HO_247002 BK246 BK247 HB HL251_6 HR251_6 hx251_0 hx251_1 hx251_2 hx251_3 hx251_4 hx251_5 hx251_6 hHeld ⊢
     refine pq_ 0 15 (mb_ 13 1) HT_.out ?_
     refine pq_ 2 17 (mb_ 13 5) HT_.out ?_
     refine pq_ 3 18 (mb_ 13 13) HT_.out ?_
     refine pq_ 5 20 (mb_ 13 45) HT_.out ?_
     refine tq_ 1 16 (mb_ 13 47) HT_.out HW_.out hHeld ?_ (hr := by rintro w' ⟨s0, s1, s2, s3, s4, s5, s6, s7, s8, s9⟩; go_simp; with_reducible rfl)
     refine tq_ 4 19 (mb_ 13 63) HT_.out HW_.out hHeld ?_ (hr := by rintro w' ⟨s0, s1, s2, s3, s4, s5, s6, s7, s8, s9⟩; go_simp; with_reducible rfl)
     refine pq_ 6 21 (mb_ 13 127) HT_.out ?_
     refine pq_ 7 22 (mb_ 13 255) HT_.out ?_
     refine tq_ 8 23 (mb_ 13 511) HT_.out HW_.out hHeld ?_ (hr := by rintro w' ⟨s0, s1, s2, s3, s4, s5, s6, s7, s8, s9⟩; go_simp; with_reducible rfl)
     refine one_ (i := 9) (N := some 24) (mb_ 13 1023) rfl rfl (one_of HT_.out (by kernel_rfl)) (by decide) (fun K hK => ?_)
     refine goes_ Try.func35 (by kernel_rfl) rfl #[.slice A251_6 ((rd_T45 x247002_1 x3_1).f2).length c251_6] (by rfl) rfl rfl (by (try simp only [List.map_toArray, List.map_cons, List.map_nil]); first | done | rfl | (simp only [List.length_drop, List.length_take]; rfl)) ?_
     with_reducible refine (outlawkit_Own_int.calls _ _ ((rd_T45 x247002_1 x3_1).f2) t252 _ ?side1 ?side2 A12.out).mono ?_
     (case side1 => repeat (first | exact (by repeat (first | (with_reducible exact HR251_6.out) | (with_reducible refine Kd.C_alloc ?_ _) | (with_reducible refine Kd.C_drewN ?_ _) | (with_reducible refine Kd.C_drew ?_) | exact HR251_6.out)) | (with_reducible refine Kd.C_alloc ?_ _) | (with_reducible refine Kd.C_drewN ?_ _) | (with_reducible refine Kd.C_drew ?_)))
     (case side2 => exact HC251_6.out)
     rintro e w18 ⟨v253, rfl, ho0, hb⟩
     have HS3_ := (hb.cell (World.block_lt_of_cell? _ _ (hHeld.2.2.2.1))).trans (hHeld.2.2.2.1)
     have HS4_ := (hb.cell (World.block_lt_of_cell? _ _ (hHeld.2.2.2.2.1))).trans (hHeld.2.2.2.2.1)
     have HS5_ := (hb.cell (World.block_lt_of_cell? _ _ (hHeld.2.2.2.2.2.1))).trans (hHeld.2.2.2.2.2.1)
     have HS6_ := (hb.cell (World.block_lt_of_cell? _ _ (hHeld.2.2.2.2.2.2.1))).trans (hHeld.2.2.2.2.2.2.1)
     have HS7_ := (hb.cell (World.block_lt_of_cell? _ _ (hHeld.2.2.2.2.2.2.2.1))).trans (hHeld.2.2.2.2.2.2.2.1)
     have HS8_ := (hb.cell (World.block_lt_of_cell? _ _ (hHeld.2.2.2.2.2.2.2.2.1))).trans (hHeld.2.2.2.2.2.2.2.2.1)
     have HS9_ := (hb.cell (World.block_lt_of_cell? _ _ (hHeld.2.2.2.2.2.2.2.2.2))).trans (hHeld.2.2.2.2.2.2.2.2.2)
     refine ⟨_, rfl, ?_⟩
     have n0_ := Aside0.mk (Kd.N_elder' (kn_ HO_247002) (Kd.R_base ho0) hb)
     have n1_ := Aside0.mk (Kd.V_elder' (by (with_reducible repeat (first | apply Kd.V_alloc | apply Kd.V_drewN | apply Kd.V_drew)); exact HL251_6.out) (Kd.R_base ho0) hb)
     have n2_ := Aside0.mk (Kd.R_lower (Kd.R_newM (M := fun k_ => (w.heap.size ≤ k_)) ho0 (below_size (bl_ HB)) (fun k_ h_ => h_)) (below_size (bl_ HB)))
     have n3_ := Aside0.mk (blk_below (kb_ BK246) hb)
     have n4_ := Aside0.mk (blk_below (kb_ BK247) hb)
     have n5_ := Aside0.mk (Kd.C_below (by repeat (first | (with_reducible exact HR251_6.out) | (with_reducible refine Kd.C_alloc ?_ _) | (with_reducible refine Kd.C_drewN ?_ _) | (with_reducible refine Kd.C_drew ?_) | exact HR251_6.out)) hb)
     have n6_ := Aside0.mk (below_step (bl_ HB) hb)
     clear HO_247002
     clear HL251_6
     clear BK246
     clear BK247
     clear HR251_6
     clear HB
     have HO_247002 := n0_
     have HL251_6 := n1_
     have HO254 := n2_
     have BK246 := n3_
     have BK247 := n4_
     have HR251_6 := n5_
     have HB := n6_
     clear n0_ n1_ n2_ n3_ n4_ n5_ n6_
     obtain ⟨Aq_, cq_, eq_⟩ := Kd.R_slice HO254.out
     subst eq_
     (try clear hb)
     (try clear hb2)
     (try clear hk)
     (try clear hi)
     (try clear ho0)
     have p13 : 0 ≤ (x3_1 : Int) := of_decide_eq_true (by first | (with_reducible assumption) | assumption)
     have q13 : (x3_1 : Int) < ((x247002_1.length : Int) : Int) := of_decide_eq_true (by first | (with_reducible assumption) | assumption)
     obtain ⟨go13, co13, eo13, gb13, gl13, cl13, HG13⟩ := Kd.N_form HO_247002.out (by omega)
     (first | cases eo13 | (injection eo13 with ea_ en_ ec_; (first | subst ea_ | (injection ea_ with ea_; subst ea_)); subst ec_; clear en_))
     have GB13 := Aside0.mk gb13
     have GG13 := Aside0.mk HG13
     clear gb13 gl13 HG13
     (first | simp only [add_plain] at hx251_0 | skip)
     (first | simp only [add_plain] at hx251_1 | skip)
     (first | simp only [add_plain] at hx251_2 | skip)
     (first | simp only [add_plain] at hx251_3 | skip)
     (first | simp only [add_plain] at hx251_4 | skip)
     (first | simp only [add_plain] at hx251_5 | skip)
     (first | simp only [add_plain] at hx251_6 | skip)
     obtain ⟨ce13, hcl13, hM13, hcc13, hfr13⟩ := Kd.N_elem HO_247002.out z45 (x3_1 : Int) p13 q13
     obtain ⟨ua13_6, uc13_6, rfl, ul13_6, ge13_6⟩ := k45_openF hM13
     have hx13_0 : World.cell? _ ⟨go13, (x3_1 : Int).toNat * 7, none⟩ = some (.bool ((rd_T45 x247002_1 x3_1).f0)) := hcc13 0 _ rfl
     have hx13_1 : World.cell? _ ⟨go13, (x3_1 : Int).toNat * 7 + 1, none⟩ = some (.int .i64 ((rd_T45 x247002_1 x3_1).f1.f0)) := hcc13 1 _ rfl
     have hx13_2 : World.cell? _ ⟨go13, (x3_1 : Int).toNat * 7 + 2, none⟩ = some (.int .i64 ((rd_T45 x247002_1 x3_1).f1.f1)) := hcc13 2 _ rfl
     have hx13_3 : World.cell? _ ⟨go13, (x3_1 : Int).toNat * 7 + 3, none⟩ = some (.int .i64 ((rd_T45 x247002_1 x3_1).f1.f2)) := hcc13 3 _ rfl
     have hx13_4 : World.cell? _ ⟨go13, (x3_1 : Int).toNat * 7 + 4, none⟩ = some (.bool ((rd_T45 x247002_1 x3_1).f1.f3)) := hcc13 4 _ rfl
     have hx13_5 : World.cell? _ ⟨go13, (x3_1 : Int).toNat * 7 + 5, none⟩ = some (.string ((rd_T45 x247002_1 x3_1).f1.f4)) := hcc13 5 _ rfl
     have hx13_6 : World.cell? _ ⟨go13, (x3_1 : Int).toNat * 7 + 6, none⟩ = some (.slice ua13_6 ((rd_T45 x247002_1 x3_1).f2).length uc13_6) := hcc13 6 _ rfl
     have hf13_0 : World.frozen? _ ⟨go13, (x3_1 : Int).toNat * 7, none⟩ = false := hfr13 0
     have hf13_1 : World.frozen? _ ⟨go13, (x3_1 : Int).toNat * 7 + 1, none⟩ = false := hfr13 1
     have hf13_2 : World.frozen? _ ⟨go13, (x3_1 : Int).toNat * 7 + 2, none⟩ = false := hfr13 2
     have hf13_3 : World.frozen? _ ⟨go13, (x3_1 : Int).toNat * 7 + 3, none⟩ = false := hfr13 3
     have hf13_4 : World.frozen? _ ⟨go13, (x3_1 : Int).toNat * 7 + 4, none⟩ = false := hfr13 4
     have hf13_5 : World.frozen? _ ⟨go13, (x3_1 : Int).toNat * 7 + 5, none⟩ = false := hfr13 5
     have hf13_6 : World.frozen? _ ⟨go13, (x3_1 : Int).toNat * 7 + 6, none⟩ = false := hfr13 6
     clear hcl13 hcc13 hfr13 hM13
     replace p13 := eq_true p13
     replace q13 := eq_true q13
     have HX19 := Aside0.mk (show Kd.N k45 45 _ w.heap.size (fun k_ => (P0_2_ k_ ∨ w.heap.size ≤ k_) ∧ some k_ ≠ (.slice Aq_ t252.length cq_ : Value).ownBlock ∧ k_ ≠ gb246 ∧ k_ ≠ gb247) (.slice (some ⟨go13, 0, none⟩) x247002_1.length co16) x247002_1 from (Kd.N_mono (HO_247002.out) (fun k_ hk => ⟨hk.1.1, ⟨hk.2, ⟨hk.1.2.1, hk.1.2.2⟩⟩⟩)))
     replace HX19 := Aside0.mk (show Kd.N k45 45 _ w.heap.size (fun k_ => (P0_2_ k_ ∨ w.heap.size ≤ k_) ∧ k_ ≠ gb246 ∧ k_ ≠ gb247) (.slice (some ⟨go13, 0, none⟩) x247002_1.length co16) x247002_1 from Kd.N_mono HX19.out (fun k_ hk => ⟨hk.1, ⟨hk.2.2.1, hk.2.2.2⟩⟩))
     obtain ⟨ce19, hcl19, hM19, hcc19, hfr19⟩ := Kd.N_elem HX19.out z45 (x3_1 : Int) (of_decide_eq_true (by first | (with_reducible assumption) | assumption)) (by have h_ : (x3_1 : Int) < ((x247002_1.length : Int) : Int) := of_decide_eq_true (by first | (with_reducible assumption) | assumption); first | exact h_ | (have e_ := (Kd.N_reads' HO_247002.out).1; omega) | simpa using h_)
     obtain ⟨ua19_6, uc19_6, rfl, ul19_6, ge19_6⟩ := k45_openF hM19
     have HWq_ := Kd.R_types (Kd.R_types (Kd.R_apart' (HO254.out) (Kd.N_typed HO_247002.out) (by decide)) BK246.out (by decide)) BK247.out (by decide)
     have HZq_ := Kd.R_mono (ok' := (fun k_ => ((fun k_ => (P0_2_ k_ ∨ w.heap.size ≤ k_) ∧ k_ ≠ gb246 ∧ k_ ≠ gb247)) k_ ∧ k_ ≠ go13)) HWq_ (fun k_ hk => ⟨⟨(.inr (hk.1.1.1.1)), ⟨hk.1.2, hk.2⟩⟩, fun e_ => (hk.1.1.2) (by rw [e_]; rfl)⟩)
     have HP19 := (Kd.N_seg HX19.out (x3_1 : Int) (of_decide_eq_true (by first | (with_reducible assumption) | assumption)) (by have h_ : (x3_1 : Int) < ((x247002_1.length : Int) : Int) := of_decide_eq_true (by first | (with_reducible assumption) | assumption); first | exact h_ | (have e_ := (Kd.N_reads' HO_247002.out).1; omega) | simpa using h_) (seg := [(.slice Aq_ t252.length cq_)]) (j := 6) hcl19 hcc19 (show 7 ≤ 7 from by decide) (x' := (⟨(rd_T45 x247002_1 x3_1).f0, (⟨(rd_T45 x247002_1 x3_1).f1.f0, (rd_T45 x247002_1 x3_1).f1.f1, (rd_T45 x247002_1 x3_1).f1.f2, (rd_T45 x247002_1 x3_1).f1.f3, (rd_T45 x247002_1 x3_1).f1.f4⟩ : S42), t252⟩ : S45)) (k45_mkF _ _ (⟨(rd_T45 x247002_1 x3_1).f0, (⟨(rd_T45 x247002_1 x3_1).f1.f0, (rd_T45 x247002_1 x3_1).f1.f1, (rd_T45 x247002_1 x3_1).f1.f2, (rd_T45 x247002_1 x3_1).f1.f3, (rd_T45 x247002_1 x3_1).f1.f4⟩ : S42), t252⟩ : S45) (Kd.R_reads' HZq_).2.1 (Kd.R_F HZq_)) (fun _ hk => hk)).1
     rw [← Ny255.out] at HP19
     have HQ19 := Aside0.mk HP19
     clear hcl19 hcc19 hfr19 hM19 HP19
     refine hK.out _ _ ⟨(blk_cell BK246.out 0).trans rfl, (blk_cell BK246.out 1).trans rfl, (blk_cell BK246.out 2).trans rfl, HS3_, HS4_, HS5_, HS6_, HS7_, HS8_, HS9_⟩ (fun hHeld => ?_)
     clear hK K
     refine norm_ (a' := ?_) ?_ ?_
     rotate_left
     ·show Act.put _ (some 24) _ = _
      simp only [Act.put, List.setIfInBounds_toArray, List.set_cons_zero, List.set_cons_succ, i64_w, i32_w]
      rfl
     refine pq_ 10 25 (mb_ 13 2047) HT_.out ?_
     refine pq_ 11 26 (mb_ 13 4095) HT_.out ?_
     refine last_ (i := 12) (N := none) (mb_ 13 8191) rfl rfl (one_of HT_.out (by kernel_rfl)) (by decide) (fun K hK => ?_)
     refine skip_ (w1 := ?_) (by rfl) rfl ?_ ?_
     rotate_left
     ·go_simp
      rfl
     refine hK.out _ _ ?_
     clear hK K
     refine done_ (done_of HT_.out (by kernel_rfl)) ?_
     try go_wp2
     go_roundg k1
     case measure => have := HK1.out; omega
     case rel => exact ⟨(wrap64 (x3_1 + 1)), (y255), (.slice (some ⟨go13, 0, none⟩) x247002_1.length co16), r_, H', ⟨by have := HK1.out; omega⟩, ⟨kn_ HQ19⟩, ⟨by (with_reducible repeat (first | refine blk_drewN ?_ _ | refine blk_drew ?_ | refine blk_alloc ?_ _)); refine blk_far ?_ (by have h_ := Kd.N_away HO_247002.out (fun _ hk => hk.1.2.1); intro e_; exact h_ (by rw [e_]; rfl)) _; (with_reducible repeat (first | refine blk_drewN ?_ _ | refine blk_drew ?_ | refine blk_alloc ?_ _)); exact BK246.out⟩, ⟨by (with_reducible repeat (first | refine blk_drewN ?_ _ | refine blk_drew ?_ | refine blk_alloc ?_ _)); refine blk_far ?_ (by have h_ := Kd.N_away HO_247002.out (fun _ hk => hk.1.2.2); intro e_; exact h_ (by rw [e_]; rfl)) _; (with_reducible repeat (first | refine blk_drewN ?_ _ | refine blk_drew ?_ | refine blk_alloc ?_ _)); exact BK247.out⟩, ⟨by repeat (first | (with_reducible first | exact HB.out | apply a1_ | apply a2_ | apply a3_ | refine below_set ?_ GB13.out | refine below_set ?_ GE246.out | refine below_set ?_ GE247.out) | exact HB.out)⟩⟩
    ·rw [if_neg c11] at H
     exact absurd H (by simp)
   ·rw [if_neg c10] at H
    have c10b0 : decide (x3_1 < (x247002_1.length : Int)) = false := decide_eq_false c10
    clear c10
    simp only [Option.some.injEq, Prod.mk.injEq] at H
    obtain ⟨rfl, rfl, rfl⟩ := H
    have hnb20 := NB246_247.out
    have hnc20 := NB247_246.out
    obtain ⟨hcz21_0, hcz21_1, hcz21_2, hfz21_0, hfz21_1, hfz21_2⟩ := bb3_ BK246.out
    obtain ⟨Ao22, co22, eo22⟩ := Kd.N_slice HO_247002.out
    subst eo22
    obtain ⟨hcz23_0, hcz23_1, hcz23_2, hfz23_0, hfz23_1, hfz23_2⟩ := bb3_ BK247.out
    go_wp2
    refine bodyPost_ret (results_cell_row rfl _ _ gb247 24 #[.string a0_0, .int .i64 a0_1, .slice Ao22 x247002_1.length co22] (0, 0) _ rfl (by (with_reducible repeat (first | refine blk_drewN ?_ _ | refine blk_drew ?_ | refine blk_alloc ?_ _)); refine blk_put (cs := #[.string a0_0, .int .i64 a0_1, .slice none 0 0]) ?_ 2 _ rfl; (with_reducible repeat (first | refine blk_drewN ?_ _ | refine blk_drew ?_ | refine blk_alloc ?_ _)); refine blk_put (cs := #[.string a0_0, .int .i64 0, .slice none 0 0]) ?_ 1 _ rfl; (with_reducible repeat (first | refine blk_drewN ?_ _ | refine blk_drew ?_ | refine blk_alloc ?_ _)); refine blk_put (cs := #[.string (⟨#[]⟩ : ByteArray), .int .i64 0, .slice none 0 0]) ?_ 0 _ rfl; (with_reducible repeat (first | refine blk_drewN ?_ _ | refine blk_drew ?_ | refine blk_alloc ?_ _)); exact BK247.out) Try.underlying24 rfl (by kernel_rfl)) rfl ?_
    exact ⟨_, rfl, by (with_reducible repeat (first | apply Kd.N_alloc | apply Kd.N_drewN | apply Kd.N_drew)); exact Kd.N_mono (Kd.N_far (p := ⟨gb247, 2, none⟩) (Kd.N_far (p := ⟨gb247, 1, none⟩) (Kd.N_far (p := ⟨gb247, 0, none⟩) (Kd.N_mono HO_247002.out (fun k_ hk => (⟨hk, hk.2.2⟩ : _ ∧ k_ ≠ gb247))) (fun _ hk => hk.2) (.string a0_0)) (fun _ hk => hk.2) (.int .i64 a0_1)) (fun _ hk => hk.2) (.slice Ao22 x247002_1.length co22)) (fun _ hk => hk.1.1), bl_ HB⟩
end Go.Proofs.Ytfgibjkgiolonaa.PA
