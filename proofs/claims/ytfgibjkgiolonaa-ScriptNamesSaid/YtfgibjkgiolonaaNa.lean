/- ScriptNames, walked. -/
import Derived.Test.YtfgibjkgiolonaaNh
import Derived.Test.YtfgibjkgiolonaaWm
import Derived.Test.YtfgibjkgiolonaaPAx10
set_option linter.unusedVariables false
set_option linter.unusedSimpArgs false
namespace Go.Proofs.YtfgibjkgiolonaaS
open Go.RowKit Go.Proofs.YtfgibjkgiolonaaW.PrintWords Go.Proofs.YtfgibjkgiolonaaW.PrintLast Go.Proofs.YtfgibjkgiolonaaX Go.Proofs.Ytfgibjkgiolonaa.PA Go.Proofs.YtfgibjkgiolonaaG Go.Proofs.YtfgibjkgiolonaaQ Go.Proofs.YtfgibjkgiolonaaI

set_option maxHeartbeats 8000000 in
set_option maxRecDepth 100000 in
theorem names_any (w : World) : Calls Try.prog 6 #[] w fun e w' => e = .returned (.bool true) ∧ Below w.heap.size w w' := by
 obtain ⟨K0, h0⟩ := lives_ev
 have hL := h0 K0 (Nat.le_refl _)
 have HB := Aside0.mk (Below.refl w.heap.size w)
 have hu24 := Try.underlying24
 go_enter Try.func6, Try.ntmps6
 go_upto_region 4 with (first | ((with_reducible refine gate_callee (f := 8) rfl ?_); refine gl_ (some 21) Try.func8 #[] ?_; (with_reducible refine (outlawlaw25_lives.calls K0 true _ hL).mono ?_); rintro e wn ⟨rfl, hb⟩; refine ⟨_, rfl, ?_⟩; have n0_ := Aside0.mk (below_step (bl_ HB) hb); clear HB; have HB := n0_; clear n0_; clear hb) | ((with_reducible refine gate_callee (f := 16) rfl ?_); refine gl_ (some 23) Try.func16 #[] ?_; (with_reducible refine (outlawlaw25_one.calls nBot 8 [nX0] _ rfl).mono ?_); rintro e wn ⟨v1, rfl, ho0, hb⟩; refine ⟨_, rfl, ?_⟩; obtain ⟨A1, c1, rfl⟩ := Kd.S_slice ho0; have n0_ := Aside0.mk (below_step (bl_ HB) hb); have n1_ := Aside0.mk (Kd.S_lower ho0 (below_size (bl_ HB))); clear HB; have HB := n0_; have HS := n1_; clear n0_ n1_; clear hb ho0) | ((with_reducible refine gate_dst (N := 1) rfl ?_); refine be_ 1 #[.string (⟨#[]⟩ : ByteArray), .int .i64 0, .slice none 0 0] 24 ?_; intro g1 hg w3 hbox hb; have n0_ := Aside0.mk (below_step (bl_ HB) hb); have n1_ := Aside0.mk (Kd.S_below HS.out hb); have n2_ := Aside0.mk (show w.heap.size ≤ g1 by rw [hg]; exact below_size (bl_ HB)); have n3_ := Aside0.mk (hbox); clear HB HS; have HB := n0_; have HS := n1_; have GE1 := n2_; have BK1 := n3_; clear n0_ n1_ n2_ n3_; obtain ⟨hcz1_0, hcz1_1, hcz1_2, hfz1_0, hfz1_1, hfz1_2⟩ := bb3_ hbox; clear hb hbox hg))
 obtain ⟨w4, hw4⟩ : ∃ x, x = (((w3.setCell ⟨g1, 0, none⟩ (.string nBot)).setCell ⟨g1, 1, none⟩ (.int .i64 8)).setCell ⟨g1, 2, none⟩ (.slice A1 1 c1)) := ⟨_, rfl⟩
 have BK4 : w4.heap[g1]? = some (.cells #[.string nBot, .int .i64 8, .slice A1 1 c1] 24 (0, 0)) := by rw [hw4]; exact blk_put (cs := #[.string nBot, .int .i64 8, .slice none 0 0]) (blk_put (cs := #[.string nBot, .int .i64 0, .slice none 0 0]) (blk_put (cs := #[.string ⟨#[]⟩, .int .i64 0, .slice none 0 0]) BK1.out 0 _ rfl) 1 _ rfl) 2 _ rfl
 have HS4 : Kd.S k45 45 w4 w.heap.size (fun _ => True) (.slice A1 1 c1) [nX0] := by rw [hw4]; exact Kd.S_set (Kd.S_set (Kd.S_set HS.out BK1.out (by decide) 0 _) (blk_put (cs := #[.string ⟨#[]⟩, .int .i64 0, .slice none 0 0]) BK1.out 0 _ rfl) (by decide) 1 _) (blk_put (cs := #[.string nBot, .int .i64 0, .slice none 0 0]) (blk_put (cs := #[.string ⟨#[]⟩, .int .i64 0, .slice none 0 0]) BK1.out 0 _ rfl) 1 _ rfl) (by decide) 2 _
 have HB4 : Below w.heap.size w w4 := by rw [hw4]; exact bl_ HB
 clear HS BK1 HB hcz1_0 hcz1_1 hcz1_2 hfz1_0 hfz1_1 hfz1_2
 rw [← hw4]
 clear hw4
 have HM := Aside0.mk (k45_mkM (w4.alloc (.cells #[.int .i64 512, .int .i64 3] 3)) w.heap.size (fun k => w4.heap.size ≤ k) nX1 (ints_R w4 w.heap.size [512, 3] (by decide) HB4.size))
 have HV := Aside0.mk (show ∀ k, w4.heap.size ≤ k → some k ≠ (Value.slice A1 1 c1).ownBlock from fun k hk he => by have := Kd.S_lt HS4 k he.symm; omega)
 have HR := Aside0.mk (Kd.S_alloc (Kd.S_mono (ok' := fun k => True ∧ ¬ w4.heap.size ≤ k) (Kd.S_bound HS4) (fun k hk => ⟨trivial, by have := hk.2.2.1; omega⟩)) (.cells #[.int .i64 512, .int .i64 3] 3))
 have HBa := Aside0.mk (HB4.alloc HB4.size (.cells #[.int .i64 512, .int .i64 3] 3))
 have HX := Aside0.mk (n_size w4 (.cells #[.int .i64 512, .int .i64 3] 3))
 have HL := Aside0.mk (HBa.out.size)
 replace BK4 := Aside0.mk BK4
 clear HS4 HB4
 obtain ⟨hcz1_0, hcz1_1, hcz1_2, hfz1_0, hfz1_1, hfz1_2⟩ := bb3_ BK4.out
 go_upto_region 5 with (first | (at_builtin; go_loud (refine steps_append (w0 := w) (W := w4.alloc (.cells #[.int .i64 512, .int .i64 3] 3)) w.heap.size (.tmp 25) (.tmp 29) (.slice A1 1 c1) [nX0] nX1 (elL nX1 (.slice (some ⟨w4.heap.size, 0, none⟩) 2 2)) (fun k => w4.heap.size ≤ k) rfl rfl rfl (congrArg (fun n => Value.slice (some ⟨n, 0, none⟩) 1 1) HX.out.symm) HM.out HV.out HR.out HBa.out HL.out (by decide) ?_); go_loud (intro v1 w6 ho hb hg); obtain ⟨A2, c2, e2⟩ := Kd.S_slice ho; replace e2 : v1 = .slice A2 2 c2 := e2; subst e2; replace ho : Kd.S k45 45 w6 w.heap.size (fun _ => True) (.slice A2 2 c2) [nX0, nX1] := ho; go_loud (have HS6 := Aside0.mk ho); go_loud (have BK6 := Aside0.mk (blk_of_grown (show Blk _ g1 #[.string nBot, .int .i64 8, .slice A1 1 c1] 24 from blk_alloc BK4.out (.cells #[.int .i64 512, .int .i64 3] 3)) hg HR.out (by decide))); go_loud (have HB6 := Aside0.mk hb); go_loud (obtain ⟨hcz2_0, hcz2_1, hcz2_2, hfz2_0, hfz2_1, hfz2_2⟩ := bb3_ BK6.out); clear ho hb hg hcz1_0 hcz1_1 hcz1_2 hfz1_0 hfz1_1 hfz1_2))
 obtain ⟨w7, hw7⟩ : ∃ x, x = w6.setCell ⟨g1, 2, none⟩ (.slice A2 2 c2) := ⟨_, rfl⟩
 have BK1 : Aside0 (w7.heap[g1]? = some (.cells #[.string nBot, .int .i64 8, .slice A2 2 c2] 24 (0, 0))) := ⟨by rw [hw7]; exact blk_put (cs := #[.string nBot, .int .i64 8, .slice A1 1 c1]) BK6.out 2 _ rfl⟩
 have HS7 : Kd.S k45 45 w7 w.heap.size (fun _ => True) (.slice A2 2 c2) [nX0, nX1] := by rw [hw7]; exact Kd.S_set HS6.out BK6.out (by decide) 2 _
 have HB : Aside0 (Below w.heap.size w w7) := ⟨by rw [hw7]; exact bl_ HB6⟩
 rw [← hw7]
 clear hw7 HM HV HR HBa HX HL BK4 HS6 BK6 HB6 hcz2_0 hcz2_1 hcz2_2 hfz2_0 hfz2_1 hfz2_2
 obtain ⟨g2, g3, cs2, cs3, rfl, hc2, HT, hk2, hk3, he0, he1, hg2, hg3⟩ := two_lie HS7
 have N13 := Aside0.mk (apart_ BK1.out hk3 (by decide))
 have N23 := Aside0.mk (apart_ hk2 hk3 (by decide))
 have BK2 := Aside0.mk hk2
 have BK3 := Aside0.mk hk3
 have GE2 := Aside0.mk hg2
 have GE3 := Aside0.mk hg3
 have HT2 := Aside0.mk HT
 have HE0 := Aside0.mk he0
 have HE1 := Aside0.mk he1
 have HC2 := Aside0.mk hc2
 clear hk2 hk3 hg2 hg3 HT he0 he1 hc2 HS7
 obtain ⟨KB, hKB⟩ := bytes_ev nBot 8 [nX0, nX1] n_few.1 (by decide)
 have hBy := hKB KB (Nat.le_refl _)
 replace hBy : script_Bytes.f KB nBot 8 [nX0, nX1] = some (nB, 0) := hBy.trans (by unfold bytesS; rw [if_pos (by rw [n_check])]; rfl)
 clear hKB
 obtain ⟨hcz1_0, hcz1_1, hcz1_2, hfz1_0, hfz1_1, hfz1_2⟩ := bb3_ BK1.out
 go_upto_region 6 with (first | ((with_reducible refine gate_callee (f := 11) rfl ?_); refine gl_ (some 34) Try.func11 #[.agg #[.string nBot, .int .i64 8, .slice (some ⟨g2, 0, none⟩) 2 c2]] ?_; go_loud (refine (script_Bytes.calls KB nBot 8 (some ⟨g2, 0, none⟩) c2 [nX0, nX1] nB 0 _ (two_C (kb_ BK2) (kb_ BK3) HT2.out HE0.out HE1.out) HC2.out hBy).mono ?_); rintro e w8 ⟨rfl, hb⟩; refine ⟨_, rfl, ?_⟩; have n1_ := Aside0.mk (blk_below (kb_ BK1) hb); have n2_ := Aside0.mk (blk_below (kb_ BK2) hb); have n3_ := Aside0.mk (blk_below (kb_ BK3) hb); have n4_ := Aside0.mk (below_step (bl_ HB) hb); clear BK1 BK2 BK3 HB hb hcz1_0 hcz1_1 hcz1_2 hfz1_0 hfz1_1 hfz1_2; have BK1 := n1_; have BK2 := n2_; have BK3 := n3_; have HB := n4_; clear n1_ n2_ n3_ n4_))
 have hRd : script_Read.f nB = some (nBot, 8, [nX0, nX1], 0) := congrArg some n_back
 go_upto_region 7 with (first | ((with_reducible refine gate_callee (f := 12) rfl ?_); refine gl_ (some 39) Try.func12 #[.string nB] ?_; (with_reducible refine (script_Read.calls nB nBot 8 [nX0, nX1] 0 _ hRd).mono ?_); rintro e w9 ⟨v4, rfl, ho0, hb⟩; refine ⟨_, rfl, ?_⟩; obtain ⟨A4, c5, e4⟩ := Kd.S_slice ho0; replace e4 : v4 = .slice A4 2 c5 := e4; subst e4; obtain ⟨g5, g6, cs5, cs6, rfl, hc5, HT5, hk5, hk6, hf0, hf1, hq5, hq6⟩ := two_lie ho0; clear ho0; have n0_ := Aside0.mk (blk_below (kb_ BK1) hb); have n1_ := Aside0.mk (blk_below (kb_ BK2) hb); have n2_ := Aside0.mk (blk_below (kb_ BK3) hb); have n3_ := Aside0.mk (below_step (bl_ HB) hb); have n4_ := Aside0.mk (Nat.ne_of_lt (Nat.lt_of_lt_of_le (blk_lt (kb_ BK3)) hq6)); have n5_ := Aside0.mk (hk5); have n6_ := Aside0.mk (hk6); have n7_ := Aside0.mk (hc5); have n8_ := Aside0.mk (HT5); have n9_ := Aside0.mk (hf0); have n10_ := Aside0.mk (hf1); clear BK1 BK2 BK3 HB; have BK1 := n0_; have BK2 := n1_; have BK3 := n2_; have HB := n3_; have N36 := n4_; have BK5 := n5_; have BK6 := n6_; have HC5 := n7_; have HU5 := n8_; have HF0 := n9_; have HF1 := n10_; clear n0_ n1_ n2_ n3_ n4_ n5_ n6_ n7_ n8_ n9_ n10_; clear hb hk5 hk6 hc5 HT5 hf0 hf1 hq5 hq6) | ((with_reducible refine gate_dst (N := 4) rfl ?_); refine be_ 4 #[.string (⟨#[]⟩ : ByteArray), .int .i64 0, .slice none 0 0] 24 ?_; intro g4 hg w10 hbox hb; have n0_ := Aside0.mk (blk_below (kb_ BK1) hb); have n1_ := Aside0.mk (blk_below (kb_ BK2) hb); have n2_ := Aside0.mk (blk_below (kb_ BK3) hb); have n3_ := Aside0.mk (blk_below (kb_ BK5) hb); have n4_ := Aside0.mk (blk_below (kb_ BK6) hb); have n5_ := Aside0.mk (below_step (bl_ HB) hb); have n6_ := Aside0.mk (show w.heap.size ≤ g4 by rw [hg]; exact below_size (bl_ HB)); have n7_ := Aside0.mk (hbox); have n8_ := Aside0.mk (show g1 ≠ g4 by rw [hg]; exact Nat.ne_of_lt (blk_lt (kb_ BK1))); have n9_ := Aside0.mk (show g2 ≠ g4 by rw [hg]; exact Nat.ne_of_lt (blk_lt (kb_ BK2))); have n10_ := Aside0.mk (show g3 ≠ g4 by rw [hg]; exact Nat.ne_of_lt (blk_lt (kb_ BK3))); have n11_ := Aside0.mk (show g5 ≠ g4 by rw [hg]; exact Nat.ne_of_lt (blk_lt (kb_ BK5))); have n12_ := Aside0.mk (show g6 ≠ g4 by rw [hg]; exact Nat.ne_of_lt (blk_lt (kb_ BK6))); clear BK1 BK2 BK3 BK5 BK6 HB; have BK1 := n0_; have BK2 := n1_; have BK3 := n2_; have BK5 := n3_; have BK6 := n4_; have HB := n5_; have GE4 := n6_; have BK4 := n7_; have N14 := n8_; have N24 := n9_; have N34 := n10_; have N54 := n11_; have N64 := n12_; clear n0_ n1_ n2_ n3_ n4_ n5_ n6_ n7_ n8_ n9_ n10_ n11_ n12_; obtain ⟨hcz4_0, hcz4_1, hcz4_2, hfz4_0, hfz4_1, hfz4_2⟩ := bb3_ hbox; clear hb hbox hg))
 have n0_ := Aside0.mk (kb_ (w' := (((w10.setCell ⟨g4, 0, none⟩ (.string nBot)).setCell ⟨g4, 1, none⟩ (.int .i64 8)).setCell ⟨g4, 2, none⟩ (.slice (some ⟨g5, 0, none⟩) 2 c5))) BK1)
 have n1_ := Aside0.mk (kb_ (w' := (((w10.setCell ⟨g4, 0, none⟩ (.string nBot)).setCell ⟨g4, 1, none⟩ (.int .i64 8)).setCell ⟨g4, 2, none⟩ (.slice (some ⟨g5, 0, none⟩) 2 c5))) BK2)
 have n2_ := Aside0.mk (kb_ (w' := (((w10.setCell ⟨g4, 0, none⟩ (.string nBot)).setCell ⟨g4, 1, none⟩ (.int .i64 8)).setCell ⟨g4, 2, none⟩ (.slice (some ⟨g5, 0, none⟩) 2 c5))) BK3)
 have n3_ := Aside0.mk (kb_ (w' := (((w10.setCell ⟨g4, 0, none⟩ (.string nBot)).setCell ⟨g4, 1, none⟩ (.int .i64 8)).setCell ⟨g4, 2, none⟩ (.slice (some ⟨g5, 0, none⟩) 2 c5))) BK5)
 have n4_ := Aside0.mk (kb_ (w' := (((w10.setCell ⟨g4, 0, none⟩ (.string nBot)).setCell ⟨g4, 1, none⟩ (.int .i64 8)).setCell ⟨g4, 2, none⟩ (.slice (some ⟨g5, 0, none⟩) 2 c5))) BK6)
 have n5_ := Aside0.mk (bl_ (w' := (((w10.setCell ⟨g4, 0, none⟩ (.string nBot)).setCell ⟨g4, 1, none⟩ (.int .i64 8)).setCell ⟨g4, 2, none⟩ (.slice (some ⟨g5, 0, none⟩) 2 c5))) HB)
 have n6_ := Aside0.mk (blk_put (cs := #[.string nBot, .int .i64 8, .slice none 0 0]) (cs' := #[.string nBot, .int .i64 8, .slice (some ⟨g5, 0, none⟩) 2 c5]) (blk_put (cs := #[.string nBot, .int .i64 0, .slice none 0 0]) (cs' := #[.string nBot, .int .i64 8, .slice none 0 0]) (blk_put (cs := #[.string ⟨#[]⟩, .int .i64 0, .slice none 0 0]) (cs' := #[.string nBot, .int .i64 0, .slice none 0 0]) BK4.out 0 (.string nBot) rfl) 1 (.int .i64 8) rfl) 2 (.slice (some ⟨g5, 0, none⟩) 2 c5) rfl)
 clear BK1 BK2 BK3 BK5 BK6 HB BK4 hcz4_0 hcz4_1 hcz4_2 hfz4_0 hfz4_1 hfz4_2
 have BK1 := n0_
 have BK2 := n1_
 have BK3 := n2_
 have BK5 := n3_
 have BK6 := n4_
 have HB := n5_
 have BK4 := n6_
 clear n0_ n1_ n2_ n3_ n4_ n5_ n6_
 generalize (((w10.setCell ⟨g4, 0, none⟩ (.string nBot)).setCell ⟨g4, 1, none⟩ (.int .i64 8)).setCell ⟨g4, 2, none⟩ (.slice (some ⟨g5, 0, none⟩) 2 c5)) = w11 at HB BK1 BK2 BK3 BK5 BK6 BK4 ⊢
 go_upto_region 8 with (first | ((with_reducible refine gate_callee (f := 16) rfl ?_); refine gl_ (some 42) Try.func16 #[] ?_; (with_reducible refine (outlawlaw25_one.calls nBot 8 [nX0] _ rfl).mono ?_); rintro e w12 ⟨v8, rfl, ho0, hb⟩; refine ⟨_, rfl, ?_⟩; obtain ⟨A8, c8, e8⟩ := Kd.S_slice ho0; replace e8 : v8 = .slice A8 1 c8 := e8; subst e8; obtain ⟨g8, cs8, B8, b8, rfl, hc8, hk8, ht8, hq8⟩ := one_lie ho0; clear ho0; have GE8 := Aside0.mk (Nat.le_trans (below_size (bl_ HB)) hq8); have n0_ := Aside0.mk (blk_below (kb_ BK1) hb); have n1_ := Aside0.mk (blk_below (kb_ BK2) hb); have n2_ := Aside0.mk (blk_below (kb_ BK3) hb); have n3_ := Aside0.mk (blk_below (kb_ BK5) hb); have n4_ := Aside0.mk (blk_below (kb_ BK6) hb); have n5_ := Aside0.mk (blk_below (kb_ BK4) hb); have n6_ := Aside0.mk (below_step (bl_ HB) hb); have n7_ := Aside0.mk (show g1 ≠ g8 from Nat.ne_of_lt (Nat.lt_of_lt_of_le (blk_lt (kb_ BK1)) hq8)); have n8_ := Aside0.mk (show g2 ≠ g8 from Nat.ne_of_lt (Nat.lt_of_lt_of_le (blk_lt (kb_ BK2)) hq8)); have n9_ := Aside0.mk (show g3 ≠ g8 from Nat.ne_of_lt (Nat.lt_of_lt_of_le (blk_lt (kb_ BK3)) hq8)); have n10_ := Aside0.mk (show g5 ≠ g8 from Nat.ne_of_lt (Nat.lt_of_lt_of_le (blk_lt (kb_ BK5)) hq8)); have n11_ := Aside0.mk (show g6 ≠ g8 from Nat.ne_of_lt (Nat.lt_of_lt_of_le (blk_lt (kb_ BK6)) hq8)); have n12_ := Aside0.mk (show g4 ≠ g8 from Nat.ne_of_lt (Nat.lt_of_lt_of_le (blk_lt (kb_ BK4)) hq8)); have n13_ := Aside0.mk (hk8); have n14_ := Aside0.mk (hc8); have n15_ := Aside0.mk (ht8); clear BK1 BK2 BK3 BK5 BK6 BK4 HB; have BK1 := n0_; have BK2 := n1_; have BK3 := n2_; have BK5 := n3_; have BK6 := n4_; have BK4 := n5_; have HB := n6_; have N18 := n7_; have N28 := n8_; have N38 := n9_; have N58 := n10_; have N68 := n11_; have N48 := n12_; have BK8 := n13_; have HC8 := n14_; have HT8 := n15_; clear n0_ n1_ n2_ n3_ n4_ n5_ n6_ n7_ n8_ n9_ n10_ n11_ n12_ n13_ n14_ n15_; clear hb hk8 hc8 ht8 hq8) | ((with_reducible refine gate_dst (N := 6) rfl ?_); refine be_ 6 #[.string (⟨#[]⟩ : ByteArray), .int .i64 0, .slice none 0 0] 24 ?_; intro g7 hg w13 hbox hb; have n0_ := Aside0.mk (blk_below (kb_ BK1) hb); have n1_ := Aside0.mk (blk_below (kb_ BK2) hb); have n2_ := Aside0.mk (blk_below (kb_ BK3) hb); have n3_ := Aside0.mk (blk_below (kb_ BK5) hb); have n4_ := Aside0.mk (blk_below (kb_ BK6) hb); have n5_ := Aside0.mk (blk_below (kb_ BK4) hb); have n6_ := Aside0.mk (blk_below (kb_ BK8) hb); have n7_ := Aside0.mk (below_step (bl_ HB) hb); have n8_ := Aside0.mk (show w.heap.size ≤ g7 by rw [hg]; exact below_size (bl_ HB)); have n9_ := Aside0.mk (hbox); have n10_ := Aside0.mk (show g1 ≠ g7 by rw [hg]; exact Nat.ne_of_lt (blk_lt (kb_ BK1))); have n11_ := Aside0.mk (show g2 ≠ g7 by rw [hg]; exact Nat.ne_of_lt (blk_lt (kb_ BK2))); have n12_ := Aside0.mk (show g3 ≠ g7 by rw [hg]; exact Nat.ne_of_lt (blk_lt (kb_ BK3))); have n13_ := Aside0.mk (show g5 ≠ g7 by rw [hg]; exact Nat.ne_of_lt (blk_lt (kb_ BK5))); have n14_ := Aside0.mk (show g6 ≠ g7 by rw [hg]; exact Nat.ne_of_lt (blk_lt (kb_ BK6))); have n15_ := Aside0.mk (show g4 ≠ g7 by rw [hg]; exact Nat.ne_of_lt (blk_lt (kb_ BK4))); have n16_ := Aside0.mk (show g8 ≠ g7 by rw [hg]; exact Nat.ne_of_lt (blk_lt (kb_ BK8))); clear BK1 BK2 BK3 BK5 BK6 BK4 BK8 HB; have BK1 := n0_; have BK2 := n1_; have BK3 := n2_; have BK5 := n3_; have BK6 := n4_; have BK4 := n5_; have BK8 := n6_; have HB := n7_; have GE7 := n8_; have BK7 := n9_; have N17 := n10_; have N27 := n11_; have N37 := n12_; have N57 := n13_; have N67 := n14_; have N47 := n15_; have N87 := n16_; clear n0_ n1_ n2_ n3_ n4_ n5_ n6_ n7_ n8_ n9_ n10_ n11_ n12_ n13_ n14_ n15_ n16_; obtain ⟨hcz7_0, hcz7_1, hcz7_2, hfz7_0, hfz7_1, hfz7_2⟩ := bb3_ hbox; clear hb hbox hg))
 have n0_ := Aside0.mk (kb_ (w' := (((w13.setCell ⟨g7, 0, none⟩ (.string nBot)).setCell ⟨g7, 1, none⟩ (.int .i64 8)).setCell ⟨g7, 2, none⟩ (.slice (some ⟨g8, 0, none⟩) 1 c8))) BK1)
 have n1_ := Aside0.mk (kb_ (w' := (((w13.setCell ⟨g7, 0, none⟩ (.string nBot)).setCell ⟨g7, 1, none⟩ (.int .i64 8)).setCell ⟨g7, 2, none⟩ (.slice (some ⟨g8, 0, none⟩) 1 c8))) BK2)
 have n2_ := Aside0.mk (kb_ (w' := (((w13.setCell ⟨g7, 0, none⟩ (.string nBot)).setCell ⟨g7, 1, none⟩ (.int .i64 8)).setCell ⟨g7, 2, none⟩ (.slice (some ⟨g8, 0, none⟩) 1 c8))) BK3)
 have n3_ := Aside0.mk (kb_ (w' := (((w13.setCell ⟨g7, 0, none⟩ (.string nBot)).setCell ⟨g7, 1, none⟩ (.int .i64 8)).setCell ⟨g7, 2, none⟩ (.slice (some ⟨g8, 0, none⟩) 1 c8))) BK5)
 have n4_ := Aside0.mk (kb_ (w' := (((w13.setCell ⟨g7, 0, none⟩ (.string nBot)).setCell ⟨g7, 1, none⟩ (.int .i64 8)).setCell ⟨g7, 2, none⟩ (.slice (some ⟨g8, 0, none⟩) 1 c8))) BK6)
 have n5_ := Aside0.mk (kb_ (w' := (((w13.setCell ⟨g7, 0, none⟩ (.string nBot)).setCell ⟨g7, 1, none⟩ (.int .i64 8)).setCell ⟨g7, 2, none⟩ (.slice (some ⟨g8, 0, none⟩) 1 c8))) BK4)
 have n6_ := Aside0.mk (kb_ (w' := (((w13.setCell ⟨g7, 0, none⟩ (.string nBot)).setCell ⟨g7, 1, none⟩ (.int .i64 8)).setCell ⟨g7, 2, none⟩ (.slice (some ⟨g8, 0, none⟩) 1 c8))) BK8)
 have n7_ := Aside0.mk (bl_ (w' := (((w13.setCell ⟨g7, 0, none⟩ (.string nBot)).setCell ⟨g7, 1, none⟩ (.int .i64 8)).setCell ⟨g7, 2, none⟩ (.slice (some ⟨g8, 0, none⟩) 1 c8))) HB)
 have n8_ := Aside0.mk (blk_put (cs := #[.string nBot, .int .i64 8, .slice none 0 0]) (cs' := #[.string nBot, .int .i64 8, .slice (some ⟨g8, 0, none⟩) 1 c8]) (blk_put (cs := #[.string nBot, .int .i64 0, .slice none 0 0]) (cs' := #[.string nBot, .int .i64 8, .slice none 0 0]) (blk_put (cs := #[.string ⟨#[]⟩, .int .i64 0, .slice none 0 0]) (cs' := #[.string nBot, .int .i64 0, .slice none 0 0]) BK7.out 0 (.string nBot) rfl) 1 (.int .i64 8) rfl) 2 (.slice (some ⟨g8, 0, none⟩) 1 c8) rfl)
 clear BK1 BK2 BK3 BK5 BK6 BK4 BK8 HB BK7 hcz7_0 hcz7_1 hcz7_2 hfz7_0 hfz7_1 hfz7_2
 have BK1 := n0_
 have BK2 := n1_
 have BK3 := n2_
 have BK5 := n3_
 have BK6 := n4_
 have BK4 := n5_
 have BK8 := n6_
 have HB := n7_
 have BK7 := n8_
 clear n0_ n1_ n2_ n3_ n4_ n5_ n6_ n7_ n8_
 generalize (((w13.setCell ⟨g7, 0, none⟩ (.string nBot)).setCell ⟨g7, 1, none⟩ (.int .i64 8)).setCell ⟨g7, 2, none⟩ (.slice (some ⟨g8, 0, none⟩) 1 c8)) = w14 at HB BK1 BK2 BK3 BK5 BK6 BK4 BK8 BK7 ⊢
 have N78 := Aside0.mk (Ne.symm N87.out)
 obtain ⟨hcz7_0, hcz7_1, hcz7_2, hfz7_0, hfz7_1, hfz7_2⟩ := bb3_ BK7.out
 have hcz8_6 := (blk_cell BK8.out 6).trans (HT8.out 6 _ rfl)
 have hfz8_6 := blk_frozen BK8.out 6
 go_upto_region 9 with (first | ((with_reducible refine gate_dst (N := 45) rfl ?_); refine li_ 45 #[.int .i64 1] 3 1 ?_; intro g9 hg w15 hbox hb; have n0_ := Aside0.mk (blk_below (kb_ BK1) hb); have n1_ := Aside0.mk (blk_below (kb_ BK2) hb); have n2_ := Aside0.mk (blk_below (kb_ BK3) hb); have n3_ := Aside0.mk (blk_below (kb_ BK5) hb); have n4_ := Aside0.mk (blk_below (kb_ BK6) hb); have n5_ := Aside0.mk (blk_below (kb_ BK4) hb); have n6_ := Aside0.mk (blk_below (kb_ BK8) hb); have n7_ := Aside0.mk (blk_below (kb_ BK7) hb); have n8_ := Aside0.mk (below_step (bl_ HB) hb); have n9_ := Aside0.mk (hbox); have n10_ := Aside0.mk (show g9 ≠ g8 by rw [hg]; exact Nat.ne_of_gt (blk_lt (kb_ BK8))); have n11_ := Aside0.mk (show g9 ≠ g3 by rw [hg]; exact Nat.ne_of_gt (blk_lt (kb_ BK3))); clear BK1 BK2 BK3 BK5 BK6 BK4 BK8 BK7 HB; have BK1 := n0_; have BK2 := n1_; have BK3 := n2_; have BK5 := n3_; have BK6 := n4_; have BK4 := n5_; have BK8 := n6_; have BK7 := n7_; have HB := n8_; have BK9 := n9_; have N98 := n10_; have N93 := n11_; clear n0_ n1_ n2_ n3_ n4_ n5_ n6_ n7_ n8_ n9_ n10_ n11_; clear hcz7_0 hcz7_1 hcz7_2 hfz7_0 hfz7_1 hfz7_2 hcz8_6 hfz8_6; obtain ⟨hcz7_0, hcz7_1, hcz7_2, hfz7_0, hfz7_1, hfz7_2⟩ := bb3_ BK7.out; have hcz8_6 := (blk_cell BK8.out 6).trans (HT8.out 6 _ rfl); have hfz8_6 := blk_frozen BK8.out 6; clear hb hbox hg))
 have n0_ := Aside0.mk (kb_ (w' := (w15.setCell ⟨g8, 6, none⟩ (.slice (some ⟨g9, 0, none⟩) 1 1))) BK1)
 have n1_ := Aside0.mk (kb_ (w' := (w15.setCell ⟨g8, 6, none⟩ (.slice (some ⟨g9, 0, none⟩) 1 1))) BK2)
 have n2_ := Aside0.mk (kb_ (w' := (w15.setCell ⟨g8, 6, none⟩ (.slice (some ⟨g9, 0, none⟩) 1 1))) BK3)
 have n3_ := Aside0.mk (kb_ (w' := (w15.setCell ⟨g8, 6, none⟩ (.slice (some ⟨g9, 0, none⟩) 1 1))) BK5)
 have n4_ := Aside0.mk (kb_ (w' := (w15.setCell ⟨g8, 6, none⟩ (.slice (some ⟨g9, 0, none⟩) 1 1))) BK6)
 have n5_ := Aside0.mk (kb_ (w' := (w15.setCell ⟨g8, 6, none⟩ (.slice (some ⟨g9, 0, none⟩) 1 1))) BK4)
 have n6_ := Aside0.mk (kb_ (w' := (w15.setCell ⟨g8, 6, none⟩ (.slice (some ⟨g9, 0, none⟩) 1 1))) BK7)
 have n7_ := Aside0.mk (kb_ (w' := (w15.setCell ⟨g8, 6, none⟩ (.slice (some ⟨g9, 0, none⟩) 1 1))) BK9)
 have n8_ := Aside0.mk (bl_ (w' := (w15.setCell ⟨g8, 6, none⟩ (.slice (some ⟨g9, 0, none⟩) 1 1))) HB)
 have n9_ := Aside0.mk (blk_put (cs := cs8) (cs' := cs8.setIfInBounds 6 (.slice (some ⟨g9, 0, none⟩) 1 1)) BK8.out 6 (.slice (some ⟨g9, 0, none⟩) 1 1) rfl)
 clear BK1 BK2 BK3 BK5 BK6 BK4 BK7 BK9 HB BK8 hcz7_0 hcz7_1 hcz7_2 hfz7_0 hfz7_1 hfz7_2 hcz8_6 hfz8_6
 have BK1 := n0_
 have BK2 := n1_
 have BK3 := n2_
 have BK5 := n3_
 have BK6 := n4_
 have BK4 := n5_
 have BK7 := n6_
 have BK9 := n7_
 have HB := n8_
 have BK8 := n9_
 clear n0_ n1_ n2_ n3_ n4_ n5_ n6_ n7_ n8_ n9_
 generalize (w15.setCell ⟨g8, 6, none⟩ (.slice (some ⟨g9, 0, none⟩) 1 1)) = w16 at HB BK1 BK2 BK3 BK5 BK6 BK4 BK7 BK9 BK8 ⊢
 have n0_ := Aside0.mk (put_el (v := .slice (some ⟨g9, 0, none⟩) 1 1) HT8.out)
 clear HT8
 have HT8 := n0_
 clear n0_
 have hCb : script_Check.f 302 nBot 8 [nX3] = some (0, 2) := by rw [check_val 302 _ _ _ n_few.2.1 (by decide) (Nat.le_refl _), n_bad]
 obtain ⟨hcz7_0, hcz7_1, hcz7_2, hfz7_0, hfz7_1, hfz7_2⟩ := bb3_ BK7.out
 go_upto_region 10 with (first | ((with_reducible refine gate_callee (f := 10) rfl ?_); refine gl_ (some 50) Try.func10 #[.agg #[.string nBot, .int .i64 8, .slice (some ⟨g8, 0, none⟩) 1 c8]] ?_; go_loud (refine (script_Check.calls 302 nBot 8 (some ⟨g8, 0, none⟩) c8 [nX3] 0 2 _ (one_C (l := [1]) (c := 1) (by simp) (by simp) (kb_ BK8) (kb_ BK9) HT8.out) HC8.out hCb).mono ?_); rintro e wn ⟨rfl, hb⟩; refine ⟨_, rfl, ?_⟩; have n0_ := Aside0.mk (blk_below (kb_ BK1) hb); have n1_ := Aside0.mk (blk_below (kb_ BK2) hb); have n2_ := Aside0.mk (blk_below (kb_ BK3) hb); have n3_ := Aside0.mk (blk_below (kb_ BK5) hb); have n4_ := Aside0.mk (blk_below (kb_ BK6) hb); have n5_ := Aside0.mk (blk_below (kb_ BK4) hb); have n6_ := Aside0.mk (blk_below (kb_ BK7) hb); have n7_ := Aside0.mk (blk_below (kb_ BK9) hb); have n8_ := Aside0.mk (blk_below (kb_ BK8) hb); have n9_ := Aside0.mk (below_step (bl_ HB) hb); clear BK1 BK2 BK3 BK5 BK6 BK4 BK7 BK9 BK8 HB; have BK1 := n0_; have BK2 := n1_; have BK3 := n2_; have BK5 := n3_; have BK6 := n4_; have BK4 := n5_; have BK7 := n6_; have BK9 := n7_; have BK8 := n8_; have HB := n9_; clear n0_ n1_ n2_ n3_ n4_ n5_ n6_ n7_ n8_ n9_; clear hb hcz7_0 hcz7_1 hcz7_2 hfz7_0 hfz7_1 hfz7_2))
 have N43 := Aside0.mk (apart_ BK4.out BK3.out (by decide))
 have N53 := Aside0.mk (apart_ BK5.out BK3.out (by decide))
 have N63 := Aside0.mk (Ne.symm N36.out)
 have N73 := Aside0.mk (apart_ BK7.out BK3.out (by decide))
 have N83 := Aside0.mk (apart_ BK8.out BK3.out (by decide))
 obtain ⟨A20, c20, c23, hc23, hA2, hB2⟩ := HT2.out
 obtain ⟨hcz1_0, hcz1_1, hcz1_2, hfz1_0, hfz1_1, hfz1_2⟩ := bb3_ BK1.out
 have hcz2_13 := (blk_cell BK2.out 13).trans (hB2 6 _ rfl)
 have hcz3_0 := (blk_cell BK3.out 0).trans HE0.out
 have hfz3_0 := blk_frozen BK3.out 0
 go_upto_region 11 with fail
 have n0_ := Aside0.mk (kb_ (w' := (wn.setCell ⟨g3, 0, none⟩ (.int .i64 601))) BK1)
 have n1_ := Aside0.mk (kb_ (w' := (wn.setCell ⟨g3, 0, none⟩ (.int .i64 601))) BK2)
 have n2_ := Aside0.mk (kb_ (w' := (wn.setCell ⟨g3, 0, none⟩ (.int .i64 601))) BK5)
 have n3_ := Aside0.mk (kb_ (w' := (wn.setCell ⟨g3, 0, none⟩ (.int .i64 601))) BK6)
 have n4_ := Aside0.mk (kb_ (w' := (wn.setCell ⟨g3, 0, none⟩ (.int .i64 601))) BK4)
 have n5_ := Aside0.mk (kb_ (w' := (wn.setCell ⟨g3, 0, none⟩ (.int .i64 601))) BK7)
 have n6_ := Aside0.mk (kb_ (w' := (wn.setCell ⟨g3, 0, none⟩ (.int .i64 601))) BK9)
 have n7_ := Aside0.mk (kb_ (w' := (wn.setCell ⟨g3, 0, none⟩ (.int .i64 601))) BK8)
 have n8_ := Aside0.mk (bl_ (w' := (wn.setCell ⟨g3, 0, none⟩ (.int .i64 601))) HB)
 have n9_ := Aside0.mk (blk_put (cs := cs3) (cs' := (cs3).setIfInBounds 0 (.int .i64 601)) BK3.out 0 (.int .i64 601) rfl)
 clear BK1 BK2 BK5 BK6 BK4 BK7 BK9 BK8 HB BK3 hcz1_0 hcz1_1 hcz1_2 hfz1_0 hfz1_1 hfz1_2 hcz2_13 hcz3_0 hfz3_0
 have BK1 := n0_
 have BK2 := n1_
 have BK5 := n2_
 have BK6 := n3_
 have BK4 := n4_
 have BK7 := n5_
 have BK9 := n6_
 have BK8 := n7_
 have HB := n8_
 have BK3 := n9_
 clear n0_ n1_ n2_ n3_ n4_ n5_ n6_ n7_ n8_ n9_
 generalize (wn.setCell ⟨g3, 0, none⟩ (.int .i64 601)) = w17 at HB BK1 BK2 BK5 BK6 BK4 BK7 BK9 BK8 BK3 ⊢
 have n0_ := Aside0.mk (put0 (v := (.int .i64 601)) HE0.out)
 have n1_ := Aside0.mk (put1 (v := (.int .i64 601)) HE1.out)
 clear HE0 HE1
 have HE0 := n0_
 have HE1 := n1_
 clear n0_ n1_
 have hCf : script_Check.f 302 nBot 8 [nX0, nX2] = some (1, 2) := by rw [check_val 302 _ _ _ n_few.2.2.1 (by decide) (Nat.le_refl _), n_far]
 obtain ⟨hcz1_0, hcz1_1, hcz1_2, hfz1_0, hfz1_1, hfz1_2⟩ := bb3_ BK1.out
 go_upto_region 12 with (first | ((with_reducible refine gate_callee (f := 10) rfl ?_); refine gl_ (some 61) Try.func10 #[.agg #[.string nBot, .int .i64 8, .slice (some ⟨g2, 0, none⟩) 2 c2]] ?_; go_loud (refine (script_Check.calls 302 nBot 8 (some ⟨g2, 0, none⟩) c2 [nX0, nX2] 1 2 _ (two_C (kb_ BK2) (kb_ BK3) HT2.out HE0.out HE1.out) HC2.out hCf).mono ?_); rintro e wn ⟨rfl, hb⟩; refine ⟨_, rfl, ?_⟩; have n0_ := Aside0.mk (blk_below (kb_ BK1) hb); have n1_ := Aside0.mk (blk_below (kb_ BK2) hb); have n2_ := Aside0.mk (blk_below (kb_ BK5) hb); have n3_ := Aside0.mk (blk_below (kb_ BK6) hb); have n4_ := Aside0.mk (blk_below (kb_ BK4) hb); have n5_ := Aside0.mk (blk_below (kb_ BK7) hb); have n6_ := Aside0.mk (blk_below (kb_ BK9) hb); have n7_ := Aside0.mk (blk_below (kb_ BK8) hb); have n8_ := Aside0.mk (blk_below (kb_ BK3) hb); have n9_ := Aside0.mk (below_step (bl_ HB) hb); clear BK1 BK2 BK5 BK6 BK4 BK7 BK9 BK8 BK3 HB; have BK1 := n0_; have BK2 := n1_; have BK5 := n2_; have BK6 := n3_; have BK4 := n4_; have BK7 := n5_; have BK9 := n6_; have BK8 := n7_; have BK3 := n8_; have HB := n9_; clear n0_ n1_ n2_ n3_ n4_ n5_ n6_ n7_ n8_ n9_; clear hb hcz1_0 hcz1_1 hcz1_2 hfz1_0 hfz1_1 hfz1_2))
 obtain ⟨hcz1_0, hcz1_1, hcz1_2, hfz1_0, hfz1_1, hfz1_2⟩ := bb3_ BK1.out
 have hcz2_13 := (blk_cell BK2.out 13).trans (hB2 6 _ rfl)
 have hcz3_0 := (blk_cell BK3.out 0).trans HE0.out
 have hfz3_0 := blk_frozen BK3.out 0
 go_upto_region 13 with fail
 have n0_ := Aside0.mk (kb_ (w' := (wn.setCell ⟨g3, 0, none⟩ (.int .i64 512))) BK1)
 have n1_ := Aside0.mk (kb_ (w' := (wn.setCell ⟨g3, 0, none⟩ (.int .i64 512))) BK2)
 have n2_ := Aside0.mk (kb_ (w' := (wn.setCell ⟨g3, 0, none⟩ (.int .i64 512))) BK5)
 have n3_ := Aside0.mk (kb_ (w' := (wn.setCell ⟨g3, 0, none⟩ (.int .i64 512))) BK6)
 have n4_ := Aside0.mk (kb_ (w' := (wn.setCell ⟨g3, 0, none⟩ (.int .i64 512))) BK4)
 have n5_ := Aside0.mk (kb_ (w' := (wn.setCell ⟨g3, 0, none⟩ (.int .i64 512))) BK7)
 have n6_ := Aside0.mk (kb_ (w' := (wn.setCell ⟨g3, 0, none⟩ (.int .i64 512))) BK9)
 have n7_ := Aside0.mk (kb_ (w' := (wn.setCell ⟨g3, 0, none⟩ (.int .i64 512))) BK8)
 have n8_ := Aside0.mk (bl_ (w' := (wn.setCell ⟨g3, 0, none⟩ (.int .i64 512))) HB)
 have n9_ := Aside0.mk (blk_put (cs := (cs3.setIfInBounds 0 (.int .i64 601))) (cs' := ((cs3.setIfInBounds 0 (.int .i64 601))).setIfInBounds 0 (.int .i64 512)) BK3.out 0 (.int .i64 512) rfl)
 clear BK1 BK2 BK5 BK6 BK4 BK7 BK9 BK8 HB BK3 hcz1_0 hcz1_1 hcz1_2 hfz1_0 hfz1_1 hfz1_2 hcz2_13 hcz3_0 hfz3_0
 have BK1 := n0_
 have BK2 := n1_
 have BK5 := n2_
 have BK6 := n3_
 have BK4 := n4_
 have BK7 := n5_
 have BK9 := n6_
 have BK8 := n7_
 have HB := n8_
 have BK3 := n9_
 clear n0_ n1_ n2_ n3_ n4_ n5_ n6_ n7_ n8_ n9_
 generalize (wn.setCell ⟨g3, 0, none⟩ (.int .i64 512)) = w18 at HB BK1 BK2 BK5 BK6 BK4 BK7 BK9 BK8 BK3 ⊢
 have n0_ := Aside0.mk (put0 (v := (.int .i64 512)) HE0.out)
 have n1_ := Aside0.mk (put1 (v := (.int .i64 512)) HE1.out)
 clear HE0 HE1
 have HE0 := n0_
 have HE1 := n1_
 clear n0_ n1_
 obtain ⟨r131, r132, r133, hR13⟩ := read_5 n_i
 go_upto_region 14 with (first | ((with_reducible refine gate_callee (f := 12) rfl ?_); refine gl_ (some 71) Try.func12 #[.string (⟨#[4, 64, 98, 58, 120, 0, 8, 0, 1, 2, 0, 1, 6]⟩ : ByteArray)] ?_; go_loud (refine (script_Read.calls _ r131 r132 r133 5 _ hR13).mono ?_); rintro e wn ⟨v4, rfl, ho0, hb⟩; refine ⟨_, rfl, ?_⟩; obtain ⟨A13, c13, rfl⟩ := Kd.S_slice ho0; clear ho0; have n0_ := Aside0.mk (blk_below (kb_ BK1) hb); have n1_ := Aside0.mk (blk_below (kb_ BK2) hb); have n2_ := Aside0.mk (blk_below (kb_ BK5) hb); have n3_ := Aside0.mk (blk_below (kb_ BK6) hb); have n4_ := Aside0.mk (blk_below (kb_ BK4) hb); have n5_ := Aside0.mk (blk_below (kb_ BK7) hb); have n6_ := Aside0.mk (blk_below (kb_ BK9) hb); have n7_ := Aside0.mk (blk_below (kb_ BK8) hb); have n8_ := Aside0.mk (blk_below (kb_ BK3) hb); have n9_ := Aside0.mk (below_step (bl_ HB) hb); clear BK1 BK2 BK5 BK6 BK4 BK7 BK9 BK8 BK3 HB; have BK1 := n0_; have BK2 := n1_; have BK5 := n2_; have BK6 := n3_; have BK4 := n4_; have BK7 := n5_; have BK9 := n6_; have BK8 := n7_; have BK3 := n8_; have HB := n9_; clear n0_ n1_ n2_ n3_ n4_ n5_ n6_ n7_ n8_ n9_; clear hb) | ((with_reducible refine gate_dst (N := 11) rfl ?_); refine be_ 11 #[.string (⟨#[]⟩ : ByteArray), .int .i64 0, .slice none 0 0] 24 ?_; intro g10 hg w19 hbox hb; have n0_ := Aside0.mk (blk_below (kb_ BK1) hb); have n1_ := Aside0.mk (blk_below (kb_ BK2) hb); have n2_ := Aside0.mk (blk_below (kb_ BK5) hb); have n3_ := Aside0.mk (blk_below (kb_ BK6) hb); have n4_ := Aside0.mk (blk_below (kb_ BK4) hb); have n5_ := Aside0.mk (blk_below (kb_ BK7) hb); have n6_ := Aside0.mk (blk_below (kb_ BK9) hb); have n7_ := Aside0.mk (blk_below (kb_ BK8) hb); have n8_ := Aside0.mk (blk_below (kb_ BK3) hb); have n9_ := Aside0.mk (below_step (bl_ HB) hb); have n10_ := Aside0.mk (show w.heap.size ≤ g10 by rw [hg]; exact below_size (bl_ HB)); have n11_ := Aside0.mk (show g1 ≠ g10 by rw [hg]; exact Nat.ne_of_lt (blk_lt (kb_ BK1))); have n12_ := Aside0.mk (show g2 ≠ g10 by rw [hg]; exact Nat.ne_of_lt (blk_lt (kb_ BK2))); have n13_ := Aside0.mk (show g5 ≠ g10 by rw [hg]; exact Nat.ne_of_lt (blk_lt (kb_ BK5))); have n14_ := Aside0.mk (show g6 ≠ g10 by rw [hg]; exact Nat.ne_of_lt (blk_lt (kb_ BK6))); have n15_ := Aside0.mk (show g4 ≠ g10 by rw [hg]; exact Nat.ne_of_lt (blk_lt (kb_ BK4))); have n16_ := Aside0.mk (show g7 ≠ g10 by rw [hg]; exact Nat.ne_of_lt (blk_lt (kb_ BK7))); have n17_ := Aside0.mk (show g9 ≠ g10 by rw [hg]; exact Nat.ne_of_lt (blk_lt (kb_ BK9))); have n18_ := Aside0.mk (show g8 ≠ g10 by rw [hg]; exact Nat.ne_of_lt (blk_lt (kb_ BK8))); have n19_ := Aside0.mk (show g3 ≠ g10 by rw [hg]; exact Nat.ne_of_lt (blk_lt (kb_ BK3))); clear BK1 BK2 BK5 BK6 BK4 BK7 BK9 BK8 BK3 HB; have BK1 := n0_; have BK2 := n1_; have BK5 := n2_; have BK6 := n3_; have BK4 := n4_; have BK7 := n5_; have BK9 := n6_; have BK8 := n7_; have BK3 := n8_; have HB := n9_; have GEg10 := n10_; have N1g10 := n11_; have N2g10 := n12_; have N5g10 := n13_; have N6g10 := n14_; have N4g10 := n15_; have N7g10 := n16_; have N9g10 := n17_; have N8g10 := n18_; have N3g10 := n19_; clear n0_ n1_ n2_ n3_ n4_ n5_ n6_ n7_ n8_ n9_ n10_ n11_ n12_ n13_ n14_ n15_ n16_ n17_ n18_ n19_; obtain ⟨hczb_0, hczb_1, hczb_2, hfzb_0, hfzb_1, hfzb_2⟩ := bb3_ hbox; clear hb hbox hg))
 have n0_ := Aside0.mk (kb_ (w' := (((w19.setCell ⟨g10, 0, none⟩ (.string r131)).setCell ⟨g10, 1, none⟩ (.int .i64 r132)).setCell ⟨g10, 2, none⟩ (.slice A13 r133.length c13))) BK1)
 have n1_ := Aside0.mk (kb_ (w' := (((w19.setCell ⟨g10, 0, none⟩ (.string r131)).setCell ⟨g10, 1, none⟩ (.int .i64 r132)).setCell ⟨g10, 2, none⟩ (.slice A13 r133.length c13))) BK2)
 have n2_ := Aside0.mk (kb_ (w' := (((w19.setCell ⟨g10, 0, none⟩ (.string r131)).setCell ⟨g10, 1, none⟩ (.int .i64 r132)).setCell ⟨g10, 2, none⟩ (.slice A13 r133.length c13))) BK5)
 have n3_ := Aside0.mk (kb_ (w' := (((w19.setCell ⟨g10, 0, none⟩ (.string r131)).setCell ⟨g10, 1, none⟩ (.int .i64 r132)).setCell ⟨g10, 2, none⟩ (.slice A13 r133.length c13))) BK6)
 have n4_ := Aside0.mk (kb_ (w' := (((w19.setCell ⟨g10, 0, none⟩ (.string r131)).setCell ⟨g10, 1, none⟩ (.int .i64 r132)).setCell ⟨g10, 2, none⟩ (.slice A13 r133.length c13))) BK4)
 have n5_ := Aside0.mk (kb_ (w' := (((w19.setCell ⟨g10, 0, none⟩ (.string r131)).setCell ⟨g10, 1, none⟩ (.int .i64 r132)).setCell ⟨g10, 2, none⟩ (.slice A13 r133.length c13))) BK7)
 have n6_ := Aside0.mk (kb_ (w' := (((w19.setCell ⟨g10, 0, none⟩ (.string r131)).setCell ⟨g10, 1, none⟩ (.int .i64 r132)).setCell ⟨g10, 2, none⟩ (.slice A13 r133.length c13))) BK9)
 have n7_ := Aside0.mk (kb_ (w' := (((w19.setCell ⟨g10, 0, none⟩ (.string r131)).setCell ⟨g10, 1, none⟩ (.int .i64 r132)).setCell ⟨g10, 2, none⟩ (.slice A13 r133.length c13))) BK8)
 have n8_ := Aside0.mk (kb_ (w' := (((w19.setCell ⟨g10, 0, none⟩ (.string r131)).setCell ⟨g10, 1, none⟩ (.int .i64 r132)).setCell ⟨g10, 2, none⟩ (.slice A13 r133.length c13))) BK3)
 have n9_ := Aside0.mk (bl_ (w' := (((w19.setCell ⟨g10, 0, none⟩ (.string r131)).setCell ⟨g10, 1, none⟩ (.int .i64 r132)).setCell ⟨g10, 2, none⟩ (.slice A13 r133.length c13))) HB)
 clear BK1 BK2 BK5 BK6 BK4 BK7 BK9 BK8 BK3 HB hczb_0 hczb_1 hczb_2 hfzb_0 hfzb_1 hfzb_2
 have BK1 := n0_
 have BK2 := n1_
 have BK5 := n2_
 have BK6 := n3_
 have BK4 := n4_
 have BK7 := n5_
 have BK9 := n6_
 have BK8 := n7_
 have BK3 := n8_
 have HB := n9_
 clear n0_ n1_ n2_ n3_ n4_ n5_ n6_ n7_ n8_ n9_
 generalize (((w19.setCell ⟨g10, 0, none⟩ (.string r131)).setCell ⟨g10, 1, none⟩ (.int .i64 r132)).setCell ⟨g10, 2, none⟩ (.slice A13 r133.length c13)) = w19b at HB BK1 BK2 BK5 BK6 BK4 BK7 BK9 BK8 BK3 ⊢
 obtain ⟨r141, r142, r143, hR14⟩ := read_5 n_j
 go_upto_region 15 with (first | ((with_reducible refine gate_callee (f := 12) rfl ?_); refine gl_ (some 77) Try.func12 #[.string (nB ++ ⟨#[120]⟩)] ?_; go_loud (refine (script_Read.calls _ r141 r142 r143 5 _ hR14).mono ?_); rintro e wn ⟨v4, rfl, ho0, hb⟩; refine ⟨_, rfl, ?_⟩; obtain ⟨A14, c14, rfl⟩ := Kd.S_slice ho0; clear ho0; have n0_ := Aside0.mk (blk_below (kb_ BK1) hb); have n1_ := Aside0.mk (blk_below (kb_ BK2) hb); have n2_ := Aside0.mk (blk_below (kb_ BK5) hb); have n3_ := Aside0.mk (blk_below (kb_ BK6) hb); have n4_ := Aside0.mk (blk_below (kb_ BK4) hb); have n5_ := Aside0.mk (blk_below (kb_ BK7) hb); have n6_ := Aside0.mk (blk_below (kb_ BK9) hb); have n7_ := Aside0.mk (blk_below (kb_ BK8) hb); have n8_ := Aside0.mk (blk_below (kb_ BK3) hb); have n9_ := Aside0.mk (below_step (bl_ HB) hb); clear BK1 BK2 BK5 BK6 BK4 BK7 BK9 BK8 BK3 HB; have BK1 := n0_; have BK2 := n1_; have BK5 := n2_; have BK6 := n3_; have BK4 := n4_; have BK7 := n5_; have BK9 := n6_; have BK8 := n7_; have BK3 := n8_; have HB := n9_; clear n0_ n1_ n2_ n3_ n4_ n5_ n6_ n7_ n8_ n9_; clear hb) | ((with_reducible refine gate_dst (N := 13) rfl ?_); refine be_ 13 #[.string (⟨#[]⟩ : ByteArray), .int .i64 0, .slice none 0 0] 24 ?_; intro g11 hg w20 hbox hb; have n0_ := Aside0.mk (blk_below (kb_ BK1) hb); have n1_ := Aside0.mk (blk_below (kb_ BK2) hb); have n2_ := Aside0.mk (blk_below (kb_ BK5) hb); have n3_ := Aside0.mk (blk_below (kb_ BK6) hb); have n4_ := Aside0.mk (blk_below (kb_ BK4) hb); have n5_ := Aside0.mk (blk_below (kb_ BK7) hb); have n6_ := Aside0.mk (blk_below (kb_ BK9) hb); have n7_ := Aside0.mk (blk_below (kb_ BK8) hb); have n8_ := Aside0.mk (blk_below (kb_ BK3) hb); have n9_ := Aside0.mk (below_step (bl_ HB) hb); have n10_ := Aside0.mk (show w.heap.size ≤ g11 by rw [hg]; exact below_size (bl_ HB)); have n11_ := Aside0.mk (show g1 ≠ g11 by rw [hg]; exact Nat.ne_of_lt (blk_lt (kb_ BK1))); have n12_ := Aside0.mk (show g2 ≠ g11 by rw [hg]; exact Nat.ne_of_lt (blk_lt (kb_ BK2))); have n13_ := Aside0.mk (show g5 ≠ g11 by rw [hg]; exact Nat.ne_of_lt (blk_lt (kb_ BK5))); have n14_ := Aside0.mk (show g6 ≠ g11 by rw [hg]; exact Nat.ne_of_lt (blk_lt (kb_ BK6))); have n15_ := Aside0.mk (show g4 ≠ g11 by rw [hg]; exact Nat.ne_of_lt (blk_lt (kb_ BK4))); have n16_ := Aside0.mk (show g7 ≠ g11 by rw [hg]; exact Nat.ne_of_lt (blk_lt (kb_ BK7))); have n17_ := Aside0.mk (show g9 ≠ g11 by rw [hg]; exact Nat.ne_of_lt (blk_lt (kb_ BK9))); have n18_ := Aside0.mk (show g8 ≠ g11 by rw [hg]; exact Nat.ne_of_lt (blk_lt (kb_ BK8))); have n19_ := Aside0.mk (show g3 ≠ g11 by rw [hg]; exact Nat.ne_of_lt (blk_lt (kb_ BK3))); clear BK1 BK2 BK5 BK6 BK4 BK7 BK9 BK8 BK3 HB; have BK1 := n0_; have BK2 := n1_; have BK5 := n2_; have BK6 := n3_; have BK4 := n4_; have BK7 := n5_; have BK9 := n6_; have BK8 := n7_; have BK3 := n8_; have HB := n9_; have GEg11 := n10_; have N1g11 := n11_; have N2g11 := n12_; have N5g11 := n13_; have N6g11 := n14_; have N4g11 := n15_; have N7g11 := n16_; have N9g11 := n17_; have N8g11 := n18_; have N3g11 := n19_; clear n0_ n1_ n2_ n3_ n4_ n5_ n6_ n7_ n8_ n9_ n10_ n11_ n12_ n13_ n14_ n15_ n16_ n17_ n18_ n19_; obtain ⟨hczb_0, hczb_1, hczb_2, hfzb_0, hfzb_1, hfzb_2⟩ := bb3_ hbox; clear hb hbox hg))
 have n0_ := Aside0.mk (kb_ (w' := (((w20.setCell ⟨g11, 0, none⟩ (.string r141)).setCell ⟨g11, 1, none⟩ (.int .i64 r142)).setCell ⟨g11, 2, none⟩ (.slice A14 r143.length c14))) BK1)
 have n1_ := Aside0.mk (kb_ (w' := (((w20.setCell ⟨g11, 0, none⟩ (.string r141)).setCell ⟨g11, 1, none⟩ (.int .i64 r142)).setCell ⟨g11, 2, none⟩ (.slice A14 r143.length c14))) BK2)
 have n2_ := Aside0.mk (kb_ (w' := (((w20.setCell ⟨g11, 0, none⟩ (.string r141)).setCell ⟨g11, 1, none⟩ (.int .i64 r142)).setCell ⟨g11, 2, none⟩ (.slice A14 r143.length c14))) BK5)
 have n3_ := Aside0.mk (kb_ (w' := (((w20.setCell ⟨g11, 0, none⟩ (.string r141)).setCell ⟨g11, 1, none⟩ (.int .i64 r142)).setCell ⟨g11, 2, none⟩ (.slice A14 r143.length c14))) BK6)
 have n4_ := Aside0.mk (kb_ (w' := (((w20.setCell ⟨g11, 0, none⟩ (.string r141)).setCell ⟨g11, 1, none⟩ (.int .i64 r142)).setCell ⟨g11, 2, none⟩ (.slice A14 r143.length c14))) BK4)
 have n5_ := Aside0.mk (kb_ (w' := (((w20.setCell ⟨g11, 0, none⟩ (.string r141)).setCell ⟨g11, 1, none⟩ (.int .i64 r142)).setCell ⟨g11, 2, none⟩ (.slice A14 r143.length c14))) BK7)
 have n6_ := Aside0.mk (kb_ (w' := (((w20.setCell ⟨g11, 0, none⟩ (.string r141)).setCell ⟨g11, 1, none⟩ (.int .i64 r142)).setCell ⟨g11, 2, none⟩ (.slice A14 r143.length c14))) BK9)
 have n7_ := Aside0.mk (kb_ (w' := (((w20.setCell ⟨g11, 0, none⟩ (.string r141)).setCell ⟨g11, 1, none⟩ (.int .i64 r142)).setCell ⟨g11, 2, none⟩ (.slice A14 r143.length c14))) BK8)
 have n8_ := Aside0.mk (kb_ (w' := (((w20.setCell ⟨g11, 0, none⟩ (.string r141)).setCell ⟨g11, 1, none⟩ (.int .i64 r142)).setCell ⟨g11, 2, none⟩ (.slice A14 r143.length c14))) BK3)
 have n9_ := Aside0.mk (bl_ (w' := (((w20.setCell ⟨g11, 0, none⟩ (.string r141)).setCell ⟨g11, 1, none⟩ (.int .i64 r142)).setCell ⟨g11, 2, none⟩ (.slice A14 r143.length c14))) HB)
 clear BK1 BK2 BK5 BK6 BK4 BK7 BK9 BK8 BK3 HB hczb_0 hczb_1 hczb_2 hfzb_0 hfzb_1 hfzb_2
 have BK1 := n0_
 have BK2 := n1_
 have BK5 := n2_
 have BK6 := n3_
 have BK4 := n4_
 have BK7 := n5_
 have BK9 := n6_
 have BK8 := n7_
 have BK3 := n8_
 have HB := n9_
 clear n0_ n1_ n2_ n3_ n4_ n5_ n6_ n7_ n8_ n9_
 generalize (((w20.setCell ⟨g11, 0, none⟩ (.string r141)).setCell ⟨g11, 1, none⟩ (.int .i64 r142)).setCell ⟨g11, 2, none⟩ (.slice A14 r143.length c14)) = w20b at HB BK1 BK2 BK5 BK6 BK4 BK7 BK9 BK8 BK3 ⊢
 have hN : nB.size = 30 := by decide +kernel
 obtain ⟨r151, r152, r153, hR15⟩ := read_5 n_k
 go_upto_region 16 with (first | ((with_reducible refine gate_callee (f := 12) rfl ?_); refine gl_ (some 86) Try.func12 #[.string (nB.extract 0 (nB.size - 1))] ?_; go_loud (refine (script_Read.calls _ r151 r152 r153 3 _ hR15).mono ?_); rintro e wn ⟨v4, rfl, ho0, hb⟩; refine ⟨_, rfl, ?_⟩; obtain ⟨A15, c15, rfl⟩ := Kd.S_slice ho0; clear ho0; have n0_ := Aside0.mk (blk_below (kb_ BK1) hb); have n1_ := Aside0.mk (blk_below (kb_ BK2) hb); have n2_ := Aside0.mk (blk_below (kb_ BK5) hb); have n3_ := Aside0.mk (blk_below (kb_ BK6) hb); have n4_ := Aside0.mk (blk_below (kb_ BK4) hb); have n5_ := Aside0.mk (blk_below (kb_ BK7) hb); have n6_ := Aside0.mk (blk_below (kb_ BK9) hb); have n7_ := Aside0.mk (blk_below (kb_ BK8) hb); have n8_ := Aside0.mk (blk_below (kb_ BK3) hb); have n9_ := Aside0.mk (below_step (bl_ HB) hb); clear BK1 BK2 BK5 BK6 BK4 BK7 BK9 BK8 BK3 HB; have BK1 := n0_; have BK2 := n1_; have BK5 := n2_; have BK6 := n3_; have BK4 := n4_; have BK7 := n5_; have BK9 := n6_; have BK8 := n7_; have BK3 := n8_; have HB := n9_; clear n0_ n1_ n2_ n3_ n4_ n5_ n6_ n7_ n8_ n9_; clear hb) | ((with_reducible refine gate_dst (N := 15) rfl ?_); refine be_ 15 #[.string (⟨#[]⟩ : ByteArray), .int .i64 0, .slice none 0 0] 24 ?_; intro g12 hg w21 hbox hb; have n0_ := Aside0.mk (blk_below (kb_ BK1) hb); have n1_ := Aside0.mk (blk_below (kb_ BK2) hb); have n2_ := Aside0.mk (blk_below (kb_ BK5) hb); have n3_ := Aside0.mk (blk_below (kb_ BK6) hb); have n4_ := Aside0.mk (blk_below (kb_ BK4) hb); have n5_ := Aside0.mk (blk_below (kb_ BK7) hb); have n6_ := Aside0.mk (blk_below (kb_ BK9) hb); have n7_ := Aside0.mk (blk_below (kb_ BK8) hb); have n8_ := Aside0.mk (blk_below (kb_ BK3) hb); have n9_ := Aside0.mk (below_step (bl_ HB) hb); have n10_ := Aside0.mk (show w.heap.size ≤ g12 by rw [hg]; exact below_size (bl_ HB)); have n11_ := Aside0.mk (show g1 ≠ g12 by rw [hg]; exact Nat.ne_of_lt (blk_lt (kb_ BK1))); have n12_ := Aside0.mk (show g2 ≠ g12 by rw [hg]; exact Nat.ne_of_lt (blk_lt (kb_ BK2))); have n13_ := Aside0.mk (show g5 ≠ g12 by rw [hg]; exact Nat.ne_of_lt (blk_lt (kb_ BK5))); have n14_ := Aside0.mk (show g6 ≠ g12 by rw [hg]; exact Nat.ne_of_lt (blk_lt (kb_ BK6))); have n15_ := Aside0.mk (show g4 ≠ g12 by rw [hg]; exact Nat.ne_of_lt (blk_lt (kb_ BK4))); have n16_ := Aside0.mk (show g7 ≠ g12 by rw [hg]; exact Nat.ne_of_lt (blk_lt (kb_ BK7))); have n17_ := Aside0.mk (show g9 ≠ g12 by rw [hg]; exact Nat.ne_of_lt (blk_lt (kb_ BK9))); have n18_ := Aside0.mk (show g8 ≠ g12 by rw [hg]; exact Nat.ne_of_lt (blk_lt (kb_ BK8))); have n19_ := Aside0.mk (show g3 ≠ g12 by rw [hg]; exact Nat.ne_of_lt (blk_lt (kb_ BK3))); clear BK1 BK2 BK5 BK6 BK4 BK7 BK9 BK8 BK3 HB; have BK1 := n0_; have BK2 := n1_; have BK5 := n2_; have BK6 := n3_; have BK4 := n4_; have BK7 := n5_; have BK9 := n6_; have BK8 := n7_; have BK3 := n8_; have HB := n9_; have GEg12 := n10_; have N1g12 := n11_; have N2g12 := n12_; have N5g12 := n13_; have N6g12 := n14_; have N4g12 := n15_; have N7g12 := n16_; have N9g12 := n17_; have N8g12 := n18_; have N3g12 := n19_; clear n0_ n1_ n2_ n3_ n4_ n5_ n6_ n7_ n8_ n9_ n10_ n11_ n12_ n13_ n14_ n15_ n16_ n17_ n18_ n19_; obtain ⟨hczb_0, hczb_1, hczb_2, hfzb_0, hfzb_1, hfzb_2⟩ := bb3_ hbox; clear hb hbox hg))
 have n0_ := Aside0.mk (kb_ (w' := (((w21.setCell ⟨g12, 0, none⟩ (.string r151)).setCell ⟨g12, 1, none⟩ (.int .i64 r152)).setCell ⟨g12, 2, none⟩ (.slice A15 r153.length c15))) BK1)
 have n1_ := Aside0.mk (kb_ (w' := (((w21.setCell ⟨g12, 0, none⟩ (.string r151)).setCell ⟨g12, 1, none⟩ (.int .i64 r152)).setCell ⟨g12, 2, none⟩ (.slice A15 r153.length c15))) BK2)
 have n2_ := Aside0.mk (kb_ (w' := (((w21.setCell ⟨g12, 0, none⟩ (.string r151)).setCell ⟨g12, 1, none⟩ (.int .i64 r152)).setCell ⟨g12, 2, none⟩ (.slice A15 r153.length c15))) BK5)
 have n3_ := Aside0.mk (kb_ (w' := (((w21.setCell ⟨g12, 0, none⟩ (.string r151)).setCell ⟨g12, 1, none⟩ (.int .i64 r152)).setCell ⟨g12, 2, none⟩ (.slice A15 r153.length c15))) BK6)
 have n4_ := Aside0.mk (kb_ (w' := (((w21.setCell ⟨g12, 0, none⟩ (.string r151)).setCell ⟨g12, 1, none⟩ (.int .i64 r152)).setCell ⟨g12, 2, none⟩ (.slice A15 r153.length c15))) BK4)
 have n5_ := Aside0.mk (kb_ (w' := (((w21.setCell ⟨g12, 0, none⟩ (.string r151)).setCell ⟨g12, 1, none⟩ (.int .i64 r152)).setCell ⟨g12, 2, none⟩ (.slice A15 r153.length c15))) BK7)
 have n6_ := Aside0.mk (kb_ (w' := (((w21.setCell ⟨g12, 0, none⟩ (.string r151)).setCell ⟨g12, 1, none⟩ (.int .i64 r152)).setCell ⟨g12, 2, none⟩ (.slice A15 r153.length c15))) BK9)
 have n7_ := Aside0.mk (kb_ (w' := (((w21.setCell ⟨g12, 0, none⟩ (.string r151)).setCell ⟨g12, 1, none⟩ (.int .i64 r152)).setCell ⟨g12, 2, none⟩ (.slice A15 r153.length c15))) BK8)
 have n8_ := Aside0.mk (kb_ (w' := (((w21.setCell ⟨g12, 0, none⟩ (.string r151)).setCell ⟨g12, 1, none⟩ (.int .i64 r152)).setCell ⟨g12, 2, none⟩ (.slice A15 r153.length c15))) BK3)
 have n9_ := Aside0.mk (bl_ (w' := (((w21.setCell ⟨g12, 0, none⟩ (.string r151)).setCell ⟨g12, 1, none⟩ (.int .i64 r152)).setCell ⟨g12, 2, none⟩ (.slice A15 r153.length c15))) HB)
 clear BK1 BK2 BK5 BK6 BK4 BK7 BK9 BK8 BK3 HB hczb_0 hczb_1 hczb_2 hfzb_0 hfzb_1 hfzb_2
 have BK1 := n0_
 have BK2 := n1_
 have BK5 := n2_
 have BK6 := n3_
 have BK4 := n4_
 have BK7 := n5_
 have BK9 := n6_
 have BK8 := n7_
 have BK3 := n8_
 have HB := n9_
 clear n0_ n1_ n2_ n3_ n4_ n5_ n6_ n7_ n8_ n9_
 generalize (((w21.setCell ⟨g12, 0, none⟩ (.string r151)).setCell ⟨g12, 1, none⟩ (.int .i64 r152)).setCell ⟨g12, 2, none⟩ (.slice A15 r153.length c15)) = w21b at HB BK1 BK2 BK5 BK6 BK4 BK7 BK9 BK8 BK3 ⊢
 have hCi : script_Check.f 302 ⟨#[98]⟩ 8 [] = some (0, 11) := by rw [check_val 302 _ _ _ n_few.2.2.2.2 (by decide) (Nat.le_refl _), n_id]
 have hCa : script_Check.f 302 nBot 0 [] = some (0, 2) := by rw [check_val 302 _ _ _ n_few.2.2.2.2 (by decide) (Nat.le_refl _), n_arg]
 go_upto_region 17 with (first | ((with_reducible refine gate_callee (f := 10) rfl ?_); refine gl_ (some 91) Try.func10 #[.agg #[.string (⟨#[98]⟩ : ByteArray), .int .i64 8, .slice none 0 0]] ?_; go_loud (refine (script_Check.calls 302 ⟨#[98]⟩ 8 none 0 [] 0 11 _ (Kd.C_nil _ _) (Nat.le_refl _) hCi).mono ?_); rintro e wn ⟨rfl, hb⟩; refine ⟨_, rfl, ?_⟩; have n0_ := Aside0.mk (blk_below (kb_ BK1) hb); have n1_ := Aside0.mk (blk_below (kb_ BK2) hb); have n2_ := Aside0.mk (blk_below (kb_ BK5) hb); have n3_ := Aside0.mk (blk_below (kb_ BK6) hb); have n4_ := Aside0.mk (blk_below (kb_ BK4) hb); have n5_ := Aside0.mk (blk_below (kb_ BK7) hb); have n6_ := Aside0.mk (blk_below (kb_ BK9) hb); have n7_ := Aside0.mk (blk_below (kb_ BK8) hb); have n8_ := Aside0.mk (blk_below (kb_ BK3) hb); have n9_ := Aside0.mk (below_step (bl_ HB) hb); clear BK1 BK2 BK5 BK6 BK4 BK7 BK9 BK8 BK3 HB; have BK1 := n0_; have BK2 := n1_; have BK5 := n2_; have BK6 := n3_; have BK4 := n4_; have BK7 := n5_; have BK9 := n6_; have BK8 := n7_; have BK3 := n8_; have HB := n9_; clear n0_ n1_ n2_ n3_ n4_ n5_ n6_ n7_ n8_ n9_; clear hb))
 go_upto_region 18 with (first | ((with_reducible refine gate_callee (f := 10) rfl ?_); refine gl_ (some 96) Try.func10 #[.agg #[.string nBot, .int .i64 0, .slice none 0 0]] ?_; go_loud (refine (script_Check.calls 302 nBot 0 none 0 [] 0 2 _ (Kd.C_nil _ _) (Nat.le_refl _) hCa).mono ?_); rintro e wn ⟨rfl, hb⟩; refine ⟨_, rfl, ?_⟩; have n0_ := Aside0.mk (blk_below (kb_ BK1) hb); have n1_ := Aside0.mk (blk_below (kb_ BK2) hb); have n2_ := Aside0.mk (blk_below (kb_ BK5) hb); have n3_ := Aside0.mk (blk_below (kb_ BK6) hb); have n4_ := Aside0.mk (blk_below (kb_ BK4) hb); have n5_ := Aside0.mk (blk_below (kb_ BK7) hb); have n6_ := Aside0.mk (blk_below (kb_ BK9) hb); have n7_ := Aside0.mk (blk_below (kb_ BK8) hb); have n8_ := Aside0.mk (blk_below (kb_ BK3) hb); have n9_ := Aside0.mk (below_step (bl_ HB) hb); clear BK1 BK2 BK5 BK6 BK4 BK7 BK9 BK8 BK3 HB; have BK1 := n0_; have BK2 := n1_; have BK5 := n2_; have BK6 := n3_; have BK4 := n4_; have BK7 := n5_; have BK9 := n6_; have BK8 := n7_; have BK3 := n8_; have HB := n9_; clear n0_ n1_ n2_ n3_ n4_ n5_ n6_ n7_ n8_ n9_; clear hb))
 have hS1 : script_Same.f nBot 8 [nX0, nX1] nBot 8 [nX0, nX1] = some true := by unfold script_Same.f; rw [if_pos ⟨n_few.1, by decide, by decide⟩, same_refl]
 have hS2 : script_Same.f nBot 8 [nX0, nX1] nBot 8 [nX0] = some false := by unfold script_Same.f; rw [if_pos ⟨n_few.1, by decide, by decide⟩, n_same]
 have hIn : script_Inputs.f 5 nBot 8 [nX0, nX1] = some [nX0.f1, nX1.f1] := by kernel_rfl
 refine start_ (n := 60) (S := fun w' => w'.cell? ⟨g1, 0, none⟩ = some (.string nBot) ∧ w'.cell? ⟨g1, 1, none⟩ = some (.int .i64 8) ∧ w'.cell? ⟨g1, 2, none⟩ = some (.slice (some ⟨g2, 0, none⟩) 2 c2) ∧ w'.cell? ⟨g4, 0, none⟩ = some (.string nBot) ∧ w'.cell? ⟨g4, 1, none⟩ = some (.int .i64 8) ∧ w'.cell? ⟨g4, 2, none⟩ = some (.slice (some ⟨g5, 0, none⟩) 2 c5)) (ds := []) #[false, false, false, false, false, false, false, false, false, false, false, false, false, false, false, false, false, false, false, false, false, false, false, false, false, false, false, false, false, false, false, false, false, false, false, false, false, false, false, false, false, false, false, false, false, false, false, false, false, false, false, false, false, false, false, false, false, false, false, false] (by as_aux_lemma => kernel_rfl) rfl rfl ⟨(blk_cell BK1.out 0).trans rfl, (blk_cell BK1.out 1).trans rfl, (blk_cell BK1.out 2).trans rfl, (blk_cell BK4.out 0).trans rfl, (blk_cell BK4.out 1).trans rfl, (blk_cell BK4.out 2).trans rfl⟩ (fun hHeld => ?_)
 have n0_ := Aside0.mk (kb_ (w' := wn.drew) BK1)
 have n1_ := Aside0.mk (kb_ (w' := wn.drew) BK2)
 have n2_ := Aside0.mk (kb_ (w' := wn.drew) BK5)
 have n3_ := Aside0.mk (kb_ (w' := wn.drew) BK6)
 have n4_ := Aside0.mk (kb_ (w' := wn.drew) BK4)
 have n5_ := Aside0.mk (kb_ (w' := wn.drew) BK7)
 have n6_ := Aside0.mk (kb_ (w' := wn.drew) BK9)
 have n7_ := Aside0.mk (kb_ (w' := wn.drew) BK8)
 have n8_ := Aside0.mk (kb_ (w' := wn.drew) BK3)
 have n9_ := Aside0.mk (bl_ (w' := wn.drew) HB)
 clear BK1 BK2 BK5 BK6 BK4 BK7 BK9 BK8 BK3 HB 
 have BK1 := n0_
 have BK2 := n1_
 have BK5 := n2_
 have BK6 := n3_
 have BK4 := n4_
 have BK7 := n5_
 have BK9 := n6_
 have BK8 := n7_
 have BK3 := n8_
 have HB := n9_
 clear n0_ n1_ n2_ n3_ n4_ n5_ n6_ n7_ n8_ n9_
 generalize wn.drew = w30 at HB hHeld BK1 BK2 BK5 BK6 BK4 BK7 BK9 BK8 BK3 ⊢
 refine pq_ 0 99 (mb_ 60 1) rfl ?_
 refine pq_ 1 100 (mb_ 60 3) rfl ?_
 refine pq_ 2 101 (mb_ 60 7) rfl ?_
 refine pq_ 3 102 (mb_ 60 15) rfl ?_
 refine pq_ 4 103 (mb_ 60 31) rfl ?_
 refine pq_ 5 104 (mb_ 60 63) rfl ?_
 refine pq_ 6 105 (mb_ 60 127) rfl ?_
 refine take_ (i := 7) (N := some 106) (v := ?_) (a' := ?_) (mb_ 60 255) rfl rfl (by as_aux_lemma => kernel_rfl) (fun _ _ _ h => h) (Or.inl ⟨by rfl, ?_⟩) hHeld ?_ ?_
 rotate_left
 ·rintro w' ⟨s0, s1, s2, s3, s4, s5⟩
  go_simp
  with_reducible rfl
 rotate_left
 ·simp only [Act.put, List.setIfInBounds_toArray, List.set_cons_zero, List.set_cons_succ, i64_w, i32_w]
  rfl
 refine take_ (i := 8) (N := some 107) (v := ?_) (a' := ?_) (mb_ 60 511) rfl rfl (by as_aux_lemma => kernel_rfl) (fun _ _ _ h => h) (Or.inl ⟨by rfl, ?_⟩) hHeld ?_ ?_
 rotate_left
 ·rintro w' ⟨s0, s1, s2, s3, s4, s5⟩
  go_simp
  with_reducible rfl
 rotate_left
 ·simp only [Act.put, List.setIfInBounds_toArray, List.set_cons_zero, List.set_cons_succ, i64_w, i32_w]
  rfl
 refine one_ (i := 9) (N := some 108) (mb_ 60 1023) rfl rfl (by as_aux_lemma => kernel_rfl) (by decide) (fun K hK => ?_)
 refine goes_ Try.func13 (by as_aux_lemma => kernel_rfl) rfl #[.agg #[.string nBot, .int .i64 8, .slice (some ⟨g2, 0, none⟩) 2 c2], .agg #[.string nBot, .int .i64 8, .slice (some ⟨g5, 0, none⟩) 2 c5]] (by rfl) rfl rfl (by (try simp only [List.map_toArray, List.map_cons, List.map_nil]); first | done | rfl) ?_
 refine (script_Same.calls nBot 8 (some ⟨g2, 0, none⟩) c2 [nX0, nX1] nBot 8 (some ⟨g5, 0, none⟩) c5 [nX0, nX1] true _ (two_C (kb_ BK2) (kb_ BK3) HT2.out HE0.out HE1.out) HC2.out (two_C (kb_ BK5) (kb_ BK6) HU5.out HF0.out HF1.out) HC5.out hS1).mono ?_
 rintro e wm ⟨rfl, hb⟩
 refine ⟨_, rfl, ?_⟩
 skip
 have n0_ := Aside0.mk (blk_below (kb_ BK1) hb); have n1_ := Aside0.mk (blk_below (kb_ BK2) hb); have n2_ := Aside0.mk (blk_below (kb_ BK5) hb); have n3_ := Aside0.mk (blk_below (kb_ BK6) hb); have n4_ := Aside0.mk (blk_below (kb_ BK4) hb); have n5_ := Aside0.mk (blk_below (kb_ BK7) hb); have n6_ := Aside0.mk (blk_below (kb_ BK9) hb); have n7_ := Aside0.mk (blk_below (kb_ BK8) hb); have n8_ := Aside0.mk (blk_below (kb_ BK3) hb); have n9_ := Aside0.mk (below_step (bl_ HB) hb); clear BK1 BK2 BK5 BK6 BK4 BK7 BK9 BK8 BK3 HB; have BK1 := n0_; have BK2 := n1_; have BK5 := n2_; have BK6 := n3_; have BK4 := n4_; have BK7 := n5_; have BK9 := n6_; have BK8 := n7_; have BK3 := n8_; have HB := n9_; clear n0_ n1_ n2_ n3_ n4_ n5_ n6_ n7_ n8_ n9_
 clear hb
 refine hK.out _ _ ⟨(blk_cell BK1.out 0).trans rfl, (blk_cell BK1.out 1).trans rfl, (blk_cell BK1.out 2).trans rfl, (blk_cell BK4.out 0).trans rfl, (blk_cell BK4.out 1).trans rfl, (blk_cell BK4.out 2).trans rfl⟩ (fun hHeld2 => ?_)
 clear hK K hHeld
 have hHeld := hHeld2
 clear hHeld2
 refine norm_ (a' := ?_) ?_ ?_
 rotate_left
 ·show Act.put _ (some 108) _ = _
  simp only [Act.put, List.setIfInBounds_toArray, List.set_cons_zero, List.set_cons_succ, i64_w, i32_w]
  rfl
 refine pq_ 10 109 (mb_ 60 2047) rfl ?_
 refine pq_ 11 110 (mb_ 60 4095) rfl ?_
 refine take_ (i := 12) (N := some 111) (v := ?_) (a' := ?_) (mb_ 60 8191) rfl rfl (by as_aux_lemma => kernel_rfl) (fun _ _ _ h => h) (Or.inl ⟨by rfl, ?_⟩) hHeld ?_ ?_
 rotate_left
 ·rintro w' ⟨s0, s1, s2, s3, s4, s5⟩
  go_simp
  with_reducible rfl
 rotate_left
 ·simp only [Act.put, List.setIfInBounds_toArray, List.set_cons_zero, List.set_cons_succ, i64_w, i32_w]
  rfl
 refine one_ (i := 13) (N := some 112) (mb_ 60 16383) rfl rfl (by as_aux_lemma => kernel_rfl) (by decide) (fun K hK => ?_)
 refine goes_ Try.func17 (by as_aux_lemma => kernel_rfl) rfl #[.agg #[.string nBot, .int .i64 8, .slice (some ⟨g2, 0, none⟩) 2 c2]] (by rfl) rfl rfl (by (try simp only [List.map_toArray, List.map_cons, List.map_nil]); first | done | rfl) ?_
 refine (script_Inputs.calls 5 nBot 8 (some ⟨g2, 0, none⟩) c2 [nX0, nX1] [nX0.f1, nX1.f1] _ (two_C (kb_ BK2) (kb_ BK3) HT2.out HE0.out HE1.out) HC2.out hIn).mono ?_
 rintro e wm ⟨vi, rfl, hRi, hb⟩
 refine ⟨_, rfl, ?_⟩
 obtain ⟨Ai, ci, ei⟩ := Kd.R_slice hRi
 replace ei : vi = .slice Ai 2 ci := ei
 subst ei
 clear hRi
 have n0_ := Aside0.mk (blk_below (kb_ BK1) hb); have n1_ := Aside0.mk (blk_below (kb_ BK2) hb); have n2_ := Aside0.mk (blk_below (kb_ BK5) hb); have n3_ := Aside0.mk (blk_below (kb_ BK6) hb); have n4_ := Aside0.mk (blk_below (kb_ BK4) hb); have n5_ := Aside0.mk (blk_below (kb_ BK7) hb); have n6_ := Aside0.mk (blk_below (kb_ BK9) hb); have n7_ := Aside0.mk (blk_below (kb_ BK8) hb); have n8_ := Aside0.mk (blk_below (kb_ BK3) hb); have n9_ := Aside0.mk (below_step (bl_ HB) hb); clear BK1 BK2 BK5 BK6 BK4 BK7 BK9 BK8 BK3 HB; have BK1 := n0_; have BK2 := n1_; have BK5 := n2_; have BK6 := n3_; have BK4 := n4_; have BK7 := n5_; have BK9 := n6_; have BK8 := n7_; have BK3 := n8_; have HB := n9_; clear n0_ n1_ n2_ n3_ n4_ n5_ n6_ n7_ n8_ n9_
 clear hb
 refine hK.out _ _ ⟨(blk_cell BK1.out 0).trans rfl, (blk_cell BK1.out 1).trans rfl, (blk_cell BK1.out 2).trans rfl, (blk_cell BK4.out 0).trans rfl, (blk_cell BK4.out 1).trans rfl, (blk_cell BK4.out 2).trans rfl⟩ (fun hHeld2 => ?_)
 clear hK K hHeld
 have hHeld := hHeld2
 clear hHeld2
 refine norm_ (a' := ?_) ?_ ?_
 rotate_left
 ·show Act.put _ (some 112) _ = _
  simp only [Act.put, List.setIfInBounds_toArray, List.set_cons_zero, List.set_cons_succ, i64_w, i32_w]
  rfl
 refine pq_ 14 113 (mb_ 60 32767) rfl ?_
 refine pq_ 15 114 (mb_ 60 65535) rfl ?_
 refine pq_ 16 115 (mb_ 60 131071) rfl ?_
 refine pq_ 17 116 (mb_ 60 262143) rfl ?_
 refine pq_ 18 117 (mb_ 60 524287) rfl ?_
 refine pq_ 19 118 (mb_ 60 1048575) rfl ?_
 refine pq_ 20 119 (mb_ 60 2097151) rfl ?_
 refine pq_ 21 120 (mb_ 60 4194303) rfl ?_
 refine pq_ 22 121 (mb_ 60 8388607) rfl ?_
 refine pq_ 23 122 (mb_ 60 16777215) rfl ?_
 refine pq_ 24 123 (mb_ 60 33554431) rfl ?_
 refine pq_ 25 124 (mb_ 60 67108863) rfl ?_
 refine pq_ 26 125 (mb_ 60 134217727) rfl ?_
 refine pq_ 27 126 (mb_ 60 268435455) rfl ?_
 refine pq_ 28 127 (mb_ 60 536870911) rfl ?_
 refine pq_ 29 128 (mb_ 60 1073741823) rfl ?_
 refine pq_ 30 129 (mb_ 60 2147483647) rfl ?_
 refine pq_ 31 130 (mb_ 60 4294967295) rfl ?_
 refine pq_ 32 131 (mb_ 60 8589934591) rfl ?_
 refine pq_ 33 132 (mb_ 60 17179869183) rfl ?_
 refine pq_ 34 133 (mb_ 60 34359738367) rfl ?_
 refine pq_ 35 134 (mb_ 60 68719476735) rfl ?_
 refine pq_ 36 135 (mb_ 60 137438953471) rfl ?_
 refine pq_ 37 136 (mb_ 60 274877906943) rfl ?_
 refine pq_ 38 137 (mb_ 60 549755813887) rfl ?_
 refine pq_ 39 138 (mb_ 60 1099511627775) rfl ?_
 refine pq_ 40 139 (mb_ 60 2199023255551) rfl ?_
 refine pq_ 41 140 (mb_ 60 4398046511103) rfl ?_
 refine pq_ 42 141 (mb_ 60 8796093022207) rfl ?_
 refine pq_ 43 142 (mb_ 60 17592186044415) rfl ?_
 refine pq_ 44 143 (mb_ 60 35184372088831) rfl ?_
 refine pq_ 45 144 (mb_ 60 70368744177663) rfl ?_
 refine pq_ 46 145 (mb_ 60 140737488355327) rfl ?_
 refine pq_ 47 146 (mb_ 60 281474976710655) rfl ?_
 refine pq_ 48 147 (mb_ 60 562949953421311) rfl ?_
 refine pq_ 49 148 (mb_ 60 1125899906842623) rfl ?_
 refine pq_ 50 149 (mb_ 60 2251799813685247) rfl ?_
 refine pq_ 51 150 (mb_ 60 4503599627370495) rfl ?_
 refine pq_ 52 151 (mb_ 60 9007199254740991) rfl ?_
 refine pq_ 53 152 (mb_ 60 18014398509481983) rfl ?_
 refine take_ (i := 54) (N := some 153) (v := ?_) (a' := ?_) (mb_ 60 36028797018963967) rfl rfl (by as_aux_lemma => kernel_rfl) (fun _ _ _ h => h) (Or.inl ⟨by rfl, ?_⟩) hHeld ?_ ?_
 rotate_left
 ·rintro w' ⟨s0, s1, s2, s3, s4, s5⟩
  go_simp
  with_reducible rfl
 rotate_left
 ·simp only [Act.put, List.setIfInBounds_toArray, List.set_cons_zero, List.set_cons_succ, i64_w, i32_w]
  rfl
 refine one_ (i := 55) (N := some 154) (mb_ 60 72057594037927935) rfl rfl (by as_aux_lemma => kernel_rfl) (by decide) (fun K hK => ?_)
 refine goes_ Try.func16 (by as_aux_lemma => kernel_rfl) rfl #[] (by rfl) rfl rfl (by (try simp only [List.map_toArray, List.map_cons, List.map_nil]); first | done | rfl) ?_
 refine (outlawlaw25_one.calls nBot 8 [nX0] _ rfl).mono ?_
 rintro e wm ⟨vj, rfl, hSj, hb⟩
 refine ⟨_, rfl, ?_⟩
 obtain ⟨Aj, cj, ej⟩ := Kd.S_slice hSj
 replace ej : vj = .slice Aj 1 cj := ej
 subst ej
 have HSj := Aside0.mk (Kd.S_reads' hSj)
 clear hSj
 have n0_ := Aside0.mk (blk_below (kb_ BK1) hb); have n1_ := Aside0.mk (blk_below (kb_ BK2) hb); have n2_ := Aside0.mk (blk_below (kb_ BK5) hb); have n3_ := Aside0.mk (blk_below (kb_ BK6) hb); have n4_ := Aside0.mk (blk_below (kb_ BK4) hb); have n5_ := Aside0.mk (blk_below (kb_ BK7) hb); have n6_ := Aside0.mk (blk_below (kb_ BK9) hb); have n7_ := Aside0.mk (blk_below (kb_ BK8) hb); have n8_ := Aside0.mk (blk_below (kb_ BK3) hb); have n9_ := Aside0.mk (below_step (bl_ HB) hb); clear BK1 BK2 BK5 BK6 BK4 BK7 BK9 BK8 BK3 HB; have BK1 := n0_; have BK2 := n1_; have BK5 := n2_; have BK6 := n3_; have BK4 := n4_; have BK7 := n5_; have BK9 := n6_; have BK8 := n7_; have BK3 := n8_; have HB := n9_; clear n0_ n1_ n2_ n3_ n4_ n5_ n6_ n7_ n8_ n9_
 clear hb
 refine hK.out _ _ ⟨(blk_cell BK1.out 0).trans rfl, (blk_cell BK1.out 1).trans rfl, (blk_cell BK1.out 2).trans rfl, (blk_cell BK4.out 0).trans rfl, (blk_cell BK4.out 1).trans rfl, (blk_cell BK4.out 2).trans rfl⟩ (fun hHeld2 => ?_)
 clear hK K hHeld
 have hHeld := hHeld2
 clear hHeld2
 refine norm_ (a' := ?_) ?_ ?_
 rotate_left
 ·show Act.put _ (some 154) _ = _
  simp only [Act.put, List.setIfInBounds_toArray, List.set_cons_zero, List.set_cons_succ, i64_w, i32_w]
  rfl
 refine one_ (i := 56) (N := some 155) (mb_ 60 144115188075855871) rfl rfl (by as_aux_lemma => kernel_rfl) (by decide) (fun K hK => ?_)
 refine goes_ Try.func13 (by as_aux_lemma => kernel_rfl) rfl #[.agg #[.string nBot, .int .i64 8, .slice (some ⟨g2, 0, none⟩) 2 c2], .agg #[.string nBot, .int .i64 8, .slice Aj 1 cj]] (by rfl) rfl rfl (by (try simp only [List.map_toArray, List.map_cons, List.map_nil]); first | done | rfl) ?_
 refine (script_Same.calls nBot 8 (some ⟨g2, 0, none⟩) c2 [nX0, nX1] nBot 8 Aj cj [nX0] false _ (two_C (kb_ BK2) (kb_ BK3) HT2.out HE0.out HE1.out) HC2.out HSj.out.2.2 HSj.out.2.1 hS2).mono ?_
 rintro e wm ⟨rfl, hb⟩
 refine ⟨_, rfl, ?_⟩
 skip
 have n0_ := Aside0.mk (blk_below (kb_ BK1) hb); have n1_ := Aside0.mk (blk_below (kb_ BK2) hb); have n2_ := Aside0.mk (blk_below (kb_ BK5) hb); have n3_ := Aside0.mk (blk_below (kb_ BK6) hb); have n4_ := Aside0.mk (blk_below (kb_ BK4) hb); have n5_ := Aside0.mk (blk_below (kb_ BK7) hb); have n6_ := Aside0.mk (blk_below (kb_ BK9) hb); have n7_ := Aside0.mk (blk_below (kb_ BK8) hb); have n8_ := Aside0.mk (blk_below (kb_ BK3) hb); have n9_ := Aside0.mk (below_step (bl_ HB) hb); clear BK1 BK2 BK5 BK6 BK4 BK7 BK9 BK8 BK3 HB; have BK1 := n0_; have BK2 := n1_; have BK5 := n2_; have BK6 := n3_; have BK4 := n4_; have BK7 := n5_; have BK9 := n6_; have BK8 := n7_; have BK3 := n8_; have HB := n9_; clear n0_ n1_ n2_ n3_ n4_ n5_ n6_ n7_ n8_ n9_
 clear hb
 refine hK.out _ _ ⟨(blk_cell BK1.out 0).trans rfl, (blk_cell BK1.out 1).trans rfl, (blk_cell BK1.out 2).trans rfl, (blk_cell BK4.out 0).trans rfl, (blk_cell BK4.out 1).trans rfl, (blk_cell BK4.out 2).trans rfl⟩ (fun hHeld2 => ?_)
 clear hK K hHeld
 have hHeld := hHeld2
 clear hHeld2
 refine norm_ (a' := ?_) ?_ ?_
 rotate_left
 ·show Act.put _ (some 155) _ = _
  simp only [Act.put, List.setIfInBounds_toArray, List.set_cons_zero, List.set_cons_succ, i64_w, i32_w]
  rfl
 refine pq_ 57 156 (mb_ 60 288230376151711743) rfl ?_
 refine pq_ 58 157 (mb_ 60 576460752303423487) rfl ?_
 refine pq_ 59 0 (mb_ 60 1152921504606846975) rfl ?_
 refine done_ (by as_aux_lemma => kernel_rfl) ?_
 go_wp2_with fail
 go_ret
 exact ⟨rfl, bl_ HB⟩

end Go.Proofs.YtfgibjkgiolonaaS
