/- The contract of the law's first examples (lives): it says yes. -/
import Derived.Test.YthienjmkagediaaN1
import Derived.Deep.DeepCutAuto
set_option linter.unusedVariables false
set_option linter.unusedSimpArgs false
namespace Go.Proofs.YthienjmkagediaaM
open Go.RowKit
attribute [local go_sem ↓] exec_conv exec_same Go.wp_at_zero Go.wp_at_succ
attribute [local go_sem] via_same via_same_drew
set_option maxRecDepth 100000 in
set_option maxHeartbeats 6400000 in
theorem lives_yes (w : World) : Calls Try.prog 8 #[] w fun e w' => e = .returned (.bool true) ∧ Below w.heap.size w w' := by
  go_enter Try.func8, Try.ntmps8
  go_upto_region 2 with (go_at_call 10; ((with_reducible refine (new_1 _).mono ?_); rintro e w1 ⟨rfl, hd1, hb1⟩; have HD1 := Lib.hid (And.intro hd1 hb1); clear hd1 hb1))
  have hz1 : (bs (zeros 511)).size = 511 := by rw [bs_size, zeros_length]
  have hz2 : (bs (zeros 510)).size = 510 := by rw [bs_size, zeros_length]
  go_cut [33] (fun s wx => s = .bool false ∧ ∃ v, Hid (DiskAt wx w.heap.size (w.heap.size + 1) w.heap.size 1 v (97 :: zeros 511) [] ∧ Below w.heap.size w wx))
  case first =>
    have hc1 := Lib.hid (show BytesAt (w1.alloc (.cells #[.int .u8 97, .int .u8 98] 5 (2, 3))).drew (.slice (some ⟨w1.heap.size, 0, none⟩) 2 2) ab from bytesAt_marked w1 ab (2, 3))
    have g1 := cat_1
    go_region_with (first
      | (go_at_call 11; refine (write_0 _ _ _ _ _ _ _ _ (HD1.out.1.alloc _).drew _ ab hc1.out (by decide) (by decide)).mono ?_; rintro e w2 ⟨rfl, ⟨v2, hd2, _⟩, he2⟩; have HD2 := Lib.hid (And.intro hd2 ((HD1.out.2.alloc HD1.out.1.base _).drew.trans ((HD1.out.1.alloc _).drew.step he2))); clear hd2 he2)
      | (go_at_call 16; refine (crash_new _ _ _ _ _ _ _ _ HD2.out.1 [1] (by decide)).mono ?_; rintro e w3 ⟨rfl, ⟨v3, hd3, _⟩, he3⟩; rw [lives_1] at hd3; have HD3 := Lib.hid (And.intro hd3 ((HD2.out.2.alloc HD2.out.1.base _).trans ((HD2.out.1.alloc _).step he3))); clear hd3 he3)
      | (go_at_call 18; refine (durable_ok _ _ _ _ _ _ _ _ HD3.out.1).mono ?_; rintro e w4 ⟨v4, rfl, hown4, hb4⟩; have hcv4 := conv_own hown4; have HD4 := Lib.hid (And.intro hown4 hb4); clear hown4 hb4)
      | (go_at_call 21; refine (times_511 _).mono ?_; rintro e w5 ⟨rfl, hb5⟩; have hcv5 := conv_own (own_below HD4.out.1 hb5); have HD5 := Lib.hid (And.intro ((HD3.out.1.new HD4.out.2).new hb5) (HD3.out.2.trans ((HD4.out.2.mono HD3.out.1.base).trans (hb5.mono (HD3.out.1.new HD4.out.2).base)))); clear hb5))
    all_goals
      go_wp2_with fail
      go_meet
      exact ⟨by simp, v3, HD5⟩
  case rest =>
    obtain ⟨rfl, v5, HD5⟩ := hcut
    have g2 := cat_2
    go_wp2_with fail
    refine (write_0 _ _ _ _ _ _ _ _ (HD5.out.1.alloc _) _ ab (bytesAt_marked wc ab (2, 3)) (by decide) (by decide)).mono ?_
    rintro e w6 ⟨rfl, ⟨v6, hd6, _⟩, he6⟩
    have HD6 := Lib.hid (And.intro hd6 ((HD5.out.2.alloc HD5.out.1.base _).trans ((HD5.out.1.alloc _).step he6)))
    clear hd6 he6
    go_wp2_with fail
    refine (sync_ok _ _ _ _ _ _ _ _ HD6.out.1).mono ?_
    rintro e w7 ⟨rfl, ⟨v7, hd7, _⟩, he7⟩
    rw [lives_2] at hd7
    have HD7 := Lib.hid (And.intro hd7 (HD6.out.2.trans (HD6.out.1.step he7)))
    clear hd7 he7
    go_wp2_with fail
    refine (write_0 _ _ _ _ _ _ _ _ (HD7.out.1.alloc _) _ cd (bytesAt_marked w7 cd (2, 3)) (by decide) (by decide)).mono ?_
    rintro e w8 ⟨rfl, ⟨v8, hd8, _⟩, he8⟩
    have HD8 := Lib.hid (And.intro hd8 ((HD7.out.2.alloc HD7.out.1.base _).trans ((HD7.out.1.alloc _).step he8)))
    clear hd8 he8
    go_wp2_with fail
    refine (crash_none _ _ _ _ _ _ _ _ HD8.out.1).mono ?_
    rintro e w9 ⟨rfl, ⟨v9, hd9, _⟩, he9⟩
    rw [lives_3 _ rfl] at hd9
    have HD9 := Lib.hid (And.intro hd9 (HD8.out.2.trans (HD8.out.1.step he9)))
    clear hd9 he9
    go_wp2_with fail
    go_region_with (first
      | (go_at_call 18; refine (durable_ok _ _ _ _ _ _ _ _ HD9.out.1.drew).mono ?_; rintro e wa ⟨va, rfl, howna, hba⟩; have hcva := conv_own howna; have HDa := Lib.hid (And.intro howna (HD9.out.2.drew.trans (hba.mono HD9.out.1.drew.base))); clear howna hba)
      | (go_at_call 21; refine (times_510 _).mono ?_; rintro e wb ⟨rfl, hbb⟩; have hcvb := conv_own (own_below HDa.out.1 hbb); have HDb := Lib.hid (HDa.out.2.trans (hbb.mono (by have := HDa.out.2.size; omega))); clear hbb))
    all_goals
      go_wp2
      go_ret
      exact ⟨rfl, HDb.out⟩
end Go.Proofs.YthienjmkagediaaM
