/- The law WalCrash, walked: it says yes. -/
import Derived.Test.YtbbnjnpbaekfgaaEy
set_option linter.unusedVariables false
set_option linter.unusedSimpArgs false
namespace Go.Proofs.YtbbnjnpbaekfgaaM
open Go.RowKit
set_option maxRecDepth 100000 in
set_option maxHeartbeats 8000000 in
theorem walCrash_walk (a0 : Option Addr) (l : List ActD) (c0 : Nat) (w : World) (h0 : ActsAt w a0 l) (hnil : a0 = none → c0 = 0) (l0 : l.length ≤ 140737488351232) :
    Calls Try.prog 7 #[.slice a0 l.length c0] w fun e w' => e = .returned (.bool true) ∧ Below w.heap.size w w' := by
  have H := Lib.hid h0
  clear h0
  go_enter Try.func7, Try.ntmps7
  go_wp2_with fail
  refine (lives_ok _).mono ?_
  rintro e w1 ⟨rfl, hb1⟩
  have HB1 := Lib.hid hb1
  clear hb1
  go_wp2_with fail
  refine (light_acts _ _ _ _ (H.out.below HB1.out (Nat.le_refl _)) l0).mono ?_
  rintro e w2 ⟨b, rfl, hlit, hb2⟩
  have HB2 := Lib.hid (HB1.out.trans (hb2.mono HB1.out.size))
  clear hb2
  cases b with
  | false =>
    go_wp2_with fail
    go_ret
    exact ⟨rfl, HB2.out⟩
  | true =>
    have HLT := Lib.hid (hlit rfl)
    have hs2 := HB2.out.size
    clear hlit
    go_wp2_with fail
    refine (new_40 _).mono ?_
    rintro e w3 ⟨rfl, hd3, hb3⟩
    have HB3 := Lib.hid (HB2.out.trans (hb3.mono HB2.out.size))
    have HD3 := Lib.hid hd3
    clear hd3 hb3
    go_wp2_with fail
    refine (open_new _ _ _ _ _ _ HD3.out).mono ?_
    rintro e w4 ⟨rfl, ⟨vr4, v4, hl4, _, _⟩, he4⟩
    have HB4 := Lib.hid (HB3.out.trans ((HD3.out.step he4).mono hs2))
    have HL4 := Lib.hid hl4
    clear hl4 he4
    go_wp2_with fail
    go_loopw [5, 6, 7, 8, 9] (fun xv ev av sv iv wr => ∃ (k q : Nat) (v vr : Value) (D : List UInt8) (P : List (Nat × List UInt8)) (R : List (List UInt8)) (s : Nat), k ≤ l.length ∧ iv = .int .i64 (k : Int) ∧ xv = .pointer (some ⟨q, 0, none⟩) ∧ ev = .int .i64 0 ∧ sv = .int .i64 (s : Int) ∧
      Hid (LogGood wr w2.heap.size q (w2.heap.size + 1) w2.heap.size 40 v vr D P R s) ∧ Hid (wr.ownsRow w2.heap.size 9 1 av R.length (strs R)) ∧ Hid (∀ b, av.ownBlock = some b → ¬ LOwn q (w2.heap.size + 1) w2.heap.size v vr b) ∧ Hid (Below w.heap.size w wr)) (fun _ _ _ _ iv _ => l.length - (intOf iv).toNat)
    case atStart => exact ⟨0, _, _, _, _, _, _, _, Nat.zero_le _, rfl, rfl, rfl, rfl, HL4.out, World.ownsRow_nil _ _ _ _, (fun b hb => absurd hb (by simp [Value.ownBlock])), HB4.out⟩
    case round =>
      obtain ⟨k, q, v, vr, D, P, R, s, hk, rfl, rfl, rfl, rfl, HL, HO, HN, HW⟩ := hrel
      have hRf : R.length ≤ 1000000 := by have := HL.out.few; omega
      have HFx := Lib.hid hRf
      clear hRf
      obtain ⟨wi, rfl⟩ : ∃ wi, wi = wr := ⟨wr, rfl⟩
      by_cases hlt : k < l.length
      · obtain ⟨bl, of, rfl, hbl, hc⟩ := H.out (by omega)
        obtain ⟨kd, hkd⟩ : ∃ kd, kd = l[k].kind := ⟨_, rfl⟩
        have hk' : (k : Int) < (l.length : Int) := by omega
        have hk0 : (0 : Int) ≤ (k : Int) := by omega
        have hck : wi.cell? ⟨bl, of + k * 3, none⟩ = some (.int .i64 kd) := (HW.out.cell (p := ⟨bl, of + k * 3, none⟩) hbl).trans ((hc k hlt).1.trans (by rw [hkd]))
        clear hkd
        obtain ⟨pn, hpn⟩ : ∃ pn, pn = pickN kd 4 := ⟨_, rfl⟩
        have hp4 := pickN_lt kd (m := 4) (by decide)
        have hav := len_of_own HO.out
        obtain ⟨aa, ac, rfl⟩ := hav
        go_wp2_with fail
        refine (pick_4 kd _).mono ?_
        rw [← hpn] at hp4 ⊢
        rintro e w5 ⟨rfl, hb5⟩
        have HB5 := Lib.hid (HW.out.trans (hb5.mono HW.out.size))
        have HL5 := Lib.hid (HL.out.new hb5)
        have HO5 := Lib.hid (own_below HO.out hb5)
        clear hb5 hpn hck
        have hpc : pn = 0 ∨ pn = 1 ∨ pn = 2 ∨ pn = 3 := by omega
        clear hp4
        rcases hpc with rfl | rfl | rfl | rfl
        · obtain ⟨r, hr⟩ : ∃ r, l[k].b = bs r := ⟨_, (bs_data _).symm⟩
          have hcb : ∀ w' : World, Below w.heap.size w w' → w'.cell? ⟨bl, of + k * 3 + 1, none⟩ = some (.string (bs r)) := fun w' hb => (hb.cell (p := ⟨bl, of + k * 3 + 1, none⟩) hbl).trans ((hc k hlt).2.1.trans (by rw [hr]))
          have HCB := Lib.hid hcb
          have hb5 := hcb _ HB5.out
          clear hcb hc hr
          have hsz : (bs r).size = r.length := bs_size r
          by_cases hlong : r.length ≤ 4400
          · by_cases hfit : spanN R + needN r.length ≤ 40
            · go_wp2_with fail
              refine (good_append _ _ _ _ _ _ _ _ _ _ _ _ HL5.out r hlong hfit).mono ?_
              rintro e w6 ⟨rfl, ⟨v6, vr6, hl6, hf6, hg6⟩, he6⟩
              have HB6 := Lib.hid (HB5.out.trans ((HL5.out.step he6).mono hs2))
              have HL6 := Lib.hid hl6
              have HO6 := Lib.hid (ownsRow_kept HO5.out he6 HN.out)
              have HN6 := Lib.hid (far_fresh HL5.out.l HO5.out HN.out hf6 hg6)
              have hb6 := HCB.out _ HB6.out
              have hRs := HFx.out
              clear hl6 he6 hf6 hg6 hb5
              obtain ⟨i9, hi0, hz0, hz1, hz2⟩ := info_parts info9
              have HI := Lib.hid (And.intro hi0 (And.intro hz0 (And.intro hz1 hz2)))
              clear hi0 hz0 hz1 hz2
              have HN1 := Lib.hid (show ∀ j u, ([.string (bs r)] : List Value)[j]? = some u → (w6.alloc (.cells [Value.string (bs r)].toArray 9)).cell? ((⟨w6.heap.size, 0, none⟩ : Addr).add j) = some u from cell_one_new _ _ _)
              go_wp2_with (at_builtin; (refine wpList_append_lies _ rfl _ _ 34 rfl w2.heap.size 9 i9 (.string ⟨#[]⟩) 1 16 Try.underlying34 HI.out.1 HI.out.2.1 HI.out.2.2.1 HI.out.2.2.2 rfl (by decide) (.slice aa R.length ac) R.length (strs R) rfl (HO6.out.alloc _) ⟨w6.heap.size, 0, none⟩ 1 1 [.string (bs r)] rfl rfl HN1.out (by intro u hu; rw [List.mem_singleton.1 hu]; rfl) (by omega) (by unfold maxLen; omega) (by omega) (by have := HL6.out.l.base; simp; omega) (w6.heap.size + 1) (by simp) ?_; intro gg cc wx hown hgrow hat1 hlt1))
              obtain ⟨R', hR'⟩ : ∃ R', R' = R ++ [r] := ⟨_, rfl⟩
              have hRl : R'.length = R.length + 1 := by rw [hR']; simp
              have HRl := Lib.hid hRl
              have hE : Elses (fun q => (Value.slice aa R.length ac).ownBlock = some q) w6 wx := ((Elses.refl _ w6).alloc _).grown hgrow fun q hq => .inl hq
              have HLx := Lib.hid (show LogGood wx w2.heap.size q (w2.heap.size + 1) w2.heap.size 40 v6 vr6 D (P ++ fwL (spanN R) r) R' s from by
                rw [hR']
                exact ⟨HL6.out.l.kept hE fun b hb e => HN6.out b e hb, HL6.out.g⟩)
              have HOx := Lib.hid (show wx.ownsRow w2.heap.size 9 1 (.slice (some ⟨gg, 0, none⟩) (R.length + 1) cc) R'.length (strs R') from by
                rw [hRl, hR', strs_append]
                exact hown)
              have HNx := Lib.hid (show ∀ b, (Value.slice (some ⟨gg, 0, none⟩) (R.length + 1) cc).ownBlock = some b → ¬ LOwn q (w2.heap.size + 1) w2.heap.size v6 vr6 b from fun b hb => by
                simp only [Value.ownBlock, Option.some.injEq] at hb
                subst hb
                rcases hat1 with e1 | e1
                · exact HN6.out _ e1
                · intro hk
                  have h1 := (HL6.out.l.lt _ hk).2
                  omega)
              have HBx := Lib.hid (show Below w.heap.size w wx from HB6.out.trans ((hE.below (n := w2.heap.size) HL6.out.l.base fun i hi => (HO6.out.lt i hi).1).mono hs2))
              have hFx2 : R'.length ≤ 1000000 := by have := HLx.out.few; omega
              have HFx := Lib.hid hFx2
              clear hown hgrow hat1 hlt1 hE hR' hFx2 hRs hb6 hRl
              go_wp2_with fail
              refine (lrecords_ok _ _ _ _ _ _ _ _ _ _ _ _ _ HLx.out.l).mono ?_
              rintro e wt ⟨rv, rfl, hrow, hbt⟩
              have HTT := Lib.hid (Texts.own hrow)
              have HLt := Lib.hid (HLx.out.new hbt)
              have HOt := Lib.hid (own_below HOx.out hbt)
              have HBt := Lib.hid (HBx.out.trans (hbt.mono HBx.out.size))
              obtain ⟨ra, rc, rfl⟩ := len_of_own hrow
              clear hrow hbt
              go_wp2_with fail
              refine (same_ok _ _ R' R' _ HTT.out (Texts.own HOt.out) HFx.out HFx.out).mono ?_
              rintro e wu ⟨rfl, hbu⟩
              have HLu := Lib.hid (HLt.out.new hbu)
              have HOu := Lib.hid (own_below HOt.out hbu)
              have HBu := Lib.hid (HBt.out.trans (hbu.mono HBt.out.size))
              rw [decide_eq_true (rfl : R' = R')]
              clear hbu
              go_wp2_with fail
              refine (lsynced_ok _ _ _ _ _ _ HLu.out.blk).mono ?_
              rintro e wz ⟨rfl, rfl⟩
              go_wp2_with fail
              go_roundw
              case rel => exact ⟨k + 1, _, _, _, _, _, _, _, by omega, by go_num, rfl, rfl, rfl, HLu.out, HOu.out, HNx.out, HBu.out⟩
              case measure => simp [intOf]; omega

            · go_wp2_with fail
              refine (lappend_full _ _ _ _ _ _ _ _ _ _ _ _ _ HL5.out.l r hlong (by omega)).mono ?_
              rintro e w6 ⟨rfl, hb6⟩
              have HBx := Lib.hid (HB5.out.trans (hb6.mono HB5.out.size))
              have HLx := Lib.hid (HL5.out.new hb6)
              have HOx := Lib.hid (own_below HO5.out hb6)
              have HNx := HN
              clear hb6 hb5
              go_wp2_with fail
              refine (lrecords_ok _ _ _ _ _ _ _ _ _ _ _ _ _ HLx.out.l).mono ?_
              rintro e wt ⟨rv, rfl, hrow, hbt⟩
              have HTT := Lib.hid (Texts.own hrow)
              have HLt := Lib.hid (HLx.out.new hbt)
              have HOt := Lib.hid (own_below HOx.out hbt)
              have HBt := Lib.hid (HBx.out.trans (hbt.mono HBx.out.size))
              obtain ⟨ra, rc, rfl⟩ := len_of_own hrow
              clear hrow hbt
              go_wp2_with fail
              refine (same_ok _ _ R R _ HTT.out (Texts.own HOt.out) HFx.out HFx.out).mono ?_
              rintro e wu ⟨rfl, hbu⟩
              have HLu := Lib.hid (HLt.out.new hbu)
              have HOu := Lib.hid (own_below HOt.out hbu)
              have HBu := Lib.hid (HBt.out.trans (hbu.mono HBt.out.size))
              rw [decide_eq_true (rfl : R = R)]
              clear hbu
              go_wp2_with fail
              refine (lsynced_ok _ _ _ _ _ _ HLu.out.blk).mono ?_
              rintro e wz ⟨rfl, rfl⟩
              go_wp2_with fail
              go_roundw
              case rel => exact ⟨k + 1, _, _, _, _, _, _, _, by omega, by go_num, rfl, rfl, rfl, HLu.out, HOu.out, HNx.out, HBu.out⟩
              case measure => simp [intOf]; omega
          · go_wp2_with fail
            refine (lappend_long _ _ _ _ _ _ HL5.out.blk (bs r) (by omega)).mono ?_
            rintro e w6 ⟨rfl, rfl⟩
            have HBx := HB5
            have HLx := HL5
            have HOx := HO5
            have HNx := HN
            clear hb5
            go_wp2_with fail
            refine (lrecords_ok _ _ _ _ _ _ _ _ _ _ _ _ _ HLx.out.l).mono ?_
            rintro e wt ⟨rv, rfl, hrow, hbt⟩
            have HTT := Lib.hid (Texts.own hrow)
            have HLt := Lib.hid (HLx.out.new hbt)
            have HOt := Lib.hid (own_below HOx.out hbt)
            have HBt := Lib.hid (HBx.out.trans (hbt.mono HBx.out.size))
            obtain ⟨ra, rc, rfl⟩ := len_of_own hrow
            clear hrow hbt
            go_wp2_with fail
            refine (same_ok _ _ R R _ HTT.out (Texts.own HOt.out) HFx.out HFx.out).mono ?_
            rintro e wu ⟨rfl, hbu⟩
            have HLu := Lib.hid (HLt.out.new hbu)
            have HOu := Lib.hid (own_below HOt.out hbu)
            have HBu := Lib.hid (HBt.out.trans (hbu.mono HBt.out.size))
            rw [decide_eq_true (rfl : R = R)]
            clear hbu
            go_wp2_with fail
            refine (lsynced_ok _ _ _ _ _ _ HLu.out.blk).mono ?_
            rintro e wz ⟨rfl, rfl⟩
            go_wp2_with fail
            go_roundw
            case rel => exact ⟨k + 1, _, _, _, _, _, _, _, by omega, by go_num, rfl, rfl, rfl, HLu.out, HOu.out, HNx.out, HBu.out⟩
            case measure => simp [intOf]; omega
        · obtain ⟨r, hr⟩ : ∃ r, l[k].b = bs r := ⟨_, (bs_data _).symm⟩
          have hcb : ∀ w' : World, Below w.heap.size w w' → w'.cell? ⟨bl, of + k * 3 + 1, none⟩ = some (.string (bs r)) := fun w' hb => (hb.cell (p := ⟨bl, of + k * 3 + 1, none⟩) hbl).trans ((hc k hlt).2.1.trans (by rw [hr]))
          have HCB := Lib.hid hcb
          have hb5 := hcb _ HB5.out
          clear hcb hc hr
          have hsz : (bs r).size = r.length := bs_size r
          by_cases hlong : r.length ≤ 4400
          · by_cases hfit : spanN R + needN r.length ≤ 40
            · go_wp2_with fail
              refine (good_append _ _ _ _ _ _ _ _ _ _ _ _ HL5.out r hlong hfit).mono ?_
              rintro e w6 ⟨rfl, ⟨v6, vr6, hl6, hf6, hg6⟩, he6⟩
              have HB6 := Lib.hid (HB5.out.trans ((HL5.out.step he6).mono hs2))
              have HL6 := Lib.hid hl6
              have HO6 := Lib.hid (ownsRow_kept HO5.out he6 HN.out)
              have HN6 := Lib.hid (far_fresh HL5.out.l HO5.out HN.out hf6 hg6)
              have hb6 := HCB.out _ HB6.out
              have hRs := HFx.out
              clear hl6 he6 hf6 hg6 hb5
              obtain ⟨i9, hi0, hz0, hz1, hz2⟩ := info_parts info9
              have HI := Lib.hid (And.intro hi0 (And.intro hz0 (And.intro hz1 hz2)))
              clear hi0 hz0 hz1 hz2
              have HN1 := Lib.hid (show ∀ j u, ([.string (bs r)] : List Value)[j]? = some u → (w6.alloc (.cells [Value.string (bs r)].toArray 9)).cell? ((⟨w6.heap.size, 0, none⟩ : Addr).add j) = some u from cell_one_new _ _ _)
              go_wp2_with (at_builtin; (refine wpList_append_lies _ rfl _ _ 34 rfl w2.heap.size 9 i9 (.string ⟨#[]⟩) 1 16 Try.underlying34 HI.out.1 HI.out.2.1 HI.out.2.2.1 HI.out.2.2.2 rfl (by decide) (.slice aa R.length ac) R.length (strs R) rfl (HO6.out.alloc _) ⟨w6.heap.size, 0, none⟩ 1 1 [.string (bs r)] rfl rfl HN1.out (by intro u hu; rw [List.mem_singleton.1 hu]; rfl) (by omega) (by unfold maxLen; omega) (by omega) (by have := HL6.out.l.base; simp; omega) (w6.heap.size + 1) (by simp) ?_; intro gg cc wx hown hgrow hat1 hlt1))
              obtain ⟨R', hR'⟩ : ∃ R', R' = R ++ [r] := ⟨_, rfl⟩
              have hRl : R'.length = R.length + 1 := by rw [hR']; simp
              have HRl := Lib.hid hRl
              have hE : Elses (fun q => (Value.slice aa R.length ac).ownBlock = some q) w6 wx := ((Elses.refl _ w6).alloc _).grown hgrow fun q hq => .inl hq
              have HLx := Lib.hid (show LogGood wx w2.heap.size q (w2.heap.size + 1) w2.heap.size 40 v6 vr6 D (P ++ fwL (spanN R) r) R' s from by
                rw [hR']
                exact ⟨HL6.out.l.kept hE fun b hb e => HN6.out b e hb, HL6.out.g⟩)
              have HOx := Lib.hid (show wx.ownsRow w2.heap.size 9 1 (.slice (some ⟨gg, 0, none⟩) (R.length + 1) cc) R'.length (strs R') from by
                rw [hRl, hR', strs_append]
                exact hown)
              have HNx := Lib.hid (show ∀ b, (Value.slice (some ⟨gg, 0, none⟩) (R.length + 1) cc).ownBlock = some b → ¬ LOwn q (w2.heap.size + 1) w2.heap.size v6 vr6 b from fun b hb => by
                simp only [Value.ownBlock, Option.some.injEq] at hb
                subst hb
                rcases hat1 with e1 | e1
                · exact HN6.out _ e1
                · intro hk
                  have h1 := (HL6.out.l.lt _ hk).2
                  omega)
              have HBx := Lib.hid (show Below w.heap.size w wx from HB6.out.trans ((hE.below (n := w2.heap.size) HL6.out.l.base fun i hi => (HO6.out.lt i hi).1).mono hs2))
              have hFx2 : R'.length ≤ 1000000 := by have := HLx.out.few; omega
              have HFx := Lib.hid hFx2
              clear hown hgrow hat1 hlt1 hE hR' hFx2 hRs hb6 hRl
              go_wp2_with fail
              refine (lrecords_ok _ _ _ _ _ _ _ _ _ _ _ _ _ HLx.out.l).mono ?_
              rintro e wt ⟨rv, rfl, hrow, hbt⟩
              have HTT := Lib.hid (Texts.own hrow)
              have HLt := Lib.hid (HLx.out.new hbt)
              have HOt := Lib.hid (own_below HOx.out hbt)
              have HBt := Lib.hid (HBx.out.trans (hbt.mono HBx.out.size))
              obtain ⟨ra, rc, rfl⟩ := len_of_own hrow
              clear hrow hbt
              go_wp2_with fail
              refine (same_ok _ _ R' R' _ HTT.out (Texts.own HOt.out) HFx.out HFx.out).mono ?_
              rintro e wu ⟨rfl, hbu⟩
              have HLu := Lib.hid (HLt.out.new hbu)
              have HOu := Lib.hid (own_below HOt.out hbu)
              have HBu := Lib.hid (HBt.out.trans (hbu.mono HBt.out.size))
              rw [decide_eq_true (rfl : R' = R')]
              clear hbu
              go_wp2_with fail
              refine (lsynced_ok _ _ _ _ _ _ HLu.out.blk).mono ?_
              rintro e wz ⟨rfl, rfl⟩
              go_wp2_with fail
              go_roundw
              case rel => exact ⟨k + 1, _, _, _, _, _, _, _, by omega, by go_num, rfl, rfl, rfl, HLu.out, HOu.out, HNx.out, HBu.out⟩
              case measure => simp [intOf]; omega

            · go_wp2_with fail
              refine (lappend_full _ _ _ _ _ _ _ _ _ _ _ _ _ HL5.out.l r hlong (by omega)).mono ?_
              rintro e w6 ⟨rfl, hb6⟩
              have HBx := Lib.hid (HB5.out.trans (hb6.mono HB5.out.size))
              have HLx := Lib.hid (HL5.out.new hb6)
              have HOx := Lib.hid (own_below HO5.out hb6)
              have HNx := HN
              clear hb6 hb5
              go_wp2_with fail
              refine (lrecords_ok _ _ _ _ _ _ _ _ _ _ _ _ _ HLx.out.l).mono ?_
              rintro e wt ⟨rv, rfl, hrow, hbt⟩
              have HTT := Lib.hid (Texts.own hrow)
              have HLt := Lib.hid (HLx.out.new hbt)
              have HOt := Lib.hid (own_below HOx.out hbt)
              have HBt := Lib.hid (HBx.out.trans (hbt.mono HBx.out.size))
              obtain ⟨ra, rc, rfl⟩ := len_of_own hrow
              clear hrow hbt
              go_wp2_with fail
              refine (same_ok _ _ R R _ HTT.out (Texts.own HOt.out) HFx.out HFx.out).mono ?_
              rintro e wu ⟨rfl, hbu⟩
              have HLu := Lib.hid (HLt.out.new hbu)
              have HOu := Lib.hid (own_below HOt.out hbu)
              have HBu := Lib.hid (HBt.out.trans (hbu.mono HBt.out.size))
              rw [decide_eq_true (rfl : R = R)]
              clear hbu
              go_wp2_with fail
              refine (lsynced_ok _ _ _ _ _ _ HLu.out.blk).mono ?_
              rintro e wz ⟨rfl, rfl⟩
              go_wp2_with fail
              go_roundw
              case rel => exact ⟨k + 1, _, _, _, _, _, _, _, by omega, by go_num, rfl, rfl, rfl, HLu.out, HOu.out, HNx.out, HBu.out⟩
              case measure => simp [intOf]; omega
          · go_wp2_with fail
            refine (lappend_long _ _ _ _ _ _ HL5.out.blk (bs r) (by omega)).mono ?_
            rintro e w6 ⟨rfl, rfl⟩
            have HBx := HB5
            have HLx := HL5
            have HOx := HO5
            have HNx := HN
            clear hb5
            go_wp2_with fail
            refine (lrecords_ok _ _ _ _ _ _ _ _ _ _ _ _ _ HLx.out.l).mono ?_
            rintro e wt ⟨rv, rfl, hrow, hbt⟩
            have HTT := Lib.hid (Texts.own hrow)
            have HLt := Lib.hid (HLx.out.new hbt)
            have HOt := Lib.hid (own_below HOx.out hbt)
            have HBt := Lib.hid (HBx.out.trans (hbt.mono HBx.out.size))
            obtain ⟨ra, rc, rfl⟩ := len_of_own hrow
            clear hrow hbt
            go_wp2_with fail
            refine (same_ok _ _ R R _ HTT.out (Texts.own HOt.out) HFx.out HFx.out).mono ?_
            rintro e wu ⟨rfl, hbu⟩
            have HLu := Lib.hid (HLt.out.new hbu)
            have HOu := Lib.hid (own_below HOt.out hbu)
            have HBu := Lib.hid (HBt.out.trans (hbu.mono HBt.out.size))
            rw [decide_eq_true (rfl : R = R)]
            clear hbu
            go_wp2_with fail
            refine (lsynced_ok _ _ _ _ _ _ HLu.out.blk).mono ?_
            rintro e wz ⟨rfl, rfl⟩
            go_wp2_with fail
            go_roundw
            case rel => exact ⟨k + 1, _, _, _, _, _, _, _, by omega, by go_num, rfl, rfl, rfl, HLu.out, HOu.out, HNx.out, HBu.out⟩
            case measure => simp [intOf]; omega
        · go_wp2_with fail
          refine (good_sync _ _ _ _ _ _ _ _ _ _ _ _ HL5.out).mono ?_
          rintro e w6 ⟨rfl, ⟨v6, hl6, hf6⟩, he6⟩
          have HBx := Lib.hid (HB5.out.trans ((HL5.out.step he6).mono hs2))
          have HLx := Lib.hid hl6
          have HOx := Lib.hid (ownsRow_kept HO5.out he6 HN.out)
          have HNx := Lib.hid (far_fresh HL5.out.l HO5.out HN.out (.inl hf6) (Fresh.refl _ _))
          clear hl6 he6 hf6 hc
          go_wp2_with fail
          refine (lrecords_ok _ _ _ _ _ _ _ _ _ _ _ _ _ HLx.out.l).mono ?_
          rintro e wt ⟨rv, rfl, hrow, hbt⟩
          have HTT := Lib.hid (Texts.own hrow)
          have HLt := Lib.hid (HLx.out.new hbt)
          have HOt := Lib.hid (own_below HOx.out hbt)
          have HBt := Lib.hid (HBx.out.trans (hbt.mono HBx.out.size))
          obtain ⟨ra, rc, rfl⟩ := len_of_own hrow
          clear hrow hbt
          go_wp2_with fail
          refine (same_ok _ _ R R _ HTT.out (Texts.own HOt.out) HFx.out HFx.out).mono ?_
          rintro e wu ⟨rfl, hbu⟩
          have HLu := Lib.hid (HLt.out.new hbu)
          have HOu := Lib.hid (own_below HOt.out hbu)
          have HBu := Lib.hid (HBt.out.trans (hbu.mono HBt.out.size))
          rw [decide_eq_true (rfl : R = R)]
          clear hbu
          go_wp2_with fail
          refine (lsynced_ok _ _ _ _ _ _ HLu.out.blk).mono ?_
          rintro e wz ⟨rfl, rfl⟩
          go_wp2_with fail
          go_roundw
          case rel => exact ⟨k + 1, _, _, _, _, _, _, _, by omega, by go_num, rfl, rfl, rfl, HLu.out, HOu.out, HNx.out, HBu.out⟩
          case measure => simp [intOf]; omega
        · obtain ⟨cs, hcs⟩ : ∃ cs, cs = l[k].cuts := ⟨_, rfl⟩
          obtain ⟨ca, cc, hc2, hci, hcn⟩ := (hc k hlt).2.2
          rw [← hcs] at hc2 hci
          have hc40 : cs.length ≤ 40 := by rw [hcs]; exact HLT.out.1 k hlt
          have hb5 : w5.cell? ⟨bl, of + k * 3 + 2, none⟩ = some (.slice ca cs.length cc) := (HB5.out.cell (p := ⟨bl, of + k * 3 + 2, none⟩) hbl).trans hc2
          have HCI := Lib.hid (And.intro hci hcn)
          clear hcs hc2 hci hcn hc
          go_wp2_with fail
          refine (own_ints _ cs _ _ (HCI.out.1.below HB5.out (Nat.le_refl _)) (by omega) HCI.out.2).mono ?_
          rintro e w6 ⟨iv, rfl, hiv, hb6⟩
          have HB6 := Lib.hid (HB5.out.trans (hb6.mono HB5.out.size))
          have HL6 := Lib.hid (HL5.out.new hb6)
          have HO6 := Lib.hid (own_below HO5.out hb6)
          have HIV := Lib.hid hiv
          clear hb6 hiv hb5
          go_wp2_with fail
          refine (crash_ok _ _ _ _ _ _ _ _ HL6.out.l.d _ cs (ints_own HIV.out) (fun a n c e => own_far HL6.out.l.d HIV.out (by decide) (by decide) (by decide) _ (by rw [e]; rfl)) (by omega)).mono ?_
          rintro e w7 ⟨rfl, ⟨v7, hd7, hv7⟩, he7⟩
          have HB7 := Lib.hid (HB6.out.trans ((HL6.out.l.d.step he7).mono hs2))
          have HD7 := Lib.hid hd7
          have HO7 := Lib.hid (ownsRow_kept HO6.out he7 fun b hb e => HN.out b hb (.inl e))
          clear hd7 he7 hv7
          go_wp2_with fail
          refine (open_crash _ _ _ _ _ _ _ _ _ HL6.out.g _ (cutN_le _) _ HD7.out).mono ?_
          rintro e w8 ⟨rfl, ⟨m, vr8, v8, hsm, hmR, _, _, hl8, _, _⟩, he8⟩
          obtain ⟨D8, hD8⟩ : ∃ D8, D8 = openD (crashK D P (cutN cs) P.length) (spanN (R.take m)) 40 := ⟨_, rfl⟩
          rw [← hD8] at hl8
          have HB8 := Lib.hid (HB7.out.trans ((HD7.out.step he8).mono hs2))
          have HL8 := Lib.hid hl8
          have HO8 := Lib.hid (ownsRow_kept HO7.out he8 (own_far HD7.out HO7.out (by decide) (by decide) (by decide)))
          obtain ⟨R9, hR9⟩ : ∃ R9, R9 = R.take m := ⟨_, rfl⟩
          have hR9l : R9.length = m := by rw [hR9, List.length_take]; omega
          have HR9 := Lib.hid (And.intro hR9 hR9l)
          rw [← hR9] at HL8
          have hac := (row_cap HO5.out).1
          have hm1 : ¬ (m : Int) < (s : Int) := by omega
          have hm2 : ¬ (R.length : Int) < (m : Int) := by omega
          have hm3 : (m : Int) ≤ (ac : Int) := by omega
          have hm0 : (0 : Int) ≤ (m : Int) := by omega
          have HMF := Lib.hid (show R9.length ≤ 1000000 from by have := HFx.out; omega)
          clear hl8 he8 hD8 hR9 hR9l
          go_wp2_with fail
          refine (lrecords_ok _ _ _ _ _ _ _ _ _ _ _ _ _ HL8.out.l).mono ?_
          rintro e w9 ⟨gv, rfl, hgv, hb9⟩
          have HT9 := Lib.hid (Texts.own hgv)
          have HG9 := Lib.hid hgv
          have HL9 := Lib.hid (HL8.out.new hb9)
          have HO9 := Lib.hid (own_below HO8.out hb9)
          have HB9 := Lib.hid (HB8.out.trans (hb9.mono HB8.out.size))
          rw [HR9.out.2] at hgv
          obtain ⟨ga, gc, rfl⟩ := len_of_own hgv
          have HGN := Lib.hid (row_cap hgv).2
          clear hgv hb9
          go_wp2_with fail
          have hT2 : Texts w9 (.slice aa m ac) R9 := by
            have := (Texts.own HO9.out).take m ac (by omega)
            rw [← HR9.out.1] at this
            exact this
          refine (same_ok _ _ R9 R9 _ HT9.out hT2 HMF.out HMF.out).mono ?_
          rintro e w10 ⟨rfl, hb10⟩
          have HL10 := Lib.hid (HL9.out.new hb10)
          have HT10 := Lib.hid (HT9.out.new hb10)
          have HB10 := Lib.hid (HB9.out.trans (hb10.mono HB9.out.size))
          rw [decide_eq_true (rfl : R9 = R9)]
          clear hb10 hT2
          go_wp2_with fail
          refine (lsynced_ok _ _ _ _ _ _ HL10.out.blk).mono ?_
          rintro e w' ⟨rfl, rfl⟩
          go_wp2_with fail
          refine (pending_nil _ _ _ _ _ _ _ HL10.out.l.d).mono ?_
          rintro e w' ⟨rfl, rfl⟩
          go_wp2_with fail
          have hO := own_strs ga R9 gc w10 (by rw [HR9.out.2]; exact HT10.out) HMF.out HGN.out
          rw [HR9.out.2] at hO
          refine hO.mono ?_
          rintro e w11 ⟨uv, rfl, huv, hb11⟩
          have HBx := Lib.hid (HB10.out.trans (hb11.mono HB10.out.size))
          have HLx := Lib.hid (HL10.out.new hb11)
          have HOx := Lib.hid (row_mono huv (HL10.out.l.base))
          have HNx := Lib.hid (show ∀ b, uv.ownBlock = some b → ¬ LOwn w7.heap.size (w2.heap.size + 1) w2.heap.size v8 vr8 b from fun b hb hk => by
            have h1 := (HL10.out.l.lt _ hk).2
            have h2 := (huv.lt b hb).1
            omega)
          have HFx := HMF
          clear huv hb11 hO
          go_wp2_with fail
          refine (lrecords_ok _ _ _ _ _ _ _ _ _ _ _ _ _ HLx.out.l).mono ?_
          rintro e wt ⟨rv, rfl, hrow, hbt⟩
          have HTT := Lib.hid (Texts.own hrow)
          have HLt := Lib.hid (HLx.out.new hbt)
          have HOt := Lib.hid (own_below HOx.out hbt)
          have HBt := Lib.hid (HBx.out.trans (hbt.mono HBx.out.size))
          obtain ⟨ra, rc, rfl⟩ := len_of_own hrow
          clear hrow hbt
          go_wp2_with fail
          refine (same_ok _ _ R9 R9 _ HTT.out (Texts.own HOt.out) HFx.out HFx.out).mono ?_
          rintro e wu ⟨rfl, hbu⟩
          have HLu := Lib.hid (HLt.out.new hbu)
          have HOu := Lib.hid (own_below HOt.out hbu)
          have HBu := Lib.hid (HBt.out.trans (hbu.mono HBt.out.size))
          rw [decide_eq_true (rfl : R9 = R9)]
          clear hbu
          go_wp2_with fail
          refine (lsynced_ok _ _ _ _ _ _ HLu.out.blk).mono ?_
          rintro e wz ⟨rfl, rfl⟩
          go_wp2_with fail
          go_roundw
          case rel => exact ⟨k + 1, _, _, _, _, _, _, _, by omega, by go_num, rfl, rfl, rfl, HLu.out, HOu.out, HNx.out, HBu.out⟩
          case measure => simp [intOf]; omega
      · have hk' : ¬ (k : Int) < (l.length : Int) := by omega
        go_wp2_with fail
        go_ret
        exact ⟨rfl, HW.out⟩
end Go.Proofs.YtbbnjnpbaekfgaaM
