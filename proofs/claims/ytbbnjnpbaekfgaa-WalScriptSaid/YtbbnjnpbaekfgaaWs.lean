/- The law WalScript, walked: it says yes. -/
import Derived.Test.YtbbnjnpbaekfgaaRk
import Derived.Deep.DeepCutAuto
import Derived.Deep.CutBlock
set_option linter.unusedVariables false
set_option linter.unusedSimpArgs false
namespace Go.Proofs.YtbbnjnpbaekfgaaM
open Go.RowKit Go.Proofs.YtbbnjnpbaekfgaaW.PrintWords Go.Proofs.YtbbnjnpbaekfgaaW.PrintLast Go.Proofs.YtbbnjnpbaekfgaaW.PrintMore
attribute [local go_sem ↓] exec_conv exec_bytes
attribute [local go_sem] via_bytes
/-- From a place on more is kept. -/
theorem more_ {P : Program} {md : Region.Mode} {ops : Array Oper} {Q : Exit → Act → World → Prop} {S S' : World → Prop} (hS : ∀ w, S' w → S w) : ∀ (n : Nat) (l : Array Bool) (a : Act) (w : World), S' w → wpAnyLast P md ops Q S' [] n l a w → wpAnyLast P md ops Q S [] n l a w
  | 0, _, _, _, _, h => h
  | n + 1, l, a, w, h0, h => ⟨h.1, fun i hi => wpOp_mono (fun a' w' h' => ⟨fun _ _ => hS _ (h'.1 (by simp) h0), more_ hS n _ a' w' (h'.1 (by simp) h0) h'.2⟩) (h.2 i hi)⟩
theorem bw_cells' (w : World) (l : List UInt8) : ∀ j u, (byteCells l)[j]? = some u → (BW w l).cell? ⟨w.heap.size, j, none⟩ = some u := fun j u hu =>
  (World.cell?_alloc_mark w.drew _ 5 _ j).trans (bytesRow_bs l _ j u hu)
theorem bw_lt (w : World) (l : List UInt8) : w.heap.size < (BW w l).heap.size := by show w.heap.size < (w.drew.heap.push _).size; simp
theorem of_img (D : List UInt8) (n : Nat) (hl : D.length = n * 512) (h0 : 0 < n) (h1 : n ≤ 1024) (w : World) (s cap : Nat) (hcap : D.length ≤ cap) (hcm : cap ≤ maxLen) (hsrc : ∀ j u, (byteCells D)[j]? = some u → w.cell? ⟨s, j, none⟩ = some u) :
    Calls Try.prog 35 #[.slice (some ⟨s, 0, none⟩) D.length cap] w fun e w' => e = .returned (.tuple #[.pointer (some ⟨w.heap.size + 1, 0, none⟩), .int .i64 0]) ∧
      DiskAt w' w.heap.size (w.heap.size + 1) w.heap.size n (.slice none 0 0) D [] ∧ Below w.heap.size w w' := by
  have := of_ok D n hl h0 h1 w s cap (by omega) hcm hsrc
  rw [← hl] at this
  exact this
theorem wrap_small (j : Nat) (h : j ≤ 12) : wrap64 (j : Int) = (j : Int) := by rw [← IntWalk.i64_left]; exact IntWalk.i64_in _ (by omega)
/-- An image that is no disk. -/
theorem of_none (D : List UInt8) (h : D.length % 512 ≠ 0 ∨ D.length = 0) (hD : D.length ≤ 6200) : (∀ a c w, Calls Try.prog 35 #[.slice a D.length c] w fun e w' => e = .returned (.tuple #[.pointer none, .int .i64 2]) ∧ w = w') ∧ ∀ w, Calls Try.prog 36 #[.string (bs D)] w fun e w' => e = .returned (.tuple #[.pointer none, .int .i64 2]) ∧ w = w' := by
  refine ⟨fun a c w => ?_, fun w => refof_bad (bs D) ?_ (by rw [bs_size]; omega) w⟩
  · rcases h with h | h
    · exact of_odd a _ c h w
    · exact of_size a D.length c 0 (by omega) (by unfold maxLen; omega) (.inl (by omega)) w
  · rw [bs_size]
    omega
set_option maxRecDepth 100000 in
set_option maxHeartbeats 16000000 in
theorem walScript_walk (img : ByteArray) (a1 : Option Addr) (l : List ActD) (c1 : Nat) (at_ : Int) (rec_ : ByteArray) (nn : Int) (w : World) (hat : at_ ≤ 9223372036854775807) (h1 : ActsAt w a1 l) (hnil1 : a1 = none → c1 = 0) (l1 : l.length ≤ 140737488351232) :
    Calls Try.prog 8 #[.string img, .slice a1 l.length c1, .int .i64 at_, .string rec_, .int .i64 nn] w fun e w' => e = .returned (.bool true) ∧ Below w.heap.size w w' := by
  obtain ⟨D, rfl⟩ : ∃ D, img = bs D := ⟨_, (bs_data _).symm⟩
  obtain ⟨rc, rfl⟩ : ∃ r, rec_ = bs r := ⟨_, (bs_data _).symm⟩
  obtain ⟨nd, hnd1, hnd2⟩ := need_any nn
  obtain ⟨L, hL, hf1, hf2⟩ := frame_any at_ hat rc
  have HND := Lib.hid (And.intro hnd1 hnd2)
  have HFR := Lib.hid (And.intro hf1 hf2)
  have HLL := Lib.hid (show L.length ≤ 1000000 by omega)
  have H := Lib.hid h1
  have hsD : (bs D).size = D.length := bs_size D
  have hsr : (bs rc).size = rc.length := bs_size rc
  clear h1 hnd1 hnd2 hf1 hf2 hat hL
  go_enter Try.func8, Try.ntmps8
  go_wp2_with fail
  refine (lives_ok _).mono ?_
  rintro e w1 ⟨rfl, hb1⟩
  have HB1 := Lib.hid hb1
  clear hb1
  go_wp2_with fail
  refine (light_acts _ _ _ _ (H.out.below HB1.out (Nat.le_refl _)) l1).mono ?_
  rintro e w2 ⟨b, rfl, hlit, hb2⟩
  have HB2 := Lib.hid (HB1.out.trans (hb2.mono HB1.out.size))
  clear hb2
  cases b
  · go_wp2_with fail
    go_ret
    exact ⟨rfl, HB2.out⟩
  have HLT := Lib.hid (hlit rfl)
  clear hlit
  by_cases hD : D.length ≤ 6200
  rotate_left
  · have hi1 : ¬ (D.length : Int) ≤ 6200 := by omega
    go_wp2_with fail
    go_ret
    exact ⟨rfl, HB2.out⟩
  have hi1 : (D.length : Int) ≤ 6200 := by omega
  by_cases hr5 : rc.length ≤ 5000
  rotate_left
  · have hi2 : ¬ (rc.length : Int) ≤ 5000 := by omega
    go_wp2_with fail
    go_ret
    exact ⟨rfl, HB2.out⟩
  have hi2 : (rc.length : Int) ≤ 5000 := by omega
  have hs2 := HB2.out.size
  go_wp2_with fail
  have HBW := Lib.hid (bw_below w2 D)
  refine (scan_ok _ _ D (by omega) (grownCap_ge _ _ _ _) (BW w2 D) (bw_lt w2 D) (bw_cells' w2 D)).mono ?_
  rintro e w3 ⟨rv, rfl, hrow, hb3⟩
  have hfr : (found D).recs.length ≤ 1000000 := by have := found_recs_le D; omega
  have hff : (found D).fin ≤ D.length / 512 := found_fin_le D
  have hrl := found_recs_le D
  obtain ⟨R0, hR0⟩ : ∃ R, R = (found D).recs := ⟨_, rfl⟩
  obtain ⟨fi, hfi⟩ : ∃ f, f = (found D).fin := ⟨_, rfl⟩
  rw [← hR0] at hrow hfr hrl
  rw [← hfi] at hff ⊢
  have HF := Lib.hid (And.intro hR0 (And.intro hfi (And.intro hff hrl)))
  have HB3 := Lib.hid (HB2.out.trans ((HBW.out.trans (hb3.mono HBW.out.size)).mono hs2))
  have HR3 := Lib.hid hrow
  have HFX := Lib.hid hfr
  obtain ⟨xa, xc, rfl⟩ := len_of_own hrow
  clear hrow hb3 hR0 hfi hff hfr hrl HBW
  go_wp2_with fail
  refine (rscan_ok D (by omega) _).mono ?_
  rintro e w4 ⟨rv, rfl, hrow, hb4⟩
  rw [← HF.out.1] at hrow
  rw [← HF.out.2.1]
  have HB4 := Lib.hid (HB3.out.trans (hb4.mono HB3.out.size))
  have HR4 := Lib.hid (own_below HR3.out hb4)
  have HQ4 := Lib.hid hrow
  obtain ⟨ya, yc, rfl⟩ := len_of_own hrow
  clear hrow hb4
  go_wp2_with fail
  refine (same_ok _ _ R0 R0 _ (Texts.own HR4.out) (Texts.own HQ4.out) HFX.out HFX.out).mono ?_
  rintro e w5 ⟨rfl, hb5⟩
  have HB5 := Lib.hid (HB4.out.trans (hb5.mono HB4.out.size))
  rw [decide_eq_true (rfl : R0 = R0)]
  clear hb5
  go_wp2_with fail
  refine (HND.out.1 _).mono ?_
  rintro e w' ⟨rfl, rfl⟩
  go_wp2_with fail
  refine (HND.out.2 _).mono ?_
  rintro e w' ⟨rfl, rfl⟩
  go_wp2_with fail
  refine (HFR.out.1 _).mono ?_
  rintro e w6 ⟨fv, rfl, hfv, hb6⟩
  have HB6 := Lib.hid (HB5.out.trans (hb6.mono HB5.out.size))
  have HF6 := Lib.hid (Texts.own hfv)
  obtain ⟨fa, fc, rfl⟩ := len_of_own hfv
  clear hfv hb6
  go_wp2_with fail
  refine (HFR.out.2 _).mono ?_
  rintro e w7 ⟨gv, rfl, hgv, hb7⟩
  have HB7 := Lib.hid (HB6.out.trans (hb7.mono HB6.out.size))
  have HF7 := Lib.hid (HF6.out.new hb7)
  have HG7 := Lib.hid (Texts.own hgv)
  obtain ⟨ga, gc, rfl⟩ := len_of_own hgv
  clear hgv hb7
  go_wp2_with fail
  refine (same_ok _ _ L L _ HF7.out HG7.out HLL.out HLL.out).mono ?_
  rintro e w8 ⟨rfl, hb8⟩
  have HB8 := Lib.hid (HB7.out.trans (hb8.mono HB7.out.size))
  rw [decide_eq_true (rfl : L = L)]
  clear hb8
  go_wp2_with fail
  obtain ⟨w9, hw9⟩ : ∃ w9, w9 = BW w8 D := ⟨_, rfl⟩
  have hbw := bw_below w8 D
  have hcl := bw_cells' w8 D
  rw [← hw9] at hbw hcl ⊢
  have HB9 := Lib.hid (HB8.out.trans (hbw.mono HB8.out.size))
  clear hw9 hbw
  by_cases hbad : D.length % 512 ≠ 0 ∨ D.length = 0
  · have HOF := Lib.hid (of_none D hbad hD)
    clear hbad hcl
    refine (HOF.out.1 _ _ _).mono ?_
    rintro e w' ⟨rfl, rfl⟩
    go_wp2_with fail
    refine (HOF.out.2 _).mono ?_
    rintro e w' ⟨rfl, rfl⟩
    go_wp2_with fail
    go_ret
    exact ⟨rfl, HB9.out⟩
  obtain ⟨n, hn⟩ : ∃ n, D.length = n * 512 := ⟨D.length / 512, by omega⟩
  have hn0 : 0 < n := by omega
  have hn12 : n ≤ 12 := by omega
  have HN := Lib.hid hn
  refine (of_img D n hn hn0 (by omega) w9 _ _ (grownCap_ge _ _ _ _) (grownCap_le_maxLen _ _ _ _ (by unfold maxLen; omega)) hcl).mono ?_
  rintro e w10 ⟨rfl, hd10, hb10⟩
  have HD10 := Lib.hid hd10
  have HB10 := Lib.hid (HB9.out.trans (hb10.mono HB9.out.size))
  clear hd10 hb10 hcl hbad hn
  go_wp2_with fail
  refine (refof_ok D n HN.out hn0 (by omega) _).mono ?_
  rintro e w11 ⟨rfl, ⟨rv, hr11⟩, hb11⟩
  have HD11 := Lib.hid (HD10.out.new hb11)
  have HE11 := Lib.hid hr11
  have HB11 := Lib.hid (HB10.out.trans (hb11.mono HB10.out.size))
  obtain ⟨gd, cd, rfl, _, _⟩ := hr11.dur.form hn0
  clear hr11 hb11
  go_wp2_with fail
  refine (open_ok _ _ _ _ _ _ _ _ HD11.out (by simp)).mono ?_
  rintro e w12 ⟨vr12, v12, rfl, hl12, hv12, hvr12, he12⟩
  rw [sync_none, ← HF.out.2.1, ← HF.out.1] at hl12
  have HB12 := Lib.hid (HB11.out.trans ((HD11.out.step he12).mono (by have := HB9.out.size; omega)))
  have HE12 := Lib.hid (HE11.out.kept he12 (far_ref HD11.out HE11.out))
  have HL12 := Lib.hid hl12
  have HV12 := Lib.hid (show ∀ b, vr12.ownBlock = some b → (Value.slice (some ⟨gd, 0, none⟩) n cd).ownBlock ≠ some b from fun b hb e1 => by
    have h1 := hvr12 b hb
    have h2 := (HE11.out.dur.lt b e1).2
    omega)
  clear hl12 he12 hv12 hvr12
  go_wp2_with fail
  refine (ropen_ok _ _ _ _ _ _ _ _ HE12.out (by simp)).mono ?_
  rintro e w13 ⟨rq, rvr, rfl, hrl13, hrq, hrvr, he13⟩
  rw [sync_none, ← HF.out.2.1, ← HF.out.1] at hrl13
  have HR13 := Lib.hid hrl13
  have HL13 := Lib.hid (HL12.out.kept he13 fun b hb hk => by
    rcases hb with hb | rfl | hb
    · exact far_ref HL12.out.d HE12.out b hk hb
    · rcases hk with e1 | e1 | e1
      · exact blk_ne HL12.out.l HE12.out.blk (by decide) e1
      · exact row_ne HE12.out.dur HL12.out.l (by decide) e1
      · exact row_ne HE12.out.pend HL12.out.l (by decide) e1
    · rcases hk with e1 | e1 | e1
      · exact row_ne HL12.out.r HE12.out.blk (by decide) (e1 ▸ hb)
      · exact HV12.out b hb e1
      · exact rows_ne HL12.out.r HE12.out.pend (by decide) b hb e1)
  have HFAR := Lib.hid (show ∀ b, vr12.ownBlock = some b → (Value.slice (some ⟨gd, 0, none⟩) n cd).ownBlock ≠ some b ∧ rvr.ownBlock ≠ some b from fun b hb => ⟨HV12.out b hb, fun e1 => by
    have h1 := hrvr b e1
    have h2 := (HL12.out.r.lt b hb).2
    omega⟩)
  have HB13 := Lib.hid (HB12.out.trans ((he13.below (HE12.out.base) fun i hi => (HE12.out.lt i hi).1).mono (by have := HB10.out.size; omega)))
  clear hrl13 hrq hrvr he13
  have hs9 := HB9.out.size
  have hs10 := HB10.out.size
  go_wp2_with fail
  go_loopw [19, 20, 21, 22] (fun xv gv yv iv wr => ∃ (k q rq : Nat) (v vr ru rvr : Value) (D : List UInt8) (P : List (Nat × List UInt8)) (R : List (List UInt8)) (s e : Nat), k ≤ l.length ∧ iv = .int .i64 (k : Int) ∧ xv = .pointer (some ⟨q, 0, none⟩) ∧ yv = .pointer (some ⟨rq, 0, none⟩) ∧
    Hid (LogAt wr w9.heap.size q (w9.heap.size + 1) w9.heap.size n v vr D P R s e) ∧ Hid (RLogAt wr w10.heap.size rq w10.heap.size n (.slice (some ⟨gd, 0, none⟩) n cd) ru rvr D P R s e) ∧ Hid (∀ b, vr.ownBlock = some b → (Value.slice (some ⟨gd, 0, none⟩) n cd).ownBlock ≠ some b ∧ rvr.ownBlock ≠ some b) ∧
    Hid (P.length ≤ k * 9 ∧ R.length ≤ n + k) ∧ Hid (Below w.heap.size w wr)) (fun _ _ _ iv _ => l.length - (intOf iv).toNat)
  case atStart => exact ⟨0, _, rq, _, _, _, _, _, _, _, _, _, Nat.zero_le _, rfl, rfl, rfl, HL13.out, HR13.out, HFAR.out, ⟨by simp, by have := HF.out.2.2.2; have := HN.out; omega⟩, HB13.out⟩
  case round =>
    obtain ⟨k, q, rq, v, vr, ru, rvr, D1, P, R, s, e, hk, rfl, rfl, rfl, HL, HR, HX, HP, HW⟩ := hrel
    obtain ⟨wi, rfl⟩ : ∃ wi, wi = wr := ⟨wr, rfl⟩
    by_cases hlt : k < l.length
    · obtain ⟨bl, of, rfl, hbl, hc⟩ := H.out (by omega)
      obtain ⟨kd, hkd⟩ : ∃ kd, kd = l[k].kind := ⟨_, rfl⟩
      have hk' : (k : Int) < (l.length : Int) := by omega
      have hk0 : (0 : Int) ≤ (k : Int) := by omega
      have hl30 : l.length ≤ 30 := HLT.out.2
      have hck : wi.cell? ⟨bl, of + k * 3, none⟩ = some (.int .i64 kd) := (HW.out.cell (p := ⟨bl, of + k * 3, none⟩) hbl).trans ((hc k hlt).1.trans (by rw [hkd]))
      clear hkd
      obtain ⟨pn, hpn⟩ : ∃ pn, pn = pickN kd 4 := ⟨_, rfl⟩
      have hp4 := pickN_lt kd (m := 4) (by decide)
      go_wp2_with fail
      refine (pick_4 kd _).mono ?_
      rw [← hpn] at hp4 ⊢
      rintro e_ w14 ⟨rfl, hb14⟩
      have HW14 := Lib.hid (HW.out.trans (hb14.mono HW.out.size))
      have HL14 := Lib.hid (HL.out.new hb14)
      have HR14 := Lib.hid (HR.out.new hb14)
      clear hb14 hpn hck
      go_upto_block 2 with fail
      go_cut [19, 20, 21, 23] (fun xv gv yv bv wx => ∃ (q rq : Nat) (v vr ru rvr : Value) (D : List UInt8) (P : List (Nat × List UInt8)) (R : List (List UInt8)) (s e : Nat), xv = .pointer (some ⟨q, 0, none⟩) ∧ yv = .pointer (some ⟨rq, 0, none⟩) ∧ bv = .bool true ∧
        Hid (LogAt wx w9.heap.size q (w9.heap.size + 1) w9.heap.size n v vr D P R s e) ∧ Hid (RLogAt wx w10.heap.size rq w10.heap.size n (.slice (some ⟨gd, 0, none⟩) n cd) ru rvr D P R s e) ∧ Hid (∀ b, vr.ownBlock = some b → (Value.slice (some ⟨gd, 0, none⟩) n cd).ownBlock ≠ some b ∧ rvr.ownBlock ≠ some b) ∧
        Hid (P.length ≤ (k + 1) * 9 ∧ R.length ≤ n + (k + 1)) ∧ Hid (Below w.heap.size w wx))
      case first =>
        have hpc : pn = 0 ∨ pn = 1 ∨ pn = 2 ∨ pn = 3 := by omega
        clear hp4
        rcases hpc with rfl | rfl | rfl | rfl
        ·
          obtain ⟨r, hr⟩ : ∃ r, l[k].b = bs r := ⟨_, (bs_data _).symm⟩
          have HCB := Lib.hid (show ∀ w' : World, Below w.heap.size w w' → w'.cell? ⟨bl, of + k * 3 + 1, none⟩ = some (.string (bs r)) from fun w' hb => (hb.cell (p := ⟨bl, of + k * 3 + 1, none⟩) hbl).trans ((hc k hlt).2.1.trans (by rw [hr])))
          clear hc hr
          obtain ⟨er, P2, R2, e2, hA⟩ : ∃ er P2 R2 e2, appS n e P R r = (er, P2, R2, e2) := ⟨_, _, _, _, rfl⟩
          have hlen := appS_len n e P R r
          rw [hA] at hlen
          have HA := Lib.hid hA
          have HP2 := Lib.hid (show P2.length ≤ (k + 1) * 9 ∧ R2.length ≤ n + (k + 1) from by
            have h1 : P2.length ≤ P.length + 9 := hlen.1
            have h2 : R2.length ≤ R.length + 1 := hlen.2
            have := HP.out
            omega)
          have HPR := Lib.hid (show P.length ≤ 90000 ∧ R.length ≤ 90000 from by have := HP.out; omega)
          have HBd := Lib.hid (show Below w.heap.size w w14.drew from HW14.out.drew)
          have HLd := Lib.hid (HL14.out.new (Below.refl _ w14).drew)
          have HRd := Lib.hid (HR14.out.new (Below.refl _ w14).drew)
          clear hA hlen
          go_wp2_with fail
          refine start_ (n := 16) (S := (fun w' => w'.cell? ⟨bl, of + k * 3 + 1, none⟩ = some (.string (bs r)))) (ds := []) #[false, false, false, false, false, false, false, false, false, false, false, false, false, false, false, false] (by as_aux_lemma => kernel_rfl) rfl rfl (HCB.out _ HBd.out) (fun hHeld => ?_)
          refine pure_ (i := 0) (N := some 145) (v := ?_) (a' := ?_) #[true, false, false, false, false, false, false, false, false, false, false, false, false, false, false, false] rfl rfl (by as_aux_lemma => kernel_rfl) (fun _ _ _ h => h) (Or.inl ⟨by rfl, ?_⟩) ?_ ?_
          rotate_left
          ·intro w'
           go_simp
           with_reducible rfl
          rotate_left
          ·simp only [Act.put, List.setIfInBounds_toArray, List.set_cons_zero, List.set_cons_succ, i64_w, i32_w]
           rfl
          refine pure_ (i := 1) (N := some 146) (v := ?_) (a' := ?_) #[true, true, false, false, false, false, false, false, false, false, false, false, false, false, false, false] rfl rfl (by as_aux_lemma => kernel_rfl) (fun _ _ _ h => h) (Or.inl ⟨by rfl, ?_⟩) ?_ ?_
          rotate_left
          ·intro w'
           go_simp
           with_reducible rfl
          rotate_left
          ·simp only [Act.put, List.setIfInBounds_toArray, List.set_cons_zero, List.set_cons_succ, i64_w, i32_w]
           rfl
          refine pure_ (i := 2) (N := some 147) (v := ?_) (a' := ?_) #[true, true, true, false, false, false, false, false, false, false, false, false, false, false, false, false] rfl rfl (by as_aux_lemma => kernel_rfl) (fun _ _ _ h => h) (Or.inl ⟨by rfl, ?_⟩) ?_ ?_
          rotate_left
          ·intro w'
           go_simp
           with_reducible rfl
          rotate_left
          ·simp only [Act.put, List.setIfInBounds_toArray, List.set_cons_zero, List.set_cons_succ, i64_w, i32_w]
           rfl
          refine pure_ (i := 3) (N := some 148) (v := ?_) (a' := ?_) #[true, true, true, true, false, false, false, false, false, false, false, false, false, false, false, false] rfl rfl (by as_aux_lemma => kernel_rfl) (fun _ _ _ h => h) (Or.inl ⟨by rfl, ?_⟩) ?_ ?_
          rotate_left
          ·intro w'
           go_simp
           with_reducible rfl
          rotate_left
          ·simp only [Act.put, List.setIfInBounds_toArray, List.set_cons_zero, List.set_cons_succ, i64_w, i32_w]
           rfl
          refine pure_ (i := 4) (N := some 149) (v := ?_) (a' := ?_) #[true, true, true, true, true, false, false, false, false, false, false, false, false, false, false, false] rfl rfl (by as_aux_lemma => kernel_rfl) (fun _ _ _ h => h) (Or.inl ⟨by rfl, ?_⟩) ?_ ?_
          rotate_left
          ·intro w'
           go_simp
           with_reducible rfl
          rotate_left
          ·simp only [Act.put, List.setIfInBounds_toArray, List.set_cons_zero, List.set_cons_succ, i64_w, i32_w]
           rfl
          refine take_ (i := 5) (N := some 150) (v := ?_) (a' := ?_) #[true, true, true, true, true, true, false, false, false, false, false, false, false, false, false, false] rfl rfl (by as_aux_lemma => kernel_rfl) (fun _ _ _ h => h) (Or.inl ⟨by rfl, ?_⟩) hHeld ?_ ?_
          rotate_left
          ·intro w' s1
           go_simp
           with_reducible rfl
          rotate_left
          ·simp only [Act.put, List.setIfInBounds_toArray, List.set_cons_zero, List.set_cons_succ, i64_w, i32_w]
           rfl
          refine pure_ (i := 7) (N := some 152) (v := ?_) (a' := ?_) #[true, true, true, true, true, true, false, true, false, false, false, false, false, false, false, false] rfl rfl (by as_aux_lemma => kernel_rfl) (fun _ _ _ h => h) (Or.inl ⟨by rfl, ?_⟩) ?_ ?_
          rotate_left
          ·intro w'
           go_simp
           with_reducible rfl
          rotate_left
          ·simp only [Act.put, List.setIfInBounds_toArray, List.set_cons_zero, List.set_cons_succ, i64_w, i32_w]
           rfl
          refine pure_ (i := 8) (N := some 153) (v := ?_) (a' := ?_) #[true, true, true, true, true, true, false, true, true, false, false, false, false, false, false, false] rfl rfl (by as_aux_lemma => kernel_rfl) (fun _ _ _ h => h) (Or.inl ⟨by rfl, ?_⟩) ?_ ?_
          rotate_left
          ·intro w'
           go_simp
           with_reducible rfl
          rotate_left
          ·simp only [Act.put, List.setIfInBounds_toArray, List.set_cons_zero, List.set_cons_succ, i64_w, i32_w]
           rfl
          refine pure_ (i := 9) (N := some 154) (v := ?_) (a' := ?_) #[true, true, true, true, true, true, false, true, true, true, false, false, false, false, false, false] rfl rfl (by as_aux_lemma => kernel_rfl) (fun _ _ _ h => h) (Or.inl ⟨by rfl, ?_⟩) ?_ ?_
          rotate_left
          ·intro w'
           go_simp
           with_reducible rfl
          rotate_left
          ·simp only [Act.put, List.setIfInBounds_toArray, List.set_cons_zero, List.set_cons_succ, i64_w, i32_w]
           rfl
          refine pure_ (i := 10) (N := some 155) (v := ?_) (a' := ?_) #[true, true, true, true, true, true, false, true, true, true, true, false, false, false, false, false] rfl rfl (by as_aux_lemma => kernel_rfl) (fun _ _ _ h => h) (Or.inl ⟨by rfl, ?_⟩) ?_ ?_
          rotate_left
          ·intro w'
           go_simp
           with_reducible rfl
          rotate_left
          ·simp only [Act.put, List.setIfInBounds_toArray, List.set_cons_zero, List.set_cons_succ, i64_w, i32_w]
           rfl
          refine pure_ (i := 11) (N := some 156) (v := ?_) (a' := ?_) #[true, true, true, true, true, true, false, true, true, true, true, true, false, false, false, false] rfl rfl (by as_aux_lemma => kernel_rfl) (fun _ _ _ h => h) (Or.inl ⟨by rfl, ?_⟩) ?_ ?_
          rotate_left
          ·intro w'
           go_simp
           with_reducible rfl
          rotate_left
          ·simp only [Act.put, List.setIfInBounds_toArray, List.set_cons_zero, List.set_cons_succ, i64_w, i32_w]
           rfl
          refine take_ (i := 12) (N := some 157) (v := ?_) (a' := ?_) #[true, true, true, true, true, true, false, true, true, true, true, true, true, false, false, false] rfl rfl (by as_aux_lemma => kernel_rfl) (fun _ _ _ h => h) (Or.inl ⟨by rfl, ?_⟩) hHeld ?_ ?_
          rotate_left
          ·intro w' s1
           go_simp
           with_reducible rfl
          rotate_left
          ·simp only [Act.put, List.setIfInBounds_toArray, List.set_cons_zero, List.set_cons_succ, i64_w, i32_w]
           rfl
          refine one_ (i := 6) (N := some 151) #[true, true, true, true, true, true, true, true, true, true, true, true, true, false, false, false] rfl rfl (by as_aux_lemma => kernel_rfl) (by decide) (fun K hK => ?_)
          have hq := lappend_any _ _ _ _ _ _ _ _ _ _ _ _ _ HLd.out r HPR.out.1 HPR.out.2
          rw [HA.out] at hq
          refine goes_ Try.func15 (by as_aux_lemma => kernel_rfl) rfl #[.pointer (some ⟨q, 0, none⟩), .string (bs r)] (by rfl) rfl rfl (by (try simp only [List.map_toArray, List.map_cons, List.map_nil]); first | done | rfl) ?_
          refine (hq).mono ?_
          clear hq
          rintro e' wa ⟨rfl, ⟨v2, vr2, hla, hfa, hga⟩, hea⟩
          have HLa := Lib.hid hla
          have HRa := Lib.hid (HRd.out.kept hea (rl_far HLd.out HRd.out HX.out))
          have HXa := Lib.hid (show ∀ b, vr2.ownBlock = some b → (Value.slice (some ⟨gd, 0, none⟩) n cd).ownBlock ≠ some b ∧ rvr.ownBlock ≠ some b from fun b hb => ⟨fresh_far hga (fun b hb => (HRd.out.d.dur.lt b hb).2) (fun b hb => (HX.out b hb).1) b hb, fresh_far hga (fun b hb => (HRd.out.r.lt b hb).2) (fun b hb => (HX.out b hb).2) b hb⟩)
          have HBa := Lib.hid (HBd.out.trans ((HLd.out.step hea).mono hs9))
          clear hla hfa hga hea
          refine ⟨_, rfl, ?_⟩
          refine hK.out _ _ (HCB.out _ HBa.out) (fun hHeld2 => ?_)
          clear hK K hHeld
          have hHeld := hHeld2
          clear hHeld2
          refine norm_ (a' := ?_) ?_ ?_
          rotate_left
          ·show Act.put _ (some 151) _ = _
           simp only [Act.put, List.setIfInBounds_toArray, List.set_cons_zero, List.set_cons_succ, i64_w, i32_w]
           rfl
          refine one_ (i := 13) (N := some 158) #[true, true, true, true, true, true, true, true, true, true, true, true, true, true, false, false] rfl rfl (by as_aux_lemma => kernel_rfl) (by decide) (fun K hK => ?_)
          have hq := rlappend_any _ _ _ _ _ _ _ _ _ _ _ _ _ HRa.out r HPR.out.1 HPR.out.2
          rw [HA.out] at hq
          refine goes_ Try.func38 (by as_aux_lemma => kernel_rfl) rfl #[.pointer (some ⟨rq, 0, none⟩), .string (bs r)] (by rfl) rfl rfl (by (try simp only [List.map_toArray, List.map_cons, List.map_nil]); first | done | rfl) ?_
          refine (hq).mono ?_
          clear hq
          rintro e' wb ⟨rfl, ⟨ru2, rvr2, hrb, hgb⟩, heb⟩
          have HRb := Lib.hid hrb
          have HLb := Lib.hid (HLa.out.kept heb fun b hb hk => rl_far HLa.out HRa.out HXa.out b hk hb)
          have HXb := Lib.hid (show ∀ b, vr2.ownBlock = some b → (Value.slice (some ⟨gd, 0, none⟩) n cd).ownBlock ≠ some b ∧ rvr2.ownBlock ≠ some b from fun b hb => ⟨(HXa.out b hb).1, fun e1 => fresh_far hgb (fun b hb => (HLa.out.r.lt b hb).2) (fun b h1 h2 => (HXa.out b h2).2 h1) b e1 hb⟩)
          have HBb := Lib.hid (HBa.out.trans ((HRa.out.step heb).mono hs10))
          clear hrb hgb heb
          refine ⟨_, rfl, ?_⟩
          refine hK.out _ _ (HCB.out _ HBb.out) (fun hHeld2 => ?_)
          clear hK K hHeld
          have hHeld := hHeld2
          clear hHeld2
          refine norm_ (a' := ?_) ?_ ?_
          rotate_left
          ·show Act.put _ (some 158) _ = _
           simp only [Act.put, List.setIfInBounds_toArray, List.set_cons_zero, List.set_cons_succ, i64_w, i32_w]
           rfl
          refine pure_ (i := 14) (N := some 159) (v := ?_) (a' := ?_) #[true, true, true, true, true, true, true, true, true, true, true, true, true, true, true, false] rfl rfl (by as_aux_lemma => kernel_rfl) (fun _ _ _ h => h) (Or.inl ⟨by rfl, ?_⟩) ?_ ?_
          rotate_left
          ·intro w'
           go_simp
           with_reducible rfl
          rotate_left
          ·simp only [Act.put, List.setIfInBounds_toArray, List.set_cons_zero, List.set_cons_succ, i64_w, i32_w]
           rfl
          refine pure_ (i := 15) (N := some 23) (v := ?_) (a' := ?_) #[true, true, true, true, true, true, true, true, true, true, true, true, true, true, true, true] rfl rfl (by as_aux_lemma => kernel_rfl) (fun _ _ _ h => h) (Or.inl ⟨by rfl, ?_⟩) ?_ ?_
          rotate_left
          ·intro w'
           go_simp
           with_reducible rfl
          rotate_left
          ·simp only [Act.put, List.setIfInBounds_toArray, List.set_cons_zero, List.set_cons_succ, i64_w, i32_w]
           rfl
          refine done_ (by as_aux_lemma => kernel_rfl) ?_
          go_wp2_with fail
          go_meet
          exact ⟨q, rq, v2, vr2, ru2, rvr2, D1, P2, R2, s, e2, rfl, rfl, rfl, HLb.out, HRb.out, HXb.out, HP2.out, HBb.out⟩
        ·
          obtain ⟨r, hr⟩ : ∃ r, l[k].b = bs r := ⟨_, (bs_data _).symm⟩
          have HCB := Lib.hid (show ∀ w' : World, Below w.heap.size w w' → w'.cell? ⟨bl, of + k * 3 + 1, none⟩ = some (.string (bs r)) from fun w' hb => (hb.cell (p := ⟨bl, of + k * 3 + 1, none⟩) hbl).trans ((hc k hlt).2.1.trans (by rw [hr])))
          clear hc hr
          obtain ⟨er, P2, R2, e2, hA⟩ : ∃ er P2 R2 e2, appS n e P R r = (er, P2, R2, e2) := ⟨_, _, _, _, rfl⟩
          have hlen := appS_len n e P R r
          rw [hA] at hlen
          have HA := Lib.hid hA
          have HP2 := Lib.hid (show P2.length ≤ (k + 1) * 9 ∧ R2.length ≤ n + (k + 1) from by
            have h1 : P2.length ≤ P.length + 9 := hlen.1
            have h2 : R2.length ≤ R.length + 1 := hlen.2
            have := HP.out
            omega)
          have HPR := Lib.hid (show P.length ≤ 90000 ∧ R.length ≤ 90000 from by have := HP.out; omega)
          have HBd := Lib.hid (show Below w.heap.size w w14.drew from HW14.out.drew)
          have HLd := Lib.hid (HL14.out.new (Below.refl _ w14).drew)
          have HRd := Lib.hid (HR14.out.new (Below.refl _ w14).drew)
          clear hA hlen
          go_wp2_with fail
          refine start_ (n := 16) (S := (fun w' => w'.cell? ⟨bl, of + k * 3 + 1, none⟩ = some (.string (bs r)))) (ds := []) #[false, false, false, false, false, false, false, false, false, false, false, false, false, false, false, false] (by as_aux_lemma => kernel_rfl) rfl rfl (HCB.out _ HBd.out) (fun hHeld => ?_)
          refine pure_ (i := 0) (N := some 145) (v := ?_) (a' := ?_) #[true, false, false, false, false, false, false, false, false, false, false, false, false, false, false, false] rfl rfl (by as_aux_lemma => kernel_rfl) (fun _ _ _ h => h) (Or.inl ⟨by rfl, ?_⟩) ?_ ?_
          rotate_left
          ·intro w'
           go_simp
           with_reducible rfl
          rotate_left
          ·simp only [Act.put, List.setIfInBounds_toArray, List.set_cons_zero, List.set_cons_succ, i64_w, i32_w]
           rfl
          refine pure_ (i := 1) (N := some 146) (v := ?_) (a' := ?_) #[true, true, false, false, false, false, false, false, false, false, false, false, false, false, false, false] rfl rfl (by as_aux_lemma => kernel_rfl) (fun _ _ _ h => h) (Or.inl ⟨by rfl, ?_⟩) ?_ ?_
          rotate_left
          ·intro w'
           go_simp
           with_reducible rfl
          rotate_left
          ·simp only [Act.put, List.setIfInBounds_toArray, List.set_cons_zero, List.set_cons_succ, i64_w, i32_w]
           rfl
          refine pure_ (i := 2) (N := some 147) (v := ?_) (a' := ?_) #[true, true, true, false, false, false, false, false, false, false, false, false, false, false, false, false] rfl rfl (by as_aux_lemma => kernel_rfl) (fun _ _ _ h => h) (Or.inl ⟨by rfl, ?_⟩) ?_ ?_
          rotate_left
          ·intro w'
           go_simp
           with_reducible rfl
          rotate_left
          ·simp only [Act.put, List.setIfInBounds_toArray, List.set_cons_zero, List.set_cons_succ, i64_w, i32_w]
           rfl
          refine pure_ (i := 3) (N := some 148) (v := ?_) (a' := ?_) #[true, true, true, true, false, false, false, false, false, false, false, false, false, false, false, false] rfl rfl (by as_aux_lemma => kernel_rfl) (fun _ _ _ h => h) (Or.inl ⟨by rfl, ?_⟩) ?_ ?_
          rotate_left
          ·intro w'
           go_simp
           with_reducible rfl
          rotate_left
          ·simp only [Act.put, List.setIfInBounds_toArray, List.set_cons_zero, List.set_cons_succ, i64_w, i32_w]
           rfl
          refine pure_ (i := 4) (N := some 149) (v := ?_) (a' := ?_) #[true, true, true, true, true, false, false, false, false, false, false, false, false, false, false, false] rfl rfl (by as_aux_lemma => kernel_rfl) (fun _ _ _ h => h) (Or.inl ⟨by rfl, ?_⟩) ?_ ?_
          rotate_left
          ·intro w'
           go_simp
           with_reducible rfl
          rotate_left
          ·simp only [Act.put, List.setIfInBounds_toArray, List.set_cons_zero, List.set_cons_succ, i64_w, i32_w]
           rfl
          refine take_ (i := 5) (N := some 150) (v := ?_) (a' := ?_) #[true, true, true, true, true, true, false, false, false, false, false, false, false, false, false, false] rfl rfl (by as_aux_lemma => kernel_rfl) (fun _ _ _ h => h) (Or.inl ⟨by rfl, ?_⟩) hHeld ?_ ?_
          rotate_left
          ·intro w' s1
           go_simp
           with_reducible rfl
          rotate_left
          ·simp only [Act.put, List.setIfInBounds_toArray, List.set_cons_zero, List.set_cons_succ, i64_w, i32_w]
           rfl
          refine pure_ (i := 7) (N := some 152) (v := ?_) (a' := ?_) #[true, true, true, true, true, true, false, true, false, false, false, false, false, false, false, false] rfl rfl (by as_aux_lemma => kernel_rfl) (fun _ _ _ h => h) (Or.inl ⟨by rfl, ?_⟩) ?_ ?_
          rotate_left
          ·intro w'
           go_simp
           with_reducible rfl
          rotate_left
          ·simp only [Act.put, List.setIfInBounds_toArray, List.set_cons_zero, List.set_cons_succ, i64_w, i32_w]
           rfl
          refine pure_ (i := 8) (N := some 153) (v := ?_) (a' := ?_) #[true, true, true, true, true, true, false, true, true, false, false, false, false, false, false, false] rfl rfl (by as_aux_lemma => kernel_rfl) (fun _ _ _ h => h) (Or.inl ⟨by rfl, ?_⟩) ?_ ?_
          rotate_left
          ·intro w'
           go_simp
           with_reducible rfl
          rotate_left
          ·simp only [Act.put, List.setIfInBounds_toArray, List.set_cons_zero, List.set_cons_succ, i64_w, i32_w]
           rfl
          refine pure_ (i := 9) (N := some 154) (v := ?_) (a' := ?_) #[true, true, true, true, true, true, false, true, true, true, false, false, false, false, false, false] rfl rfl (by as_aux_lemma => kernel_rfl) (fun _ _ _ h => h) (Or.inl ⟨by rfl, ?_⟩) ?_ ?_
          rotate_left
          ·intro w'
           go_simp
           with_reducible rfl
          rotate_left
          ·simp only [Act.put, List.setIfInBounds_toArray, List.set_cons_zero, List.set_cons_succ, i64_w, i32_w]
           rfl
          refine pure_ (i := 10) (N := some 155) (v := ?_) (a' := ?_) #[true, true, true, true, true, true, false, true, true, true, true, false, false, false, false, false] rfl rfl (by as_aux_lemma => kernel_rfl) (fun _ _ _ h => h) (Or.inl ⟨by rfl, ?_⟩) ?_ ?_
          rotate_left
          ·intro w'
           go_simp
           with_reducible rfl
          rotate_left
          ·simp only [Act.put, List.setIfInBounds_toArray, List.set_cons_zero, List.set_cons_succ, i64_w, i32_w]
           rfl
          refine pure_ (i := 11) (N := some 156) (v := ?_) (a' := ?_) #[true, true, true, true, true, true, false, true, true, true, true, true, false, false, false, false] rfl rfl (by as_aux_lemma => kernel_rfl) (fun _ _ _ h => h) (Or.inl ⟨by rfl, ?_⟩) ?_ ?_
          rotate_left
          ·intro w'
           go_simp
           with_reducible rfl
          rotate_left
          ·simp only [Act.put, List.setIfInBounds_toArray, List.set_cons_zero, List.set_cons_succ, i64_w, i32_w]
           rfl
          refine take_ (i := 12) (N := some 157) (v := ?_) (a' := ?_) #[true, true, true, true, true, true, false, true, true, true, true, true, true, false, false, false] rfl rfl (by as_aux_lemma => kernel_rfl) (fun _ _ _ h => h) (Or.inl ⟨by rfl, ?_⟩) hHeld ?_ ?_
          rotate_left
          ·intro w' s1
           go_simp
           with_reducible rfl
          rotate_left
          ·simp only [Act.put, List.setIfInBounds_toArray, List.set_cons_zero, List.set_cons_succ, i64_w, i32_w]
           rfl
          refine one_ (i := 6) (N := some 151) #[true, true, true, true, true, true, true, true, true, true, true, true, true, false, false, false] rfl rfl (by as_aux_lemma => kernel_rfl) (by decide) (fun K hK => ?_)
          have hq := lappend_any _ _ _ _ _ _ _ _ _ _ _ _ _ HLd.out r HPR.out.1 HPR.out.2
          rw [HA.out] at hq
          refine goes_ Try.func15 (by as_aux_lemma => kernel_rfl) rfl #[.pointer (some ⟨q, 0, none⟩), .string (bs r)] (by rfl) rfl rfl (by (try simp only [List.map_toArray, List.map_cons, List.map_nil]); first | done | rfl) ?_
          refine (hq).mono ?_
          clear hq
          rintro e' wa ⟨rfl, ⟨v2, vr2, hla, hfa, hga⟩, hea⟩
          have HLa := Lib.hid hla
          have HRa := Lib.hid (HRd.out.kept hea (rl_far HLd.out HRd.out HX.out))
          have HXa := Lib.hid (show ∀ b, vr2.ownBlock = some b → (Value.slice (some ⟨gd, 0, none⟩) n cd).ownBlock ≠ some b ∧ rvr.ownBlock ≠ some b from fun b hb => ⟨fresh_far hga (fun b hb => (HRd.out.d.dur.lt b hb).2) (fun b hb => (HX.out b hb).1) b hb, fresh_far hga (fun b hb => (HRd.out.r.lt b hb).2) (fun b hb => (HX.out b hb).2) b hb⟩)
          have HBa := Lib.hid (HBd.out.trans ((HLd.out.step hea).mono hs9))
          clear hla hfa hga hea
          refine ⟨_, rfl, ?_⟩
          refine hK.out _ _ (HCB.out _ HBa.out) (fun hHeld2 => ?_)
          clear hK K hHeld
          have hHeld := hHeld2
          clear hHeld2
          refine norm_ (a' := ?_) ?_ ?_
          rotate_left
          ·show Act.put _ (some 151) _ = _
           simp only [Act.put, List.setIfInBounds_toArray, List.set_cons_zero, List.set_cons_succ, i64_w, i32_w]
           rfl
          refine one_ (i := 13) (N := some 158) #[true, true, true, true, true, true, true, true, true, true, true, true, true, true, false, false] rfl rfl (by as_aux_lemma => kernel_rfl) (by decide) (fun K hK => ?_)
          have hq := rlappend_any _ _ _ _ _ _ _ _ _ _ _ _ _ HRa.out r HPR.out.1 HPR.out.2
          rw [HA.out] at hq
          refine goes_ Try.func38 (by as_aux_lemma => kernel_rfl) rfl #[.pointer (some ⟨rq, 0, none⟩), .string (bs r)] (by rfl) rfl rfl (by (try simp only [List.map_toArray, List.map_cons, List.map_nil]); first | done | rfl) ?_
          refine (hq).mono ?_
          clear hq
          rintro e' wb ⟨rfl, ⟨ru2, rvr2, hrb, hgb⟩, heb⟩
          have HRb := Lib.hid hrb
          have HLb := Lib.hid (HLa.out.kept heb fun b hb hk => rl_far HLa.out HRa.out HXa.out b hk hb)
          have HXb := Lib.hid (show ∀ b, vr2.ownBlock = some b → (Value.slice (some ⟨gd, 0, none⟩) n cd).ownBlock ≠ some b ∧ rvr2.ownBlock ≠ some b from fun b hb => ⟨(HXa.out b hb).1, fun e1 => fresh_far hgb (fun b hb => (HLa.out.r.lt b hb).2) (fun b h1 h2 => (HXa.out b h2).2 h1) b e1 hb⟩)
          have HBb := Lib.hid (HBa.out.trans ((HRa.out.step heb).mono hs10))
          clear hrb hgb heb
          refine ⟨_, rfl, ?_⟩
          refine hK.out _ _ (HCB.out _ HBb.out) (fun hHeld2 => ?_)
          clear hK K hHeld
          have hHeld := hHeld2
          clear hHeld2
          refine norm_ (a' := ?_) ?_ ?_
          rotate_left
          ·show Act.put _ (some 158) _ = _
           simp only [Act.put, List.setIfInBounds_toArray, List.set_cons_zero, List.set_cons_succ, i64_w, i32_w]
           rfl
          refine pure_ (i := 14) (N := some 159) (v := ?_) (a' := ?_) #[true, true, true, true, true, true, true, true, true, true, true, true, true, true, true, false] rfl rfl (by as_aux_lemma => kernel_rfl) (fun _ _ _ h => h) (Or.inl ⟨by rfl, ?_⟩) ?_ ?_
          rotate_left
          ·intro w'
           go_simp
           with_reducible rfl
          rotate_left
          ·simp only [Act.put, List.setIfInBounds_toArray, List.set_cons_zero, List.set_cons_succ, i64_w, i32_w]
           rfl
          refine pure_ (i := 15) (N := some 23) (v := ?_) (a' := ?_) #[true, true, true, true, true, true, true, true, true, true, true, true, true, true, true, true] rfl rfl (by as_aux_lemma => kernel_rfl) (fun _ _ _ h => h) (Or.inl ⟨by rfl, ?_⟩) ?_ ?_
          rotate_left
          ·intro w'
           go_simp
           with_reducible rfl
          rotate_left
          ·simp only [Act.put, List.setIfInBounds_toArray, List.set_cons_zero, List.set_cons_succ, i64_w, i32_w]
           rfl
          refine done_ (by as_aux_lemma => kernel_rfl) ?_
          go_wp2_with fail
          go_meet
          exact ⟨q, rq, v2, vr2, ru2, rvr2, D1, P2, R2, s, e2, rfl, rfl, rfl, HLb.out, HRb.out, HXb.out, HP2.out, HBb.out⟩
        ·
          clear hc
          go_wp2_with fail
          refine (lsync_ok _ _ _ _ _ _ _ _ _ _ _ _ _ HL14.out).mono ?_
          rintro e' wa ⟨rfl, ⟨v2, hla, hva⟩, hea⟩
          have HLa := Lib.hid hla
          have HRa := Lib.hid (HR14.out.kept hea (rl_far HL14.out HR14.out HX.out))
          have HBa := Lib.hid (HW14.out.trans ((HL14.out.step hea).mono hs9))
          clear hla hva hea
          go_wp2_with fail
          refine (rlsync_ok _ _ _ _ _ _ _ _ _ _ _ _ _ HRa.out).mono ?_
          rintro e' wb ⟨rfl, hrb, heb⟩
          have HRb := Lib.hid hrb
          have HLb := Lib.hid (HLa.out.kept heb fun b hb hk => rl_far HLa.out HRa.out HX.out b hk hb)
          have HBb := Lib.hid (HBa.out.trans ((HRa.out.step heb).mono hs10))
          clear hrb heb
          go_wp2_with fail
          go_meet
          exact ⟨q, rq, v2, vr, _, rvr, _, [], R, R.length, e, rfl, rfl, rfl, HLb.out, HRb.out, HX.out, ⟨by simp, by have := HP.out; omega⟩, HBb.out⟩
        ·
          obtain ⟨cs, hcs⟩ : ∃ cs, cs = l[k].cuts := ⟨_, rfl⟩
          obtain ⟨ca, cc, hc2, hci, hcn⟩ := (hc k hlt).2.2
          rw [← hcs] at hc2 hci
          have hc40 : cs.length ≤ 40 := by rw [hcs]; exact HLT.out.1 k hlt
          have HC2 := Lib.hid (show ∀ w', Below w.heap.size w w' → w'.cell? ⟨bl, of + k * 3 + 2, none⟩ = some (.slice ca cs.length cc) from fun w' hb => (hb.cell (p := ⟨bl, of + k * 3 + 2, none⟩) hbl).trans hc2)
          have HCI := Lib.hid (And.intro hci hcn)
          have hcc := HC2.out _ HW14.out
          clear hcs hc2 hci hcn hc
          go_wp2_with fail
          refine (own_ints _ cs _ _ (HCI.out.1.below HW14.out (Nat.le_refl _)) (by omega) HCI.out.2).mono ?_
          rintro e_ w15 ⟨iv, rfl, hiv, hb15⟩
          have HW15 := Lib.hid (HW14.out.trans (hb15.mono HW14.out.size))
          have HL15 := Lib.hid (HL14.out.new hb15)
          have HR15 := Lib.hid (HR14.out.new hb15)
          have HIV := Lib.hid hiv
          clear hb15 hiv hcc
          go_wp2_with fail
          refine (crash_ok _ _ _ _ _ _ _ _ HL15.out.d _ cs (ints_own HIV.out) (fun a n c e => own_far HL15.out.d HIV.out (by decide) (by decide) (by decide) _ (by rw [e]; rfl)) (by omega)).mono ?_
          rintro e_ w16 ⟨rfl, ⟨v16, hd16, _⟩, he16⟩
          have HD16 := Lib.hid hd16
          have HR16 := Lib.hid (HR15.out.kept he16 fun b hb hk => rl_far HL15.out HR15.out HX.out b hb (.inl hk))
          have HW16 := Lib.hid (HW15.out.trans ((HL15.out.d.step he16).mono hs9))
          have hcc := HC2.out _ HW16.out
          clear hd16 he16
          go_wp2_with fail
          refine (refcrash_ok _ _ _ _ _ _ _ _ HR16.out.d _ cs (HCI.out.1.below HW16.out (Nat.le_refl _)) (fun a n c e h0 hk => by
            obtain ⟨a', c', e', hh⟩ := HCI.out.1
            obtain ⟨ad, e2, hlt2, _⟩ := hh h0
            cases e'
            cases e
            cases e2
            have := (HR16.out.d.lt _ hk).1
            omega) (by omega)).mono ?_
          rintro e_ w17 ⟨rfl, hr17, he17⟩
          have HE17 := Lib.hid hr17
          have HD17 := Lib.hid (HD16.out.kept he17 fun b hb hk => far_ref HD16.out HR16.out.d b hk hb)
          have HW17 := Lib.hid (HW16.out.trans ((HR16.out.d.step he17).mono hs10))
          obtain ⟨I, hI⟩ : ∃ I, I = crashK D1 P (cutN cs) P.length := ⟨_, rfl⟩
          rw [← hI] at HE17 HD17
          clear hr17 he17 hcc hI
          go_wp2_with fail
          refine (open_ok _ _ _ _ _ _ _ _ HD17.out (by simp)).mono ?_
          rintro e_ w18 ⟨vr2, v2, rfl, hl18, hv18, hvr18, he18⟩
          rw [sync_none] at hl18
          have HB18 := Lib.hid (HW17.out.trans ((HD17.out.step he18).mono hs9))
          have HE18 := Lib.hid (HE17.out.kept he18 (far_ref HD17.out HE17.out))
          have HL18 := Lib.hid hl18
          have HV18 := Lib.hid (show ∀ b, vr2.ownBlock = some b → (Value.slice (some ⟨gd, 0, none⟩) n cd).ownBlock ≠ some b from fun b hb e1 => by
            have h1 := hvr18 b hb
            have h2 := (HE17.out.dur.lt b e1).2
            omega)
          clear hl18 he18 hv18 hvr18
          go_wp2_with fail
          refine (ropen_ok _ _ _ _ _ _ _ _ HE18.out (by simp)).mono ?_
          rintro e_ w19 ⟨rq2, rvr2, rfl, hr19, hrq, hrvr, he19⟩
          rw [sync_none] at hr19
          have HR19 := Lib.hid hr19
          have HL19 := Lib.hid (HL18.out.kept he19 fun b hb hk => by
            rcases hb with hb | rfl | hb
            · exact far_ref HL18.out.d HE18.out b hk hb
            · rcases hk with e1 | e1 | e1
              · exact blk_ne HL18.out.l HE18.out.blk (by decide) e1
              · exact row_ne HE18.out.dur HL18.out.l (by decide) e1
              · exact row_ne HE18.out.pend HL18.out.l (by decide) e1
            · rcases hk with e1 | e1 | e1
              · exact row_ne HL18.out.r HE18.out.blk (by decide) (e1 ▸ hb)
              · exact HV18.out b hb e1
              · exact rows_ne HL18.out.r HE18.out.pend (by decide) b hb e1)
          have HX19 := Lib.hid (show ∀ b, vr2.ownBlock = some b → (Value.slice (some ⟨gd, 0, none⟩) n cd).ownBlock ≠ some b ∧ rvr2.ownBlock ≠ some b from fun b hb => ⟨HV18.out b hb, fun e1 => by
            have h1 := hrvr b e1
            have h2 := (HL18.out.r.lt b hb).2
            omega⟩)
          have HB19 := Lib.hid (HB18.out.trans ((he19.below HE18.out.base fun i hi => (HE18.out.lt i hi).1).mono hs10))
          have hrl := found_recs_le I
          have hIl : I.length = n * 512 := HE18.out.len
          clear hr19 hrq hrvr he19
          go_wp2_with fail
          go_meet
          exact ⟨_, rq2, v2, vr2, _, rvr2, _, [], (found I).recs, _, _, rfl, rfl, rfl, HL19.out, HR19.out, HX19.out, ⟨by simp, by omega⟩, HB19.out⟩
      case rest =>
        obtain ⟨q, rq, v, vr, ru, rvr, D2, P, R, s, e, rfl, rfl, rfl, HL, HR, HX, HP, HW⟩ := hcut
        obtain ⟨ua, uc, rfl⟩ := len_of_own HR.out.d.pend
        obtain ⟨ra, rc2, rfl⟩ := len_of_own HR.out.r
        have hen := HL.out.he
        obtain ⟨j, hj⟩ : ∃ j, j = n - e := ⟨_, rfl⟩
        have hjs : j ≤ 12 := by omega
        have HJZ := Lib.hid (wrap_small j hjs)
        have hje : (n : Int) - (e : Int) = (j : Int) := by omega
        have HJ := Lib.hid hj
        obtain ⟨I, hI⟩ : ∃ I, I = syncD D2 P := ⟨_, rfl⟩
        have HI := Lib.hid hI
        have hqI : ((bs I).toList == (bs I).toList) = true := beq_self_eq_true _
        have HRF := Lib.hid (show R.length ≤ 1000000 from by have := HP.out; omega)
        have HCS := Lib.hid (show ∀ w', Below wc.heap.size wc w' → w'.cell? ⟨rq, 1, none⟩ = some (.slice ra R.length rc2) ∧ w'.cell? ⟨rq, 2, none⟩ = some (.int .i64 (s : Int)) ∧ w'.cell? ⟨rq, 3, none⟩ = some (.int .i64 (e : Int)) ∧ w'.cell? ⟨w10.heap.size, 0, none⟩ = some (.slice (some ⟨gd, 0, none⟩) n cd) ∧ w'.cell? ⟨w10.heap.size, 1, none⟩ = some (.slice ua P.length uc) from fun w' hb => ⟨(HR.out.new hb).l.cell 1, (HR.out.new hb).l.cell 2, (HR.out.new hb).l.cell 3, (HR.out.new hb).d.c0, (HR.out.new hb).d.c1⟩)
        have HB := Lib.hid (show Below wc.heap.size wc wc.drew from (Below.refl _ wc).drew)
        clear hj hI
        go_wp2_with fail
        refine start_ (n := 63) (S := (fun w' => w'.cell? ⟨rq, 1, none⟩ = some (.slice ra R.length rc2) ∧ w'.cell? ⟨rq, 2, none⟩ = some (.int .i64 (s : Int)) ∧ w'.cell? ⟨rq, 3, none⟩ = some (.int .i64 (e : Int)) ∧ w'.cell? ⟨w10.heap.size, 0, none⟩ = some (.slice (some ⟨gd, 0, none⟩) n cd) ∧ w'.cell? ⟨w10.heap.size, 1, none⟩ = some (.slice ua P.length uc))) (ds := []) #[false, false, false, false, false, false, false, false, false, false, false, false, false, false, false, false, false, false, false, false, false, false, false, false, false, false, false, false, false, false, false, false, false, false, false, false, false, false, false, false, false, false, false, false, false, false, false, false, false, false, false, false, false, false, false, false, false, false, false, false, false, false, false] (by as_aux_lemma => kernel_rfl) rfl rfl (HCS.out _ HB.out) (fun hHeld => ?_)
        refine pure_ (i := 0) (N := some 167) (v := ?_) (a' := ?_) #[true, false, false, false, false, false, false, false, false, false, false, false, false, false, false, false, false, false, false, false, false, false, false, false, false, false, false, false, false, false, false, false, false, false, false, false, false, false, false, false, false, false, false, false, false, false, false, false, false, false, false, false, false, false, false, false, false, false, false, false, false, false, false] rfl rfl (by as_aux_lemma => kernel_rfl) (fun _ _ _ h => h) (Or.inl ⟨by rfl, ?_⟩) ?_ ?_
        rotate_left
        ·intro w'
         go_simp
         with_reducible rfl
        rotate_left
        ·simp only [Act.put, List.setIfInBounds_toArray, List.set_cons_zero, List.set_cons_succ, i64_w, i32_w]
         rfl
        refine pure_ (i := 1) (N := some 168) (v := ?_) (a' := ?_) #[true, true, false, false, false, false, false, false, false, false, false, false, false, false, false, false, false, false, false, false, false, false, false, false, false, false, false, false, false, false, false, false, false, false, false, false, false, false, false, false, false, false, false, false, false, false, false, false, false, false, false, false, false, false, false, false, false, false, false, false, false, false, false] rfl rfl (by as_aux_lemma => kernel_rfl) (fun _ _ _ h => h) (Or.inl ⟨by rfl, ?_⟩) ?_ ?_
        rotate_left
        ·intro w'
         go_simp
         with_reducible rfl
        rotate_left
        ·simp only [Act.put, List.setIfInBounds_toArray, List.set_cons_zero, List.set_cons_succ, i64_w, i32_w]
         rfl
        refine pure_ (i := 2) (N := some 169) (v := ?_) (a' := ?_) #[true, true, true, false, false, false, false, false, false, false, false, false, false, false, false, false, false, false, false, false, false, false, false, false, false, false, false, false, false, false, false, false, false, false, false, false, false, false, false, false, false, false, false, false, false, false, false, false, false, false, false, false, false, false, false, false, false, false, false, false, false, false, false] rfl rfl (by as_aux_lemma => kernel_rfl) (fun _ _ _ h => h) (Or.inl ⟨by rfl, ?_⟩) ?_ ?_
        rotate_left
        ·intro w'
         go_simp
         with_reducible rfl
        rotate_left
        ·simp only [Act.put, List.setIfInBounds_toArray, List.set_cons_zero, List.set_cons_succ, i64_w, i32_w]
         rfl
        refine pure_ (i := 3) (N := some 170) (v := ?_) (a' := ?_) #[true, true, true, true, false, false, false, false, false, false, false, false, false, false, false, false, false, false, false, false, false, false, false, false, false, false, false, false, false, false, false, false, false, false, false, false, false, false, false, false, false, false, false, false, false, false, false, false, false, false, false, false, false, false, false, false, false, false, false, false, false, false, false] rfl rfl (by as_aux_lemma => kernel_rfl) (fun _ _ _ h => h) (Or.inl ⟨by rfl, ?_⟩) ?_ ?_
        rotate_left
        ·intro w'
         go_simp
         with_reducible rfl
        rotate_left
        ·simp only [Act.put, List.setIfInBounds_toArray, List.set_cons_zero, List.set_cons_succ, i64_w, i32_w]
         rfl
        refine pure_ (i := 5) (N := some 172) (v := ?_) (a' := ?_) #[true, true, true, true, false, true, false, false, false, false, false, false, false, false, false, false, false, false, false, false, false, false, false, false, false, false, false, false, false, false, false, false, false, false, false, false, false, false, false, false, false, false, false, false, false, false, false, false, false, false, false, false, false, false, false, false, false, false, false, false, false, false, false] rfl rfl (by as_aux_lemma => kernel_rfl) (fun _ _ _ h => h) (Or.inl ⟨by rfl, ?_⟩) ?_ ?_
        rotate_left
        ·intro w'
         go_simp
         with_reducible rfl
        rotate_left
        ·simp only [Act.put, List.setIfInBounds_toArray, List.set_cons_zero, List.set_cons_succ, i64_w, i32_w]
         rfl
        refine pure_ (i := 6) (N := some 173) (v := ?_) (a' := ?_) #[true, true, true, true, false, true, true, false, false, false, false, false, false, false, false, false, false, false, false, false, false, false, false, false, false, false, false, false, false, false, false, false, false, false, false, false, false, false, false, false, false, false, false, false, false, false, false, false, false, false, false, false, false, false, false, false, false, false, false, false, false, false, false] rfl rfl (by as_aux_lemma => kernel_rfl) (fun _ _ _ h => h) (Or.inl ⟨by rfl, ?_⟩) ?_ ?_
        rotate_left
        ·intro w'
         go_simp
         with_reducible rfl
        rotate_left
        ·simp only [Act.put, List.setIfInBounds_toArray, List.set_cons_zero, List.set_cons_succ, i64_w, i32_w]
         rfl
        refine pure_ (i := 7) (N := some 174) (v := ?_) (a' := ?_) #[true, true, true, true, false, true, true, true, false, false, false, false, false, false, false, false, false, false, false, false, false, false, false, false, false, false, false, false, false, false, false, false, false, false, false, false, false, false, false, false, false, false, false, false, false, false, false, false, false, false, false, false, false, false, false, false, false, false, false, false, false, false, false] rfl rfl (by as_aux_lemma => kernel_rfl) (fun _ _ _ h => h) (Or.inl ⟨by rfl, ?_⟩) ?_ ?_
        rotate_left
        ·intro w'
         go_simp
         with_reducible rfl
        rotate_left
        ·simp only [Act.put, List.setIfInBounds_toArray, List.set_cons_zero, List.set_cons_succ, i64_w, i32_w]
         rfl
        refine take_ (i := 8) (N := some 175) (v := ?_) (a' := ?_) #[true, true, true, true, false, true, true, true, true, false, false, false, false, false, false, false, false, false, false, false, false, false, false, false, false, false, false, false, false, false, false, false, false, false, false, false, false, false, false, false, false, false, false, false, false, false, false, false, false, false, false, false, false, false, false, false, false, false, false, false, false, false, false] rfl rfl (by as_aux_lemma => kernel_rfl) (fun _ _ _ h => h) (Or.inl ⟨by rfl, ?_⟩) hHeld ?_ ?_
        rotate_left
        ·rintro w' ⟨s1, s2, s3, s4, s5⟩
         go_simp
         with_reducible rfl
        rotate_left
        ·simp only [Act.put, List.setIfInBounds_toArray, List.set_cons_zero, List.set_cons_succ, i64_w, i32_w]
         rfl
        refine one_ (i := 4) (N := some 171) #[true, true, true, true, true, true, true, true, true, false, false, false, false, false, false, false, false, false, false, false, false, false, false, false, false, false, false, false, false, false, false, false, false, false, false, false, false, false, false, false, false, false, false, false, false, false, false, false, false, false, false, false, false, false, false, false, false, false, false, false, false, false, false] rfl rfl (by as_aux_lemma => kernel_rfl) (by decide) (fun K hK => ?_)
        refine goes_ Try.func30 (by as_aux_lemma => kernel_rfl) rfl #[.pointer (some ⟨q, 0, none⟩)] (by rfl) rfl rfl (by (try simp only [List.map_toArray, List.map_cons, List.map_nil]); first | done | rfl) ?_
        refine (lrecords_ok _ _ _ _ _ _ _ _ _ _ _ _ _ (HL.out.new HB.out)).mono ?_
        rintro e' wt ⟨tv, rfl, htv, hbn⟩
        have HBn := Lib.hid (HB.out.trans (hbn.mono HB.out.size))
        clear HB
        obtain ⟨HB⟩ : Nonempty (Hid (Below wc.heap.size wc wt)) := ⟨HBn⟩
        clear HBn
        have HTT := Lib.hid (Texts.own htv)
        obtain ⟨ta, tc, rfl⟩ := len_of_own htv
        clear htv hbn
        refine ⟨_, rfl, ?_⟩
        refine hK.out _ _ (HCS.out _ HB.out) (fun hHeld2 => ?_)
        clear hK K hHeld
        have hHeld := hHeld2
        clear hHeld2
        refine norm_ (a' := ?_) ?_ ?_
        rotate_left
        ·show Act.put _ (some 171) _ = _
         simp only [Act.put, List.setIfInBounds_toArray, List.set_cons_zero, List.set_cons_succ, i64_w, i32_w]
         rfl
        refine one_ (i := 9) (N := some 176) #[true, true, true, true, true, true, true, true, true, true, false, false, false, false, false, false, false, false, false, false, false, false, false, false, false, false, false, false, false, false, false, false, false, false, false, false, false, false, false, false, false, false, false, false, false, false, false, false, false, false, false, false, false, false, false, false, false, false, false, false, false, false, false] rfl rfl (by as_aux_lemma => kernel_rfl) (by decide) (fun K hK => ?_)
        refine goes_ Try.func27 (by as_aux_lemma => kernel_rfl) rfl #[.slice ta R.length tc, .slice ra R.length rc2] (by rfl) rfl rfl (by (try simp only [List.map_toArray, List.map_cons, List.map_nil]); first | done | rfl) ?_
        refine (same_ok _ _ R R _ HTT.out (Texts.own (HR.out.new HB.out).r) HRF.out HRF.out).mono ?_
        rintro e' wu ⟨rfl, hbn⟩
        have HBn := Lib.hid (HB.out.trans (hbn.mono HB.out.size))
        clear HB
        obtain ⟨HB⟩ : Nonempty (Hid (Below wc.heap.size wc wu)) := ⟨HBn⟩
        clear HBn
        rw [decide_eq_true (rfl : R = R)]
        clear hbn
        refine ⟨_, rfl, ?_⟩
        refine hK.out _ _ (HCS.out _ HB.out) (fun hHeld2 => ?_)
        clear hK K hHeld
        have hHeld := hHeld2
        clear hHeld2
        refine norm_ (a' := ?_) ?_ ?_
        rotate_left
        ·show Act.put _ (some 176) _ = _
         simp only [Act.put, List.setIfInBounds_toArray, List.set_cons_zero, List.set_cons_succ, i64_w, i32_w]
         rfl
        refine pure_ (i := 10) (N := some 177) (v := ?_) (a' := ?_) #[true, true, true, true, true, true, true, true, true, true, true, false, false, false, false, false, false, false, false, false, false, false, false, false, false, false, false, false, false, false, false, false, false, false, false, false, false, false, false, false, false, false, false, false, false, false, false, false, false, false, false, false, false, false, false, false, false, false, false, false, false, false, false] rfl rfl (by as_aux_lemma => kernel_rfl) (fun _ _ _ h => h) (Or.inl ⟨by rfl, ?_⟩) ?_ ?_
        rotate_left
        ·intro w'
         go_simp
         with_reducible rfl
        rotate_left
        ·simp only [Act.put, List.setIfInBounds_toArray, List.set_cons_zero, List.set_cons_succ, i64_w, i32_w]
         rfl
        refine pure_ (i := 11) (N := some 178) (v := ?_) (a' := ?_) #[true, true, true, true, true, true, true, true, true, true, true, true, false, false, false, false, false, false, false, false, false, false, false, false, false, false, false, false, false, false, false, false, false, false, false, false, false, false, false, false, false, false, false, false, false, false, false, false, false, false, false, false, false, false, false, false, false, false, false, false, false, false, false] rfl rfl (by as_aux_lemma => kernel_rfl) (fun _ _ _ h => h) (Or.inl ⟨by rfl, ?_⟩) ?_ ?_
        rotate_left
        ·intro w'
         go_simp
         with_reducible rfl
        rotate_left
        ·simp only [Act.put, List.setIfInBounds_toArray, List.set_cons_zero, List.set_cons_succ, i64_w, i32_w]
         rfl
        refine pure_ (i := 12) (N := some 179) (v := ?_) (a' := ?_) #[true, true, true, true, true, true, true, true, true, true, true, true, true, false, false, false, false, false, false, false, false, false, false, false, false, false, false, false, false, false, false, false, false, false, false, false, false, false, false, false, false, false, false, false, false, false, false, false, false, false, false, false, false, false, false, false, false, false, false, false, false, false, false] rfl rfl (by as_aux_lemma => kernel_rfl) (fun _ _ _ h => h) (Or.inl ⟨by rfl, ?_⟩) ?_ ?_
        rotate_left
        ·intro w'
         go_simp
         with_reducible rfl
        rotate_left
        ·simp only [Act.put, List.setIfInBounds_toArray, List.set_cons_zero, List.set_cons_succ, i64_w, i32_w]
         rfl
        refine pure_ (i := 13) (N := some 180) (v := ?_) (a' := ?_) #[true, true, true, true, true, true, true, true, true, true, true, true, true, true, false, false, false, false, false, false, false, false, false, false, false, false, false, false, false, false, false, false, false, false, false, false, false, false, false, false, false, false, false, false, false, false, false, false, false, false, false, false, false, false, false, false, false, false, false, false, false, false, false] rfl rfl (by as_aux_lemma => kernel_rfl) (fun _ _ _ h => h) (Or.inl ⟨by rfl, ?_⟩) ?_ ?_
        rotate_left
        ·intro w'
         go_simp
         with_reducible rfl
        rotate_left
        ·simp only [Act.put, List.setIfInBounds_toArray, List.set_cons_zero, List.set_cons_succ, i64_w, i32_w]
         rfl
        refine pure_ (i := 15) (N := some 182) (v := ?_) (a' := ?_) #[true, true, true, true, true, true, true, true, true, true, true, true, true, true, false, true, false, false, false, false, false, false, false, false, false, false, false, false, false, false, false, false, false, false, false, false, false, false, false, false, false, false, false, false, false, false, false, false, false, false, false, false, false, false, false, false, false, false, false, false, false, false, false] rfl rfl (by as_aux_lemma => kernel_rfl) (fun _ _ _ h => h) (Or.inl ⟨by rfl, ?_⟩) ?_ ?_
        rotate_left
        ·intro w'
         go_simp
         with_reducible rfl
        rotate_left
        ·simp only [Act.put, List.setIfInBounds_toArray, List.set_cons_zero, List.set_cons_succ, i64_w, i32_w]
         rfl
        refine pure_ (i := 16) (N := some 183) (v := ?_) (a' := ?_) #[true, true, true, true, true, true, true, true, true, true, true, true, true, true, false, true, true, false, false, false, false, false, false, false, false, false, false, false, false, false, false, false, false, false, false, false, false, false, false, false, false, false, false, false, false, false, false, false, false, false, false, false, false, false, false, false, false, false, false, false, false, false, false] rfl rfl (by as_aux_lemma => kernel_rfl) (fun _ _ _ h => h) (Or.inl ⟨by rfl, ?_⟩) ?_ ?_
        rotate_left
        ·intro w'
         go_simp
         with_reducible rfl
        rotate_left
        ·simp only [Act.put, List.setIfInBounds_toArray, List.set_cons_zero, List.set_cons_succ, i64_w, i32_w]
         rfl
        refine pure_ (i := 17) (N := some 184) (v := ?_) (a' := ?_) #[true, true, true, true, true, true, true, true, true, true, true, true, true, true, false, true, true, true, false, false, false, false, false, false, false, false, false, false, false, false, false, false, false, false, false, false, false, false, false, false, false, false, false, false, false, false, false, false, false, false, false, false, false, false, false, false, false, false, false, false, false, false, false] rfl rfl (by as_aux_lemma => kernel_rfl) (fun _ _ _ h => h) (Or.inl ⟨by rfl, ?_⟩) ?_ ?_
        rotate_left
        ·intro w'
         go_simp
         with_reducible rfl
        rotate_left
        ·simp only [Act.put, List.setIfInBounds_toArray, List.set_cons_zero, List.set_cons_succ, i64_w, i32_w]
         rfl
        refine take_ (i := 18) (N := some 185) (v := ?_) (a' := ?_) #[true, true, true, true, true, true, true, true, true, true, true, true, true, true, false, true, true, true, true, false, false, false, false, false, false, false, false, false, false, false, false, false, false, false, false, false, false, false, false, false, false, false, false, false, false, false, false, false, false, false, false, false, false, false, false, false, false, false, false, false, false, false, false] rfl rfl (by as_aux_lemma => kernel_rfl) (fun _ _ _ h => h) (Or.inl ⟨by rfl, ?_⟩) hHeld ?_ ?_
        rotate_left
        ·rintro w' ⟨s1, s2, s3, s4, s5⟩
         go_simp
         with_reducible rfl
        rotate_left
        ·simp only [Act.put, List.setIfInBounds_toArray, List.set_cons_zero, List.set_cons_succ, i64_w, i32_w]
         rfl
        refine one_ (i := 14) (N := some 181) #[true, true, true, true, true, true, true, true, true, true, true, true, true, true, true, true, true, true, true, false, false, false, false, false, false, false, false, false, false, false, false, false, false, false, false, false, false, false, false, false, false, false, false, false, false, false, false, false, false, false, false, false, false, false, false, false, false, false, false, false, false, false, false] rfl rfl (by as_aux_lemma => kernel_rfl) (by decide) (fun K hK => ?_)
        refine goes_ Try.func29 (by as_aux_lemma => kernel_rfl) rfl #[.pointer (some ⟨q, 0, none⟩)] (by rfl) rfl rfl (by (try simp only [List.map_toArray, List.map_cons, List.map_nil]); first | done | rfl) ?_
        refine (lsynced_ok _ _ _ _ _ _ (HL.out.new HB.out).l).mono ?_
        rintro e' w' ⟨rfl, rfl⟩
        refine ⟨_, rfl, ?_⟩
        refine hK.out _ _ (hHeld) (fun hHeld2 => ?_)
        clear hK K hHeld
        have hHeld := hHeld2
        clear hHeld2
        refine norm_ (a' := ?_) ?_ ?_
        rotate_left
        ·show Act.put _ (some 181) _ = _
         simp only [Act.put, List.setIfInBounds_toArray, List.set_cons_zero, List.set_cons_succ, i64_w, i32_w]
         rfl
        refine pure_ (i := 19) (N := some 186) (v := ?_) (a' := ?_) #[true, true, true, true, true, true, true, true, true, true, true, true, true, true, true, true, true, true, true, true, false, false, false, false, false, false, false, false, false, false, false, false, false, false, false, false, false, false, false, false, false, false, false, false, false, false, false, false, false, false, false, false, false, false, false, false, false, false, false, false, false, false, false] rfl rfl (by as_aux_lemma => kernel_rfl) (fun _ _ _ h => h) (Or.inl ⟨by rfl, ?_⟩) ?_ ?_
        rotate_left
        ·intro w'
         go_simp
         with_reducible rfl
        rotate_left
        ·simp only [Act.put, List.setIfInBounds_toArray, List.set_cons_zero, List.set_cons_succ, i64_w, i32_w]
         rfl
        refine pure_ (i := 20) (N := some 187) (v := ?_) (a' := ?_) #[true, true, true, true, true, true, true, true, true, true, true, true, true, true, true, true, true, true, true, true, true, false, false, false, false, false, false, false, false, false, false, false, false, false, false, false, false, false, false, false, false, false, false, false, false, false, false, false, false, false, false, false, false, false, false, false, false, false, false, false, false, false, false] rfl rfl (by as_aux_lemma => kernel_rfl) (fun _ _ _ h => h) (Or.inl ⟨by rfl, ?_⟩) ?_ ?_
        rotate_left
        ·intro w'
         go_simp
         with_reducible rfl
        rotate_left
        ·simp only [Act.put, List.setIfInBounds_toArray, List.set_cons_zero, List.set_cons_succ, i64_w, i32_w]
         rfl
        refine pure_ (i := 21) (N := some 188) (v := ?_) (a' := ?_) #[true, true, true, true, true, true, true, true, true, true, true, true, true, true, true, true, true, true, true, true, true, true, false, false, false, false, false, false, false, false, false, false, false, false, false, false, false, false, false, false, false, false, false, false, false, false, false, false, false, false, false, false, false, false, false, false, false, false, false, false, false, false, false] rfl rfl (by as_aux_lemma => kernel_rfl) (fun _ _ _ h => h) (Or.inl ⟨by rfl, ?_⟩) ?_ ?_
        rotate_left
        ·intro w'
         go_simp
         with_reducible rfl
        rotate_left
        ·simp only [Act.put, List.setIfInBounds_toArray, List.set_cons_zero, List.set_cons_succ, i64_w, i32_w]
         rfl
        refine pure_ (i := 22) (N := some 189) (v := ?_) (a' := ?_) #[true, true, true, true, true, true, true, true, true, true, true, true, true, true, true, true, true, true, true, true, true, true, true, false, false, false, false, false, false, false, false, false, false, false, false, false, false, false, false, false, false, false, false, false, false, false, false, false, false, false, false, false, false, false, false, false, false, false, false, false, false, false, false] rfl rfl (by as_aux_lemma => kernel_rfl) (fun _ _ _ h => h) (Or.inl ⟨by rfl, ?_⟩) ?_ ?_
        rotate_left
        ·intro w'
         go_simp
         with_reducible rfl
        rotate_left
        ·simp only [Act.put, List.setIfInBounds_toArray, List.set_cons_zero, List.set_cons_succ, i64_w, i32_w]
         rfl
        refine pure_ (i := 24) (N := some 191) (v := ?_) (a' := ?_) #[true, true, true, true, true, true, true, true, true, true, true, true, true, true, true, true, true, true, true, true, true, true, true, false, true, false, false, false, false, false, false, false, false, false, false, false, false, false, false, false, false, false, false, false, false, false, false, false, false, false, false, false, false, false, false, false, false, false, false, false, false, false, false] rfl rfl (by as_aux_lemma => kernel_rfl) (fun _ _ _ h => h) (Or.inl ⟨by rfl, ?_⟩) ?_ ?_
        rotate_left
        ·intro w'
         go_simp
         with_reducible rfl
        rotate_left
        ·simp only [Act.put, List.setIfInBounds_toArray, List.set_cons_zero, List.set_cons_succ, i64_w, i32_w]
         rfl
        refine pure_ (i := 25) (N := some 192) (v := ?_) (a' := ?_) #[true, true, true, true, true, true, true, true, true, true, true, true, true, true, true, true, true, true, true, true, true, true, true, false, true, true, false, false, false, false, false, false, false, false, false, false, false, false, false, false, false, false, false, false, false, false, false, false, false, false, false, false, false, false, false, false, false, false, false, false, false, false, false] rfl rfl (by as_aux_lemma => kernel_rfl) (fun _ _ _ h => h) (Or.inl ⟨by rfl, ?_⟩) ?_ ?_
        rotate_left
        ·intro w'
         go_simp
         with_reducible rfl
        rotate_left
        ·simp only [Act.put, List.setIfInBounds_toArray, List.set_cons_zero, List.set_cons_succ, i64_w, i32_w]
         rfl
        refine pure_ (i := 26) (N := some 193) (v := ?_) (a' := ?_) #[true, true, true, true, true, true, true, true, true, true, true, true, true, true, true, true, true, true, true, true, true, true, true, false, true, true, true, false, false, false, false, false, false, false, false, false, false, false, false, false, false, false, false, false, false, false, false, false, false, false, false, false, false, false, false, false, false, false, false, false, false, false, false] rfl rfl (by as_aux_lemma => kernel_rfl) (fun _ _ _ h => h) (Or.inl ⟨by rfl, ?_⟩) ?_ ?_
        rotate_left
        ·intro w'
         go_simp
         with_reducible rfl
        rotate_left
        ·simp only [Act.put, List.setIfInBounds_toArray, List.set_cons_zero, List.set_cons_succ, i64_w, i32_w]
         rfl
        refine take_ (i := 27) (N := some 194) (v := ?_) (a' := ?_) #[true, true, true, true, true, true, true, true, true, true, true, true, true, true, true, true, true, true, true, true, true, true, true, false, true, true, true, true, false, false, false, false, false, false, false, false, false, false, false, false, false, false, false, false, false, false, false, false, false, false, false, false, false, false, false, false, false, false, false, false, false, false, false] rfl rfl (by as_aux_lemma => kernel_rfl) (fun _ _ _ h => h) (Or.inl ⟨by rfl, ?_⟩) hHeld ?_ ?_
        rotate_left
        ·rintro w' ⟨s1, s2, s3, s4, s5⟩
         go_simp
         with_reducible rfl
        rotate_left
        ·simp only [Act.put, List.setIfInBounds_toArray, List.set_cons_zero, List.set_cons_succ, i64_w, i32_w]
         rfl
        refine one_ (i := 23) (N := some 190) #[true, true, true, true, true, true, true, true, true, true, true, true, true, true, true, true, true, true, true, true, true, true, true, true, true, true, true, true, false, false, false, false, false, false, false, false, false, false, false, false, false, false, false, false, false, false, false, false, false, false, false, false, false, false, false, false, false, false, false, false, false, false, false] rfl rfl (by as_aux_lemma => kernel_rfl) (by decide) (fun K hK => ?_)
        refine goes_ Try.func16 (by as_aux_lemma => kernel_rfl) rfl #[.pointer (some ⟨q, 0, none⟩)] (by rfl) rfl rfl (by (try simp only [List.map_toArray, List.map_cons, List.map_nil]); first | done | rfl) ?_
        refine (lend_ok _ _ _ _ _ _ (HL.out.new HB.out).l).mono ?_
        rintro e' w' ⟨rfl, rfl⟩
        refine ⟨_, rfl, ?_⟩
        refine hK.out _ _ (hHeld) (fun hHeld2 => ?_)
        clear hK K hHeld
        have hHeld := hHeld2
        clear hHeld2
        refine norm_ (a' := ?_) ?_ ?_
        rotate_left
        ·show Act.put _ (some 190) _ = _
         simp only [Act.put, List.setIfInBounds_toArray, List.set_cons_zero, List.set_cons_succ, i64_w, i32_w]
         rfl
        refine pure_ (i := 28) (N := some 195) (v := ?_) (a' := ?_) #[true, true, true, true, true, true, true, true, true, true, true, true, true, true, true, true, true, true, true, true, true, true, true, true, true, true, true, true, true, false, false, false, false, false, false, false, false, false, false, false, false, false, false, false, false, false, false, false, false, false, false, false, false, false, false, false, false, false, false, false, false, false, false] rfl rfl (by as_aux_lemma => kernel_rfl) (fun _ _ _ h => h) (Or.inl ⟨by rfl, ?_⟩) ?_ ?_
        rotate_left
        ·intro w'
         go_simp
         with_reducible rfl
        rotate_left
        ·simp only [Act.put, List.setIfInBounds_toArray, List.set_cons_zero, List.set_cons_succ, i64_w, i32_w]
         rfl
        refine pure_ (i := 29) (N := some 196) (v := ?_) (a' := ?_) #[true, true, true, true, true, true, true, true, true, true, true, true, true, true, true, true, true, true, true, true, true, true, true, true, true, true, true, true, true, true, false, false, false, false, false, false, false, false, false, false, false, false, false, false, false, false, false, false, false, false, false, false, false, false, false, false, false, false, false, false, false, false, false] rfl rfl (by as_aux_lemma => kernel_rfl) (fun _ _ _ h => h) (Or.inl ⟨by rfl, ?_⟩) ?_ ?_
        rotate_left
        ·intro w'
         go_simp
         with_reducible rfl
        rotate_left
        ·simp only [Act.put, List.setIfInBounds_toArray, List.set_cons_zero, List.set_cons_succ, i64_w, i32_w]
         rfl
        refine pure_ (i := 30) (N := some 197) (v := ?_) (a' := ?_) #[true, true, true, true, true, true, true, true, true, true, true, true, true, true, true, true, true, true, true, true, true, true, true, true, true, true, true, true, true, true, true, false, false, false, false, false, false, false, false, false, false, false, false, false, false, false, false, false, false, false, false, false, false, false, false, false, false, false, false, false, false, false, false] rfl rfl (by as_aux_lemma => kernel_rfl) (fun _ _ _ h => h) (Or.inl ⟨by rfl, ?_⟩) ?_ ?_
        rotate_left
        ·intro w'
         go_simp
         with_reducible rfl
        rotate_left
        ·simp only [Act.put, List.setIfInBounds_toArray, List.set_cons_zero, List.set_cons_succ, i64_w, i32_w]
         rfl
        refine pure_ (i := 31) (N := some 198) (v := ?_) (a' := ?_) #[true, true, true, true, true, true, true, true, true, true, true, true, true, true, true, true, true, true, true, true, true, true, true, true, true, true, true, true, true, true, true, true, false, false, false, false, false, false, false, false, false, false, false, false, false, false, false, false, false, false, false, false, false, false, false, false, false, false, false, false, false, false, false] rfl rfl (by as_aux_lemma => kernel_rfl) (fun _ _ _ h => h) (Or.inl ⟨by rfl, ?_⟩) ?_ ?_
        rotate_left
        ·intro w'
         go_simp
         with_reducible rfl
        rotate_left
        ·simp only [Act.put, List.setIfInBounds_toArray, List.set_cons_zero, List.set_cons_succ, i64_w, i32_w]
         rfl
        refine pure_ (i := 33) (N := some 200) (v := ?_) (a' := ?_) #[true, true, true, true, true, true, true, true, true, true, true, true, true, true, true, true, true, true, true, true, true, true, true, true, true, true, true, true, true, true, true, true, false, true, false, false, false, false, false, false, false, false, false, false, false, false, false, false, false, false, false, false, false, false, false, false, false, false, false, false, false, false, false] rfl rfl (by as_aux_lemma => kernel_rfl) (fun _ _ _ h => h) (Or.inl ⟨by rfl, ?_⟩) ?_ ?_
        rotate_left
        ·intro w'
         go_simp
         with_reducible rfl
        rotate_left
        ·simp only [Act.put, List.setIfInBounds_toArray, List.set_cons_zero, List.set_cons_succ, i64_w, i32_w]
         rfl
        refine pure_ (i := 34) (N := some 201) (v := ?_) (a' := ?_) #[true, true, true, true, true, true, true, true, true, true, true, true, true, true, true, true, true, true, true, true, true, true, true, true, true, true, true, true, true, true, true, true, false, true, true, false, false, false, false, false, false, false, false, false, false, false, false, false, false, false, false, false, false, false, false, false, false, false, false, false, false, false, false] rfl rfl (by as_aux_lemma => kernel_rfl) (fun _ _ _ h => h) (Or.inl ⟨by rfl, ?_⟩) ?_ ?_
        rotate_left
        ·intro w'
         go_simp
         with_reducible rfl
        rotate_left
        ·simp only [Act.put, List.setIfInBounds_toArray, List.set_cons_zero, List.set_cons_succ, i64_w, i32_w]
         rfl
        refine pure_ (i := 35) (N := some 202) (v := ?_) (a' := ?_) #[true, true, true, true, true, true, true, true, true, true, true, true, true, true, true, true, true, true, true, true, true, true, true, true, true, true, true, true, true, true, true, true, false, true, true, true, false, false, false, false, false, false, false, false, false, false, false, false, false, false, false, false, false, false, false, false, false, false, false, false, false, false, false] rfl rfl (by as_aux_lemma => kernel_rfl) (fun _ _ _ h => h) (Or.inl ⟨by rfl, ?_⟩) ?_ ?_
        rotate_left
        ·intro w'
         go_simp
         with_reducible rfl
        rotate_left
        ·simp only [Act.put, List.setIfInBounds_toArray, List.set_cons_zero, List.set_cons_succ, i64_w, i32_w]
         rfl
        refine take_ (i := 36) (N := some 203) (v := ?_) (a' := ?_) #[true, true, true, true, true, true, true, true, true, true, true, true, true, true, true, true, true, true, true, true, true, true, true, true, true, true, true, true, true, true, true, true, false, true, true, true, true, false, false, false, false, false, false, false, false, false, false, false, false, false, false, false, false, false, false, false, false, false, false, false, false, false, false] rfl rfl (by as_aux_lemma => kernel_rfl) (fun _ _ _ h => h) (Or.inl ⟨by rfl, ?_⟩) hHeld ?_ ?_
        rotate_left
        ·rintro w' ⟨s1, s2, s3, s4, s5⟩
         go_simp
         with_reducible rfl
        rotate_left
        ·simp only [Act.put, List.setIfInBounds_toArray, List.set_cons_zero, List.set_cons_succ, i64_w, i32_w]
         rfl
        refine pure_ (i := 37) (N := some 204) (v := ?_) (a' := ?_) #[true, true, true, true, true, true, true, true, true, true, true, true, true, true, true, true, true, true, true, true, true, true, true, true, true, true, true, true, true, true, true, true, false, true, true, true, true, true, false, false, false, false, false, false, false, false, false, false, false, false, false, false, false, false, false, false, false, false, false, false, false, false, false] rfl rfl (by as_aux_lemma => kernel_rfl) (fun _ _ _ h => h) (Or.inl ⟨by rfl, ?_⟩) ?_ ?_
        rotate_left
        ·intro w'
         go_simp
         with_reducible rfl
        rotate_left
        ·simp only [Act.put, List.setIfInBounds_toArray, List.set_cons_zero, List.set_cons_succ, i64_w, i32_w]
         rfl
        refine pure_ (i := 38) (N := some 205) (v := ?_) (a' := ?_) #[true, true, true, true, true, true, true, true, true, true, true, true, true, true, true, true, true, true, true, true, true, true, true, true, true, true, true, true, true, true, true, true, false, true, true, true, true, true, true, false, false, false, false, false, false, false, false, false, false, false, false, false, false, false, false, false, false, false, false, false, false, false, false] rfl rfl (by as_aux_lemma => kernel_rfl) (fun _ _ _ h => h) (Or.inl ⟨by rfl, ?_⟩) ?_ ?_
        rotate_left
        ·intro w'
         go_simp
         with_reducible rfl
        rotate_left
        ·simp only [Act.put, List.setIfInBounds_toArray, List.set_cons_zero, List.set_cons_succ, i64_w, i32_w]
         rfl
        refine pure_ (i := 39) (N := some 206) (v := ?_) (a' := ?_) #[true, true, true, true, true, true, true, true, true, true, true, true, true, true, true, true, true, true, true, true, true, true, true, true, true, true, true, true, true, true, true, true, false, true, true, true, true, true, true, true, false, false, false, false, false, false, false, false, false, false, false, false, false, false, false, false, false, false, false, false, false, false, false] rfl rfl (by as_aux_lemma => kernel_rfl) (fun _ _ _ h => h) (Or.inl ⟨by rfl, ?_⟩) ?_ ?_
        rotate_left
        ·intro w'
         go_simp
         with_reducible rfl
        rotate_left
        ·simp only [Act.put, List.setIfInBounds_toArray, List.set_cons_zero, List.set_cons_succ, i64_w, i32_w]
         rfl
        refine pure_ (i := 40) (N := some 207) (v := ?_) (a' := ?_) #[true, true, true, true, true, true, true, true, true, true, true, true, true, true, true, true, true, true, true, true, true, true, true, true, true, true, true, true, true, true, true, true, false, true, true, true, true, true, true, true, true, false, false, false, false, false, false, false, false, false, false, false, false, false, false, false, false, false, false, false, false, false, false] rfl rfl (by as_aux_lemma => kernel_rfl) (fun _ _ _ h => h) (Or.inl ⟨by rfl, ?_⟩) ?_ ?_
        rotate_left
        ·intro w'
         go_simp
         with_reducible rfl
        rotate_left
        ·simp only [Act.put, List.setIfInBounds_toArray, List.set_cons_zero, List.set_cons_succ, i64_w, i32_w]
         rfl
        refine take_ (i := 41) (N := some 208) (v := ?_) (a' := ?_) #[true, true, true, true, true, true, true, true, true, true, true, true, true, true, true, true, true, true, true, true, true, true, true, true, true, true, true, true, true, true, true, true, false, true, true, true, true, true, true, true, true, true, false, false, false, false, false, false, false, false, false, false, false, false, false, false, false, false, false, false, false, false, false] rfl rfl (by as_aux_lemma => kernel_rfl) (fun _ _ _ h => h) (Or.inl ⟨by rfl, ?_⟩) hHeld ?_ ?_
        rotate_left
        ·rintro w' ⟨s1, s2, s3, s4, s5⟩
         go_simp
         with_reducible rfl
        rotate_left
        ·simp only [Act.put, List.setIfInBounds_toArray, List.set_cons_zero, List.set_cons_succ, i64_w, i32_w]
         rfl
        refine pure_ (i := 42) (N := some 209) (v := ?_) (a' := ?_) #[true, true, true, true, true, true, true, true, true, true, true, true, true, true, true, true, true, true, true, true, true, true, true, true, true, true, true, true, true, true, true, true, false, true, true, true, true, true, true, true, true, true, true, false, false, false, false, false, false, false, false, false, false, false, false, false, false, false, false, false, false, false, false] rfl rfl (by as_aux_lemma => kernel_rfl) (fun _ _ _ h => h) (Or.inl ⟨by rfl, ?_⟩) ?_ ?_
        rotate_left
        ·intro w'
         go_simp
         with_reducible rfl
        rotate_left
        ·simp only [Act.put, List.setIfInBounds_toArray, List.set_cons_zero, List.set_cons_succ, i64_w, i32_w]
         rfl
        refine one_ (i := 32) (N := some 199) #[true, true, true, true, true, true, true, true, true, true, true, true, true, true, true, true, true, true, true, true, true, true, true, true, true, true, true, true, true, true, true, true, true, true, true, true, true, true, true, true, true, true, true, false, false, false, false, false, false, false, false, false, false, false, false, false, false, false, false, false, false, false, false] rfl rfl (by as_aux_lemma => kernel_rfl) (by decide) (fun K hK => ?_)
        have hq := lleft_ok _ _ _ _ _ _ _ _ _ _ _ _ _ (HL.out.new HB.out)
        rw [← HJ.out] at hq
        refine goes_ Try.func17 (by as_aux_lemma => kernel_rfl) rfl #[.pointer (some ⟨q, 0, none⟩)] (by rfl) rfl rfl (by (try simp only [List.map_toArray, List.map_cons, List.map_nil]); first | done | rfl) ?_
        refine (hq).mono ?_
        clear hq
        rintro e' wv ⟨rfl, hbn⟩
        have HBn := Lib.hid (HB.out.trans (hbn.mono HB.out.size))
        clear HB
        obtain ⟨HB⟩ : Nonempty (Hid (Below wc.heap.size wc wv)) := ⟨HBn⟩
        clear HBn
        clear hbn
        refine ⟨_, rfl, ?_⟩
        refine hK.out _ _ (HCS.out _ HB.out) (fun hHeld2 => ?_)
        clear hK K hHeld
        have hHeld := hHeld2
        clear hHeld2
        refine norm_ (a' := ?_) ?_ ?_
        rotate_left
        ·show Act.put _ (some 199) _ = _
         simp only [Act.put, List.setIfInBounds_toArray, List.set_cons_zero, List.set_cons_succ, i64_w, i32_w]
         rfl
        have hjz := HJZ.out
        refine pure_ (i := 43) (N := some 210) (v := ?_) (a' := ?_) #[true, true, true, true, true, true, true, true, true, true, true, true, true, true, true, true, true, true, true, true, true, true, true, true, true, true, true, true, true, true, true, true, true, true, true, true, true, true, true, true, true, true, true, true, false, false, false, false, false, false, false, false, false, false, false, false, false, false, false, false, false, false, false] rfl rfl (by as_aux_lemma => kernel_rfl) (fun _ _ _ h => h) (Or.inl ⟨by rfl, ?_⟩) ?_ ?_
        rotate_left
        ·intro w'
         go_simp
         with_reducible rfl
        rotate_left
        ·simp only [Act.put, List.setIfInBounds_toArray, List.set_cons_zero, List.set_cons_succ, i64_w, i32_w]
         rfl
        clear hjz
        refine pure_ (i := 44) (N := some 211) (v := ?_) (a' := ?_) #[true, true, true, true, true, true, true, true, true, true, true, true, true, true, true, true, true, true, true, true, true, true, true, true, true, true, true, true, true, true, true, true, true, true, true, true, true, true, true, true, true, true, true, true, true, false, false, false, false, false, false, false, false, false, false, false, false, false, false, false, false, false, false] rfl rfl (by as_aux_lemma => kernel_rfl) (fun _ _ _ h => h) (Or.inl ⟨by rfl, ?_⟩) ?_ ?_
        rotate_left
        ·intro w'
         go_simp
         with_reducible rfl
        rotate_left
        ·simp only [Act.put, List.setIfInBounds_toArray, List.set_cons_zero, List.set_cons_succ, i64_w, i32_w]
         rfl
        refine pure_ (i := 45) (N := some 212) (v := ?_) (a' := ?_) #[true, true, true, true, true, true, true, true, true, true, true, true, true, true, true, true, true, true, true, true, true, true, true, true, true, true, true, true, true, true, true, true, true, true, true, true, true, true, true, true, true, true, true, true, true, true, false, false, false, false, false, false, false, false, false, false, false, false, false, false, false, false, false] rfl rfl (by as_aux_lemma => kernel_rfl) (fun _ _ _ h => h) (Or.inl ⟨by rfl, ?_⟩) ?_ ?_
        rotate_left
        ·intro w'
         go_simp
         with_reducible rfl
        rotate_left
        ·simp only [Act.put, List.setIfInBounds_toArray, List.set_cons_zero, List.set_cons_succ, i64_w, i32_w]
         rfl
        refine pure_ (i := 46) (N := some 213) (v := ?_) (a' := ?_) #[true, true, true, true, true, true, true, true, true, true, true, true, true, true, true, true, true, true, true, true, true, true, true, true, true, true, true, true, true, true, true, true, true, true, true, true, true, true, true, true, true, true, true, true, true, true, true, false, false, false, false, false, false, false, false, false, false, false, false, false, false, false, false] rfl rfl (by as_aux_lemma => kernel_rfl) (fun _ _ _ h => h) (Or.inl ⟨by rfl, ?_⟩) ?_ ?_
        rotate_left
        ·intro w'
         go_simp
         with_reducible rfl
        rotate_left
        ·simp only [Act.put, List.setIfInBounds_toArray, List.set_cons_zero, List.set_cons_succ, i64_w, i32_w]
         rfl
        refine pure_ (i := 49) (N := some 216) (v := ?_) (a' := ?_) #[true, true, true, true, true, true, true, true, true, true, true, true, true, true, true, true, true, true, true, true, true, true, true, true, true, true, true, true, true, true, true, true, true, true, true, true, true, true, true, true, true, true, true, true, true, true, true, false, false, true, false, false, false, false, false, false, false, false, false, false, false, false, false] rfl rfl (by as_aux_lemma => kernel_rfl) (fun _ _ _ h => h) (Or.inl ⟨by rfl, ?_⟩) ?_ ?_
        rotate_left
        ·intro w'
         go_simp
         with_reducible rfl
        rotate_left
        ·simp only [Act.put, List.setIfInBounds_toArray, List.set_cons_zero, List.set_cons_succ, i64_w, i32_w]
         rfl
        refine one_ (i := 47) (N := some 214) #[true, true, true, true, true, true, true, true, true, true, true, true, true, true, true, true, true, true, true, true, true, true, true, true, true, true, true, true, true, true, true, true, true, true, true, true, true, true, true, true, true, true, true, true, true, true, true, true, false, true, false, false, false, false, false, false, false, false, false, false, false, false, false] rfl rfl (by as_aux_lemma => kernel_rfl) (by decide) (fun K hK => ?_)
        have hq := image_ok _ _ _ _ _ _ _ _ (HL.out.new HB.out).d
        rw [← HI.out] at hq
        refine goes_ Try.func19 (by as_aux_lemma => kernel_rfl) rfl #[.pointer (some ⟨w9.heap.size + 1, 0, none⟩)] (by rfl) rfl rfl (by (try simp only [List.map_toArray, List.map_cons, List.map_nil]); first | done | rfl) ?_
        refine (hq).mono ?_
        clear hq
        rintro e' wf ⟨vf, rfl, hvf, hbn⟩
        have HBn := Lib.hid (HB.out.trans (hbn.mono HB.out.size))
        clear HB
        obtain ⟨HB⟩ : Nonempty (Hid (Below wc.heap.size wc wf)) := ⟨HBn⟩
        clear HBn
        have HVI := Lib.hid (show ∀ w' : World, Below wf.heap.size wf w' → (ConvVia vf).run Try.prog w' = .ok (.value (.string (bs I))) w' from fun w' h => conv_own (own_below hvf h))
        clear hvf hbn
        refine ⟨_, rfl, ?_⟩
        refine hK.out _ _ (HCS.out _ HB.out) (fun hHeld2 => ?_)
        clear hK K hHeld
        have hHeld := hHeld2
        clear hHeld2
        refine norm_ (a' := ?_) ?_ ?_
        rotate_left
        ·show Act.put _ (some 214) _ = _
         simp only [Act.put, List.setIfInBounds_toArray, List.set_cons_zero, List.set_cons_succ, i64_w, i32_w]
         rfl
        refine more_ (S' := fun w' => (ConvVia vf).run Try.prog w' = .ok (.value (.string (bs I))) w' ∧ (fun w' => w'.cell? ⟨rq, 1, none⟩ = some (.slice ra R.length rc2) ∧ w'.cell? ⟨rq, 2, none⟩ = some (.int .i64 (s : Int)) ∧ w'.cell? ⟨rq, 3, none⟩ = some (.int .i64 (e : Int)) ∧ w'.cell? ⟨w10.heap.size, 0, none⟩ = some (.slice (some ⟨gd, 0, none⟩) n cd) ∧ w'.cell? ⟨w10.heap.size, 1, none⟩ = some (.slice ua P.length uc)) w') (fun _ h => h.2) _ _ _ _ ⟨HVI.out _ (Below.refl _ _), hHeld⟩ ?_
        have hHeld2 := And.intro (HVI.out _ (Below.refl _ _)) hHeld
        clear hHeld
        have hHeld := hHeld2
        clear hHeld2
        have HBF := Lib.hid (Below.refl wf.heap.size wf)
        refine take_ (i := 48) (N := some 215) (v := ?_) (a' := ?_) #[true, true, true, true, true, true, true, true, true, true, true, true, true, true, true, true, true, true, true, true, true, true, true, true, true, true, true, true, true, true, true, true, true, true, true, true, true, true, true, true, true, true, true, true, true, true, true, true, true, true, false, false, false, false, false, false, false, false, false, false, false, false, false] rfl rfl (by as_aux_lemma => kernel_rfl) (fun _ _ _ h => h) (Or.inl ⟨by rfl, ?_⟩) hHeld ?_ ?_
        rotate_left
        ·intro w' hs
         show (ConvVia _).run _ _ = _
         exact hs.1
        rotate_left
        ·simp only [Act.put, List.setIfInBounds_toArray, List.set_cons_zero, List.set_cons_succ, i64_w, i32_w]
         rfl
        refine one_ (i := 50) (N := some 217) #[true, true, true, true, true, true, true, true, true, true, true, true, true, true, true, true, true, true, true, true, true, true, true, true, true, true, true, true, true, true, true, true, true, true, true, true, true, true, true, true, true, true, true, true, true, true, true, true, true, true, true, false, false, false, false, false, false, false, false, false, false, false, false] rfl rfl (by as_aux_lemma => kernel_rfl) (by decide) (fun K hK => ?_)
        have hq := refimage_ok _ _ _ _ _ _ _ _ (HR.out.new HB.out).d
        rw [← HI.out] at hq
        refine goes_ Try.func41 (by as_aux_lemma => kernel_rfl) rfl #[.pointer (some ⟨w10.heap.size, 0, none⟩)] (by rfl) rfl rfl (by (try simp only [List.map_toArray, List.map_cons, List.map_nil]); first | done | rfl) ?_
        refine (hq).mono ?_
        clear hq
        rintro e' wg ⟨rfl, hbn⟩
        have HBn := Lib.hid (HB.out.trans (hbn.mono HB.out.size))
        clear HB
        obtain ⟨HB⟩ : Nonempty (Hid (Below wc.heap.size wc wg)) := ⟨HBn⟩
        clear HBn
        have HBF2 := Lib.hid (HBF.out.trans (hbn.mono HBF.out.size))
        clear HBF
        obtain ⟨HBF⟩ : Nonempty (Hid (Below wf.heap.size wf wg)) := ⟨HBF2⟩
        clear HBF2 hbn
        refine ⟨_, rfl, ?_⟩
        refine hK.out _ _ (⟨HVI.out _ HBF.out, HCS.out _ HB.out⟩) (fun hHeld2 => ?_)
        clear hK K hHeld
        have hHeld := hHeld2
        clear hHeld2
        refine norm_ (a' := ?_) ?_ ?_
        rotate_left
        ·show Act.put _ (some 217) _ = _
         simp only [Act.put, List.setIfInBounds_toArray, List.set_cons_zero, List.set_cons_succ, i64_w, i32_w]
         rfl
        refine pure_ (i := 51) (N := some 218) (v := ?_) (a' := ?_) #[true, true, true, true, true, true, true, true, true, true, true, true, true, true, true, true, true, true, true, true, true, true, true, true, true, true, true, true, true, true, true, true, true, true, true, true, true, true, true, true, true, true, true, true, true, true, true, true, true, true, true, true, false, false, false, false, false, false, false, false, false, false, false] rfl rfl (by as_aux_lemma => kernel_rfl) (fun _ _ _ h => h) (Or.inl ⟨by rfl, ?_⟩) ?_ ?_
        rotate_left
        ·intro w'
         go_simp
         with_reducible rfl
        rotate_left
        ·simp only [Act.put, List.setIfInBounds_toArray, List.set_cons_zero, List.set_cons_succ, i64_w, i32_w]
         rfl
        refine pure_ (i := 52) (N := some 219) (v := ?_) (a' := ?_) #[true, true, true, true, true, true, true, true, true, true, true, true, true, true, true, true, true, true, true, true, true, true, true, true, true, true, true, true, true, true, true, true, true, true, true, true, true, true, true, true, true, true, true, true, true, true, true, true, true, true, true, true, true, false, false, false, false, false, false, false, false, false, false] rfl rfl (by as_aux_lemma => kernel_rfl) (fun _ _ _ h => h) (Or.inl ⟨by rfl, ?_⟩) ?_ ?_
        rotate_left
        ·intro w'
         go_simp
         with_reducible rfl
        rotate_left
        ·simp only [Act.put, List.setIfInBounds_toArray, List.set_cons_zero, List.set_cons_succ, i64_w, i32_w]
         rfl
        refine pure_ (i := 53) (N := some 220) (v := ?_) (a' := ?_) #[true, true, true, true, true, true, true, true, true, true, true, true, true, true, true, true, true, true, true, true, true, true, true, true, true, true, true, true, true, true, true, true, true, true, true, true, true, true, true, true, true, true, true, true, true, true, true, true, true, true, true, true, true, true, false, false, false, false, false, false, false, false, false] rfl rfl (by as_aux_lemma => kernel_rfl) (fun _ _ _ h => h) (Or.inl ⟨by rfl, ?_⟩) ?_ ?_
        rotate_left
        ·intro w'
         go_simp
         with_reducible rfl
        rotate_left
        ·simp only [Act.put, List.setIfInBounds_toArray, List.set_cons_zero, List.set_cons_succ, i64_w, i32_w]
         rfl
        refine pure_ (i := 54) (N := some 221) (v := ?_) (a' := ?_) #[true, true, true, true, true, true, true, true, true, true, true, true, true, true, true, true, true, true, true, true, true, true, true, true, true, true, true, true, true, true, true, true, true, true, true, true, true, true, true, true, true, true, true, true, true, true, true, true, true, true, true, true, true, true, true, false, false, false, false, false, false, false, false] rfl rfl (by as_aux_lemma => kernel_rfl) (fun _ _ _ h => h) (Or.inl ⟨by rfl, ?_⟩) ?_ ?_
        rotate_left
        ·intro w'
         go_simp
         with_reducible rfl
        rotate_left
        ·simp only [Act.put, List.setIfInBounds_toArray, List.set_cons_zero, List.set_cons_succ, i64_w, i32_w]
         rfl
        refine pure_ (i := 56) (N := some 223) (v := ?_) (a' := ?_) #[true, true, true, true, true, true, true, true, true, true, true, true, true, true, true, true, true, true, true, true, true, true, true, true, true, true, true, true, true, true, true, true, true, true, true, true, true, true, true, true, true, true, true, true, true, true, true, true, true, true, true, true, true, true, true, false, true, false, false, false, false, false, false] rfl rfl (by as_aux_lemma => kernel_rfl) (fun _ _ _ h => h) (Or.inl ⟨by rfl, ?_⟩) ?_ ?_
        rotate_left
        ·intro w'
         go_simp
         with_reducible rfl
        rotate_left
        ·simp only [Act.put, List.setIfInBounds_toArray, List.set_cons_zero, List.set_cons_succ, i64_w, i32_w]
         rfl
        refine pure_ (i := 57) (N := some 224) (v := ?_) (a' := ?_) #[true, true, true, true, true, true, true, true, true, true, true, true, true, true, true, true, true, true, true, true, true, true, true, true, true, true, true, true, true, true, true, true, true, true, true, true, true, true, true, true, true, true, true, true, true, true, true, true, true, true, true, true, true, true, true, false, true, true, false, false, false, false, false] rfl rfl (by as_aux_lemma => kernel_rfl) (fun _ _ _ h => h) (Or.inl ⟨by rfl, ?_⟩) ?_ ?_
        rotate_left
        ·intro w'
         go_simp
         with_reducible rfl
        rotate_left
        ·simp only [Act.put, List.setIfInBounds_toArray, List.set_cons_zero, List.set_cons_succ, i64_w, i32_w]
         rfl
        refine pure_ (i := 58) (N := some 225) (v := ?_) (a' := ?_) #[true, true, true, true, true, true, true, true, true, true, true, true, true, true, true, true, true, true, true, true, true, true, true, true, true, true, true, true, true, true, true, true, true, true, true, true, true, true, true, true, true, true, true, true, true, true, true, true, true, true, true, true, true, true, true, false, true, true, true, false, false, false, false] rfl rfl (by as_aux_lemma => kernel_rfl) (fun _ _ _ h => h) (Or.inl ⟨by rfl, ?_⟩) ?_ ?_
        rotate_left
        ·intro w'
         go_simp
         with_reducible rfl
        rotate_left
        ·simp only [Act.put, List.setIfInBounds_toArray, List.set_cons_zero, List.set_cons_succ, i64_w, i32_w]
         rfl
        refine take_ (i := 59) (N := some 226) (v := ?_) (a' := ?_) #[true, true, true, true, true, true, true, true, true, true, true, true, true, true, true, true, true, true, true, true, true, true, true, true, true, true, true, true, true, true, true, true, true, true, true, true, true, true, true, true, true, true, true, true, true, true, true, true, true, true, true, true, true, true, true, false, true, true, true, true, false, false, false] rfl rfl (by as_aux_lemma => kernel_rfl) (fun _ _ _ h => h) (Or.inl ⟨by rfl, ?_⟩) hHeld ?_ ?_
        rotate_left
        ·rintro w' ⟨_, s1, s2, s3, s4, s5⟩
         go_simp
         with_reducible rfl
        rotate_left
        ·simp only [Act.put, List.setIfInBounds_toArray, List.set_cons_zero, List.set_cons_succ, i64_w, i32_w]
         rfl
        refine pure_ (i := 60) (N := some 227) (v := ?_) (a' := ?_) #[true, true, true, true, true, true, true, true, true, true, true, true, true, true, true, true, true, true, true, true, true, true, true, true, true, true, true, true, true, true, true, true, true, true, true, true, true, true, true, true, true, true, true, true, true, true, true, true, true, true, true, true, true, true, true, false, true, true, true, true, true, false, false] rfl rfl (by as_aux_lemma => kernel_rfl) (fun _ _ _ h => h) (Or.inl ⟨by rfl, ?_⟩) ?_ ?_
        rotate_left
        ·intro w'
         go_simp
         with_reducible rfl
        rotate_left
        ·simp only [Act.put, List.setIfInBounds_toArray, List.set_cons_zero, List.set_cons_succ, i64_w, i32_w]
         rfl
        refine one_ (i := 55) (N := some 222) #[true, true, true, true, true, true, true, true, true, true, true, true, true, true, true, true, true, true, true, true, true, true, true, true, true, true, true, true, true, true, true, true, true, true, true, true, true, true, true, true, true, true, true, true, true, true, true, true, true, true, true, true, true, true, true, true, true, true, true, true, true, false, false] rfl rfl (by as_aux_lemma => kernel_rfl) (by decide) (fun K hK => ?_)
        refine goes_ Try.func24 (by as_aux_lemma => kernel_rfl) rfl #[.pointer (some ⟨w9.heap.size + 1, 0, none⟩)] (by rfl) rfl rfl (by (try simp only [List.map_toArray, List.map_cons, List.map_nil]); first | done | rfl) ?_
        refine (pending _ _ _ _ _ _ _ _ (HL.out.new HB.out).d).mono ?_
        rintro e' w' ⟨rfl, rfl⟩
        refine ⟨_, rfl, ?_⟩
        refine hK.out _ _ (hHeld) (fun hHeld2 => ?_)
        clear hK K hHeld
        have hHeld := hHeld2
        clear hHeld2
        refine norm_ (a' := ?_) ?_ ?_
        rotate_left
        ·show Act.put _ (some 222) _ = _
         simp only [Act.put, List.setIfInBounds_toArray, List.set_cons_zero, List.set_cons_succ, i64_w, i32_w]
         rfl
        refine pure_ (i := 61) (N := some 228) (v := ?_) (a' := ?_) #[true, true, true, true, true, true, true, true, true, true, true, true, true, true, true, true, true, true, true, true, true, true, true, true, true, true, true, true, true, true, true, true, true, true, true, true, true, true, true, true, true, true, true, true, true, true, true, true, true, true, true, true, true, true, true, true, true, true, true, true, true, true, false] rfl rfl (by as_aux_lemma => kernel_rfl) (fun _ _ _ h => h) (Or.inl ⟨by rfl, ?_⟩) ?_ ?_
        rotate_left
        ·intro w'
         go_simp
         with_reducible rfl
        rotate_left
        ·simp only [Act.put, List.setIfInBounds_toArray, List.set_cons_zero, List.set_cons_succ, i64_w, i32_w]
         rfl
        refine pure_ (i := 62) (N := some 229) (v := ?_) (a' := ?_) #[true, true, true, true, true, true, true, true, true, true, true, true, true, true, true, true, true, true, true, true, true, true, true, true, true, true, true, true, true, true, true, true, true, true, true, true, true, true, true, true, true, true, true, true, true, true, true, true, true, true, true, true, true, true, true, true, true, true, true, true, true, true, true] rfl rfl (by as_aux_lemma => kernel_rfl) (fun _ _ _ h => h) (Or.inl ⟨by rfl, ?_⟩) ?_ ?_
        rotate_left
        ·intro w'
         go_simp
         with_reducible rfl
        rotate_left
        ·simp only [Act.put, List.setIfInBounds_toArray, List.set_cons_zero, List.set_cons_succ, i64_w, i32_w]
         rfl
        refine done_ (by as_aux_lemma => kernel_rfl) ?_
        go_wp2_with fail
        go_roundw
        case rel => exact ⟨k + 1, q, rq, v, vr, _, _, D2, P, R, s, e, by omega, by go_num, rfl, rfl, HL.out.new HB.out, HR.out.new HB.out, HX.out, HP.out, HW.out.trans (HB.out.mono HW.out.size)⟩
        case measure => simp [intOf]; omega
    · have hk' : ¬ (k : Int) < (l.length : Int) := by omega
      go_wp2_with fail
      go_ret
      exact ⟨rfl, HW.out⟩
end Go.Proofs.YtbbnjnpbaekfgaaM
