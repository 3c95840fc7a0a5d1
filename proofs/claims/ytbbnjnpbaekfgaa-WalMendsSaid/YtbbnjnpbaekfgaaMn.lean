/- The law WalMends, walked: it says yes. -/
import Derived.Test.YtbbnjnpbaekfgaaMe
set_option linter.unusedVariables false
set_option linter.unusedSimpArgs false
namespace Go.Proofs.YtbbnjnpbaekfgaaM
open Go.RowKit Go.Proofs.YtbbnjnpbaekfgaaW.PrintWords Go.Proofs.YtbbnjnpbaekfgaaW.PrintLast Go.Proofs.YtbbnjnpbaekfgaaW.PrintMore
attribute [local go_sem ↓] exec_conv exec_bytes
attribute [local go_sem] via_bytes
set_option maxHeartbeats 1000000 in
theorem noughts_ok (g off cap : Nat) (l : List UInt8) (hl : l.length ≤ 1000000) (w : World) (hc : ∀ j u, (byteCells l)[j]? = some u → w.cell? ⟨g, off + j, none⟩ = some u) :
    Calls Try.prog 45 #[.slice (some ⟨g, off, none⟩) l.length cap] w fun e w' => e = .returned (.bool (!anyNZ l)) ∧ w = w' := by
  have HC := Lib.hid hc
  clear hc
  go_enter Try.func45, Try.ntmps45
  go_wp2_with fail
  go_loop [3] (fun iv => ∃ k : Nat, k ≤ l.length ∧ iv = .int .i64 (k : Int) ∧ Hid (∀ j (h : j < l.length), j < k → l[j] = 0)) (fun iv => l.length - (intOf iv).toNat)
  case atStart => exact ⟨0, Nat.zero_le _, rfl, fun j _ h => by omega⟩
  case round =>
    obtain ⟨k, hk, rfl, HA⟩ := hrel
    by_cases hlt : k < l.length
    · have hk' : (k : Int) < (l.length : Int) := by omega
      have hck := HC.out k (.int .u8 (l[k].toNat : Int)) (by unfold byteCells; rw [List.getElem?_map, List.getElem?_eq_getElem hlt]; rfl)
      obtain ⟨x, hx⟩ : ∃ x, x = l[k].toNat := ⟨_, rfl⟩
      rw [← hx] at hck
      have HX := Lib.hid hx
      clear hx
      by_cases hz : x = 0
      · have hz1 : ((x : Int) != 0) = false := by rw [bne_eq_false_iff_eq]; omega
        have HZ := Lib.hid hz
        clear hz
        go_wp2_with fail
        go_round
        case rel =>
          refine ⟨k + 1, by omega, by go_num, show ∀ _ _, _ → _ from fun j hj hjk => ?_⟩
          by_cases e : j = k
          · subst e
            apply UInt8.toNat_inj.1
            rw [← HX.out, HZ.out]
            rfl
          · exact HA.out j hj (by omega)
        case measure => simp [intOf]; omega
      · have hz1 : ((x : Int) != 0) = true := by rw [bne_iff_ne]; omega
        have HZ := Lib.hid hz
        clear hz
        go_wp2_with fail
        go_ret
        refine ⟨?_, rfl⟩
        have : anyNZ l = true := by
          unfold anyNZ
          rw [List.any_eq_true]
          refine ⟨l[k], List.getElem_mem hlt, ?_⟩
          rw [bne_iff_ne]
          intro e0
          rw [e0] at HX
          exact HZ.out HX.out
        rw [this]
        rfl
    · have hk' : ¬ (k : Int) < (l.length : Int) := by omega
      obtain rfl : k = l.length := by omega
      go_wp2_with fail
      go_ret
      refine ⟨?_, rfl⟩
      have : anyNZ l = false := by
        unfold anyNZ
        rw [List.any_eq_false]
        intro x hx
        obtain ⟨j, hj, rfl⟩ := List.mem_iff_getElem.1 hx
        rw [HA.out j hj hj]
        decide
      rw [this]
      rfl
theorem noughts_512 (g : Nat) (l : List UInt8) (hl : l.length = 512) (w : World) (hb : Blk w g (byteCells l) 92) :
    Calls Try.prog 45 #[.slice (some ⟨g, 0, none⟩) 512 512] w fun e w' => e = .returned (.bool (!anyNZ l)) ∧ w = w' := by
  have := noughts_ok g 0 512 l (by omega) w fun j u hu => by
    rw [Nat.zero_add, hb.cell]
    exact hu
  rw [hl] at this
  exact this
theorem zw_read {I : List UInt8} {e k : Nat} (h : I.length = 40 * 512) : readP I (zwL I e k) k = sec I k := by
  have := read_open (e := e) (D := I) [] h (by simp) k
  simpa [sync_none] using this
theorem nz_zeros (n : Nat) : anyNZ (zeros n) = false := by
  unfold anyNZ zeros
  rw [List.any_eq_false]
  intro x hx
  rw [(List.mem_replicate.1 hx).2]
  decide
theorem sectors_40 (p g : Nat) (v : Value) (w : World) (hb : Blk w p [.slice (some ⟨g, 0, none⟩) 40 40, v] 79) :
    Calls Try.prog 43 #[.pointer (some ⟨p, 0, none⟩)] w fun e w' => e = .returned (.int .i64 40) ∧ w = w' := sectors p g 40 v w hb (by decide)
theorem of_40 (img : List UInt8) (hl : img.length = 40 * 512) (w : World) (s cap : Nat) (hcap : img.length ≤ cap) (hcm : cap ≤ maxLen) (hsrc : ∀ j u, (byteCells img)[j]? = some u → w.cell? ⟨s, j, none⟩ = some u) :
    Calls Try.prog 35 #[.slice (some ⟨s, 0, none⟩) img.length cap] w fun e w' => e = .returned (.tuple #[.pointer (some ⟨w.heap.size + 1, 0, none⟩), .int .i64 0]) ∧
      DiskAt w' w.heap.size (w.heap.size + 1) w.heap.size 40 (.slice none 0 0) img [] ∧ Below w.heap.size w w' := by
  have := of_ok img 40 hl (by decide) (by decide) w s cap (by omega) hcm hsrc
  rw [← hl] at this
  exact this
theorem bw_cells (w : World) (l : List UInt8) : ∀ j u, (byteCells l)[j]? = some u → (BW w l).cell? ⟨w.heap.size, j, none⟩ = some u := fun j u hu =>
  (World.cell?_alloc_mark w.drew _ 5 _ j).trans (bytesRow_bs l _ j u hu)
set_option maxRecDepth 100000 in
set_option maxHeartbeats 8000000 in
theorem walMends_walk (a0 : Option Addr) (l : List ActD) (c0 : Nat) (a1 : Option Addr) (ls : List Int) (c1 : Nat) (a2 : Option Addr) (cs2 : List Int) (c2 : Nat) (w : World) (h0 : ActsAt w a0 l) (hnil : a0 = none → c0 = 0) (l0 : l.length ≤ 140737488351232)
    (h1 : IntsAt w (.slice a1 ls.length c1) ls) (hnil1 : a1 = none → c1 = 0) (l1 : ls.length ≤ 140737488351232) (h2 : IntsAt w (.slice a2 cs2.length c2) cs2) (hnil2 : a2 = none → c2 = 0) (l2 : cs2.length ≤ 140737488351232) :
    Calls Try.prog 9 #[.slice a0 l.length c0, .slice a1 ls.length c1, .slice a2 cs2.length c2] w fun e w' => e = .returned (.bool true) ∧ Below w.heap.size w w' := by
  have H := Lib.hid h0
  have H1 := Lib.hid (And.intro h1 hnil1)
  have H2 := Lib.hid (And.intro h2 hnil2)
  clear h0 h1 h2 hnil1 hnil2
  go_enter Try.func9, Try.ntmps9
  go_wp2_with fail
  refine (lives_ok _).mono ?_
  rintro e w1 ⟨rfl, hb1⟩
  have HB1 := Lib.hid hb1
  clear hb1
  go_wp2_with fail
  refine (light_acts _ _ _ _ (H.out.below HB1.out (Nat.le_refl _)) l0).mono ?_
  rintro e w2 ⟨b, rfl, hlit, hb2⟩
  have HB2 := Lib.hid (HB1.out.trans (hb2.mono HB1.out.size))
  clear hb2
  cases b
  · go_wp2_with fail
    go_ret
    exact ⟨rfl, HB2.out⟩
  have HLT := Lib.hid (hlit rfl)
  clear hlit
  by_cases hc1 : ls.length ≤ 40
  rotate_left
  · have hi1 : ¬ (ls.length : Int) ≤ 40 := by omega
    go_wp2_with fail
    go_ret
    exact ⟨rfl, HB2.out⟩
  have hi1 : (ls.length : Int) ≤ 40 := by omega
  by_cases hc2 : cs2.length ≤ 40
  rotate_left
  · have hi2 : ¬ (cs2.length : Int) ≤ 40 := by omega
    go_wp2_with fail
    go_ret
    exact ⟨rfl, HB2.out⟩
  have hi2 : (cs2.length : Int) ≤ 40 := by omega
  have hs2 := HB2.out.size
  go_wp2_with fail
  refine (new_40 _).mono ?_
  rintro e w3 ⟨rfl, hd3, hb3⟩
  have HB3 := Lib.hid (HB2.out.trans (hb3.mono HB2.out.size))
  have HD3 := Lib.hid hd3
  clear hd3 hb3 hi1 hi2
  go_wp2_with fail
  refine (open_new _ _ _ _ _ _ HD3.out).mono ?_
  rintro e w4 ⟨rfl, ⟨vr4, v4, hl4, _, _⟩, he4⟩
  have HB4 := Lib.hid (HB3.out.trans ((HD3.out.step he4).mono hs2))
  have HL4 := Lib.hid hl4
  clear hl4 he4
  go_wp2_with fail
  go_loopw [9, 10, 11] (fun xv ev iv wr => ∃ (k q : Nat) (v vr : Value) (D : List UInt8) (P : List (Nat × List UInt8)) (R : List (List UInt8)) (s : Nat), k ≤ l.length ∧ iv = .int .i64 (k : Int) ∧ xv = .pointer (some ⟨q, 0, none⟩) ∧ ev = .int .i64 0 ∧
    Hid (LogGood wr w2.heap.size q (w2.heap.size + 1) w2.heap.size 40 v vr D P R s) ∧ Hid (Below w.heap.size w wr)) (fun _ _ iv _ => l.length - (intOf iv).toNat)
  case atStart => exact ⟨0, _, _, _, _, _, _, _, Nat.zero_le _, rfl, rfl, rfl, HL4.out, HB4.out⟩
  case round =>
    obtain ⟨k, q, v, vr, D, P, R, s, hk, rfl, rfl, rfl, HL, HW⟩ := hrel
    obtain ⟨wi, rfl⟩ : ∃ wi, wi = wr := ⟨wr, rfl⟩
    by_cases hlt : k < l.length
    · obtain ⟨bl, of, rfl, hbl, hc⟩ := H.out (by omega)
      obtain ⟨kd, hkd⟩ : ∃ kd, kd = l[k].kind := ⟨_, rfl⟩
      have hk' : (k : Int) < (l.length : Int) := by omega
      have hk0 : (0 : Int) ≤ (k : Int) := by omega
      have hck : wi.cell? ⟨bl, of + k * 3, none⟩ = some (.int .i64 kd) := (HW.out.cell (p := ⟨bl, of + k * 3, none⟩) hbl).trans ((hc k hlt).1.trans (by rw [hkd]))
      clear hkd
      obtain ⟨pn, hpn⟩ : ∃ pn, pn = pickN kd 4 := ⟨_, rfl⟩
      have hp4 := pickN_lt kd (m := 4) (by decide)
      go_wp2_with fail
      refine (pick_4 kd _).mono ?_
      rw [← hpn] at hp4 ⊢
      rintro e w5 ⟨rfl, hb5⟩
      have HB5 := Lib.hid (HW.out.trans (hb5.mono HW.out.size))
      have HL5 := Lib.hid (HL.out.new hb5)
      clear hb5 hpn hck
      have hpc : pn = 0 ∨ pn = 1 ∨ pn = 2 ∨ pn = 3 := by omega
      clear hp4
      rcases hpc with rfl | rfl | rfl | rfl
      ·
        obtain ⟨r, hr⟩ : ∃ r, l[k].b = bs r := ⟨_, (bs_data _).symm⟩
        have hb5 := (HB5.out.cell (p := ⟨bl, of + k * 3 + 1, none⟩) hbl).trans ((hc k hlt).2.1.trans (by rw [hr]))
        clear hc hr
        have hsz : (bs r).size = r.length := bs_size r
        by_cases hlong : r.length ≤ 4400
        · by_cases hfit : spanN R + needN r.length ≤ 40
          · go_wp2_with fail
            refine (good_append _ _ _ _ _ _ _ _ _ _ _ _ HL5.out r hlong hfit).mono ?_
            rintro e w6 ⟨rfl, ⟨v6, vr6, hl6, hf6, hg6⟩, he6⟩
            have HBx := Lib.hid (HB5.out.trans ((HL5.out.step he6).mono hs2))
            have HLx := Lib.hid hl6
            clear hl6 he6 hf6 hg6 hb5
            go_wp2_with fail
            go_roundw
            case rel => exact ⟨k + 1, _, _, _, _, _, _, _, by omega, by go_num, rfl, rfl, HLx.out, HBx.out⟩
            case measure => simp [intOf]; omega
          · go_wp2_with fail
            refine (lappend_full _ _ _ _ _ _ _ _ _ _ _ _ _ HL5.out.l r hlong (by omega)).mono ?_
            rintro e w6 ⟨rfl, hb6⟩
            have HBx := Lib.hid (HB5.out.trans (hb6.mono HB5.out.size))
            have HLx := Lib.hid (HL5.out.new hb6)
            clear hb6 hb5
            go_wp2_with fail
            go_roundw
            case rel => exact ⟨k + 1, _, _, _, _, _, _, _, by omega, by go_num, rfl, rfl, HLx.out, HBx.out⟩
            case measure => simp [intOf]; omega
        · go_wp2_with fail
          refine (lappend_long _ _ _ _ _ _ HL5.out.blk (bs r) (by omega)).mono ?_
          rintro e w6 ⟨rfl, rfl⟩
          have HBx := HB5
          have HLx := HL5
          clear hb5
          go_wp2_with fail
          go_roundw
          case rel => exact ⟨k + 1, _, _, _, _, _, _, _, by omega, by go_num, rfl, rfl, HLx.out, HBx.out⟩
          case measure => simp [intOf]; omega
      ·
        obtain ⟨r, hr⟩ : ∃ r, l[k].b = bs r := ⟨_, (bs_data _).symm⟩
        have hb5 := (HB5.out.cell (p := ⟨bl, of + k * 3 + 1, none⟩) hbl).trans ((hc k hlt).2.1.trans (by rw [hr]))
        clear hc hr
        have hsz : (bs r).size = r.length := bs_size r
        by_cases hlong : r.length ≤ 4400
        · by_cases hfit : spanN R + needN r.length ≤ 40
          · go_wp2_with fail
            refine (good_append _ _ _ _ _ _ _ _ _ _ _ _ HL5.out r hlong hfit).mono ?_
            rintro e w6 ⟨rfl, ⟨v6, vr6, hl6, hf6, hg6⟩, he6⟩
            have HBx := Lib.hid (HB5.out.trans ((HL5.out.step he6).mono hs2))
            have HLx := Lib.hid hl6
            clear hl6 he6 hf6 hg6 hb5
            go_wp2_with fail
            go_roundw
            case rel => exact ⟨k + 1, _, _, _, _, _, _, _, by omega, by go_num, rfl, rfl, HLx.out, HBx.out⟩
            case measure => simp [intOf]; omega
          · go_wp2_with fail
            refine (lappend_full _ _ _ _ _ _ _ _ _ _ _ _ _ HL5.out.l r hlong (by omega)).mono ?_
            rintro e w6 ⟨rfl, hb6⟩
            have HBx := Lib.hid (HB5.out.trans (hb6.mono HB5.out.size))
            have HLx := Lib.hid (HL5.out.new hb6)
            clear hb6 hb5
            go_wp2_with fail
            go_roundw
            case rel => exact ⟨k + 1, _, _, _, _, _, _, _, by omega, by go_num, rfl, rfl, HLx.out, HBx.out⟩
            case measure => simp [intOf]; omega
        · go_wp2_with fail
          refine (lappend_long _ _ _ _ _ _ HL5.out.blk (bs r) (by omega)).mono ?_
          rintro e w6 ⟨rfl, rfl⟩
          have HBx := HB5
          have HLx := HL5
          clear hb5
          go_wp2_with fail
          go_roundw
          case rel => exact ⟨k + 1, _, _, _, _, _, _, _, by omega, by go_num, rfl, rfl, HLx.out, HBx.out⟩
          case measure => simp [intOf]; omega
      ·
        go_wp2_with fail
        refine (good_sync _ _ _ _ _ _ _ _ _ _ _ _ HL5.out).mono ?_
        rintro e w6 ⟨rfl, ⟨v6, hl6, hf6⟩, he6⟩
        have HBx := Lib.hid (HB5.out.trans ((HL5.out.step he6).mono hs2))
        have HLx := Lib.hid hl6
        clear hl6 he6 hf6 hc
        go_wp2_with fail
        go_roundw
        case rel => exact ⟨k + 1, _, _, _, _, _, _, _, by omega, by go_num, rfl, rfl, HLx.out, HBx.out⟩
        case measure => simp [intOf]; omega
      ·
        obtain ⟨cs, hcs⟩ : ∃ cs, cs = l[k].cuts := ⟨_, rfl⟩
        obtain ⟨ca, cc, hc2, hci, hcn⟩ := (hc k hlt).2.2
        rw [← hcs] at hc2 hci
        have hc40 : cs.length ≤ 40 := by rw [hcs]; exact HLT.out.1 k hlt
        have hb5 : w5.cell? ⟨bl, of + k * 3 + 2, none⟩ = some (.slice ca cs.length cc) := (HB5.out.cell (p := ⟨bl, of + k * 3 + 2, none⟩) hbl).trans hc2
        have HCI := Lib.hid (And.intro hci hcn)
        clear hcs hc2 hci hcn hc
        go_wp2_with fail
        refine (own_ints _ cs _ _ (HCI.out.1.below HB5.out (Nat.le_refl _)) (by omega) HCI.out.2).mono ?_
        rintro e w6 ⟨iv, rfl, hiv, hb6⟩
        have HB6 := Lib.hid (HB5.out.trans (hb6.mono HB5.out.size))
        have HL6 := Lib.hid (HL5.out.new hb6)
        have HIV := Lib.hid hiv
        clear hb6 hiv hb5
        go_wp2_with fail
        refine (crash_ok _ _ _ _ _ _ _ _ HL6.out.l.d _ cs (ints_own HIV.out) (fun a n c e => own_far HL6.out.l.d HIV.out (by decide) (by decide) (by decide) _ (by rw [e]; rfl)) (by omega)).mono ?_
        rintro e w7 ⟨rfl, ⟨v7, hd7, hv7⟩, he7⟩
        have HB7 := Lib.hid (HB6.out.trans ((HL6.out.l.d.step he7).mono hs2))
        have HD7 := Lib.hid hd7
        clear hd7 he7 hv7
        go_wp2_with fail
        refine (open_crash _ _ _ _ _ _ _ _ _ HL6.out.g _ (cutN_le _) _ HD7.out).mono ?_
        rintro e w8 ⟨rfl, ⟨m, vr8, v8, hsm, hmR, _, _, hl8, _, _⟩, he8⟩
        obtain ⟨D8, hD8⟩ : ∃ D8, D8 = openD (crashK D P (cutN cs) P.length) (spanN (R.take m)) 40 := ⟨_, rfl⟩
        obtain ⟨R9, hR9⟩ : ∃ R9, R9 = R.take m := ⟨_, rfl⟩
        rw [← hD8, ← hR9] at hl8
        have HBx := Lib.hid (HB7.out.trans ((HD7.out.step he8).mono hs2))
        have HLx := Lib.hid hl8
        clear hl8 he8 hD8 hR9
        go_wp2_with fail
        go_roundw
        case rel => exact ⟨k + 1, _, _, _, _, _, _, _, by omega, by go_num, rfl, rfl, HLx.out, HBx.out⟩
        case measure => simp [intOf]; omega
    · have hk' : ¬ (k : Int) < (l.length : Int) := by omega
      go_wp2_with fail
      refine (own_ints _ ls _ _ (H1.out.1.below HW.out (Nat.le_refl _)) (by omega) H1.out.2).mono ?_
      rintro e w6 ⟨iv, rfl, hiv, hb6⟩
      have HB6 := Lib.hid (HW.out.trans (hb6.mono HW.out.size))
      have HL6 := Lib.hid (HL.out.new hb6)
      have HIV := Lib.hid hiv
      clear hb6 hiv
      go_wp2_with fail
      refine (crash_ok _ _ _ _ _ _ _ _ HL6.out.l.d _ ls (ints_own HIV.out) (fun a n c e => own_far HL6.out.l.d HIV.out (by decide) (by decide) (by decide) _ (by rw [e]; rfl)) (by omega)).mono ?_
      rintro e w7 ⟨rfl, ⟨v7, hd7, hv7⟩, he7⟩
      have HB7 := Lib.hid (HB6.out.trans ((HL6.out.l.d.step he7).mono hs2))
      obtain ⟨I, hI⟩ : ∃ I, I = crashK D P (cutN ls) P.length := ⟨_, rfl⟩
      obtain ⟨R1, hIl, hIr, hIf, hI40, hG1, hmd⟩ := HL6.out.g.mends (cutN ls) (cutN_le _) I hI
      rw [← hI] at hd7
      obtain ⟨fi, hfi⟩ : ∃ fi, fi = spanN R1 := ⟨_, rfl⟩
      rw [← hfi] at hIf hI40 hG1 hmd
      have HD7 := Lib.hid hd7
      have HMD := Lib.hid hmd
      have HG1 := Lib.hid hG1
      have HIF := Lib.hid (And.intro hIl (And.intro hIr (And.intro hIf hfi)))
      have hR1 : R1.length ≤ 1000000 := by have := found_recs_le I; rw [hIr, hIl] at this; omega
      have HRF := Lib.hid hR1
      clear hd7 he7 hv7 hI hIl hIr hIf hG1 hmd hfi hR1
      go_wp2_with fail
      refine (durable_ok _ _ _ _ _ _ _ _ HD7.out).mono ?_
      rintro e w8 ⟨iv8, rfl, hiv8, hb8⟩
      have HB8 := Lib.hid (HB7.out.trans (hb8.mono HB7.out.size))
      have HD8 := Lib.hid (HD7.out.new hb8)
      have hcv := conv_own hiv8
      clear hiv8 hb8
      have HBW := Lib.hid (bw_below w8 I)
      have hbI : (bs I).size = 40 * 512 := by rw [bs_size]; exact HIF.out.1
      go_wp2_with fail
      refine (scan_ok _ _ I (by rw [HIF.out.1]; decide) (grownCap_ge _ _ _ _) (BW w8 I) (by show w8.heap.size < (w8.drew.heap.push _).size; simp) (bw_cells w8 I)).mono ?_
      rintro e w9 ⟨rv, rfl, hrow, hb9⟩
      rw [HIF.out.2.1] at hrow
      rw [HIF.out.2.2.1]
      have HB9 := Lib.hid ((HB8.out.trans (HBW.out.mono HB8.out.size)).trans (hb9.mono (Nat.le_trans HB8.out.size HBW.out.size)))
      have HD9 := Lib.hid ((HD8.out.new HBW.out).new hb9)
      have HR9 := Lib.hid hrow
      obtain ⟨xa, xc, rfl⟩ := len_of_own hrow
      clear hrow hb9 hcv HBW
      have hf0 : ¬ ((fi : Int) < 0) := by omega
      have hf1 : (fi : Int) ≤ 40 := by omega
      go_wp2_with fail
      obtain ⟨w10, hw10⟩ : ∃ w10, w10 = BW w9 I := ⟨_, rfl⟩
      have hbw := bw_below w9 I
      have hcl := bw_cells w9 I
      rw [← hw10] at hbw hcl ⊢
      have HB10 := Lib.hid (HB9.out.trans (hbw.mono HB9.out.size))
      have HD10 := Lib.hid (HD9.out.new hbw)
      have HR10 := Lib.hid (own_below HR9.out hbw)
      clear hw10 hbw
      refine (of_40 I HIF.out.1 w10 _ _ (grownCap_ge _ _ _ _) (grownCap_le_maxLen _ _ _ _ (by rw [HIF.out.1]; decide)) hcl).mono ?_
      clear hcl
      rintro e w11 ⟨rfl, hp11, hb11⟩
      have HP11 := Lib.hid hp11
      have HQ11 := Lib.hid hb11
      clear hp11 hb11
      go_wp2_with fail
      go_loopw [17] (fun iv wr => ∃ (k : Nat) (v : Value), fi ≤ k ∧ k ≤ 40 ∧ iv = .int .i64 (k : Int) ∧ Hid (DiskAt wr w10.heap.size (w10.heap.size + 1) w10.heap.size 40 v I (zwL I fi k)) ∧ Hid (Below w10.heap.size w10 wr)) (fun iv _ => 40 - (intOf iv).toNat)
      case atStart => exact ⟨fi, _, Nat.le_refl _, by omega, rfl, show DiskAt _ _ _ _ _ _ _ _ from by rw [zwL_below fi (Nat.le_refl _)]; exact HP11.out, HQ11.out⟩
      case round =>
        obtain ⟨k2, vp, hk0, hk2, rfl, HP, HQ⟩ := hrel
        obtain ⟨w12, rfl⟩ : ∃ w12, w12 = wr := ⟨wr, rfl⟩
        go_wp2_with fail
        refine (sectors_40 _ _ _ _ HP.out.blk).mono ?_
        rintro e w' ⟨rfl, rfl⟩
        by_cases hlt2 : k2 < 40
        · have hkk : (k2 : Int) < 40 := by omega
          have hPZ := zwL_length (I := I) (e := fi) k2
          go_wp2_with fail
          refine (read_ok _ _ _ _ _ _ _ _ HP.out k2 hlt2).mono ?_
          rintro e w13 ⟨rfl, hbr, hb13⟩
          rw [zw_read HIF.out.1] at hbr
          have HP13 := Lib.hid (HP.out.new hb13)
          have HQ13 := Lib.hid (HQ.out.trans (hb13.mono HQ.out.size))
          have HN := Lib.hid (noughts_512 _ _ (sec_length HIF.out.1 hlt2) _ hbr)
          clear hbr hb13
          go_wp2_with fail
          refine HN.out.mono ?_
          rintro e w' ⟨rfl, rfl⟩
          clear HN
          cases hz : anyNZ (sec I k2)
          · go_wp2_with fail
            go_roundw
            case rel => exact ⟨k2 + 1, _, by omega, by omega, by go_num, show DiskAt _ _ _ _ _ _ _ _ from by rw [zwL_no hz]; exact HP13.out, HQ13.out⟩
            case measure => simp [intOf]; omega
          · go_wp2_with fail
            refine (write_zero _ _ _ _ _ _ _ _ HP13.out k2 hlt2 (by omega)).mono ?_
            rintro e w14 ⟨rfl, ⟨vq, hd14, _⟩, he14⟩
            have HP14 := Lib.hid hd14
            have HQ14 := Lib.hid (HQ13.out.trans (HP13.out.step he14))
            clear hd14 he14
            go_wp2_with fail
            go_roundw
            case rel => exact ⟨k2 + 1, _, by omega, by omega, by go_num, show DiskAt _ _ _ _ _ _ _ _ from by rw [zwL_yes hk0 hz]; exact HP14.out, HQ14.out⟩
            case measure => simp [intOf]; omega
        · have hkk : ¬ (k2 : Int) < 40 := by omega
          obtain rfl : k2 = 40 := by omega
          go_wp2_with fail
          have HB12 := Lib.hid (HB10.out.trans (HQ.out.mono HB10.out.size))
          refine (own_ints _ cs2 _ _ (H2.out.1.below HB12.out (Nat.le_refl _)) (by omega) H2.out.2).mono ?_
          rintro e w15 ⟨jv, rfl, hjv, hb15⟩
          have HQ15 := Lib.hid (HQ.out.trans (hb15.mono HQ.out.size))
          have HP15 := Lib.hid (HP.out.new hb15)
          have HJV := Lib.hid hjv
          clear hb15 hjv
          go_wp2_with fail
          refine (crash_ok _ _ _ _ _ _ _ _ HP15.out _ cs2 (ints_own HJV.out) (fun a n c e => own_far HP15.out HJV.out (by decide) (by decide) (by decide) _ (by rw [e]; rfl)) (by omega)).mono ?_
          rintro e w16 ⟨rfl, ⟨v16, hp16, _⟩, he16⟩
          have HQ16 := Lib.hid (HQ15.out.trans (HP15.out.step he16))
          obtain ⟨J, hJ⟩ : ∃ J, J = crashK I (zwL I fi 40) (cutN cs2) (zwL I fi 40).length := ⟨_, rfl⟩
          rw [← hJ] at hp16
          have HJ := Lib.hid (HMD.out (cutN cs2) (cutN_le _) J hJ)
          have HP16 := Lib.hid hp16
          clear hp16 he16 hJ
          go_wp2_with fail
          refine (image_ok _ _ _ _ _ _ _ _ HP16.out).mono ?_
          rintro e w17 ⟨mv, rfl, hmv, hb17⟩
          rw [sync_none] at hmv
          have HSC := Lib.hid (scan_own _ mv J w17 hmv (by rw [HJ.out.1]; decide) (by rw [HJ.out.1]; decide))
          have HQ17 := Lib.hid (HQ16.out.trans (hb17.mono HQ16.out.size))
          have HP17 := Lib.hid (HP16.out.new hb17)
          clear hmv hb17
          go_wp2_with fail
          refine HSC.out.mono ?_
          rintro e w18 ⟨sv, rfl, hsv, hb18⟩
          rw [HJ.out.2.1] at hsv
          rw [HJ.out.2.2.1]
          have HQ18 := Lib.hid (HQ17.out.trans (hb18.mono HQ17.out.size))
          have HP18 := Lib.hid (HP17.out.new hb18)
          have HS18 := Lib.hid hsv
          obtain ⟨ya, yc, rfl⟩ := len_of_own hsv
          clear hsv hb18 HSC
          go_wp2_with fail
          refine (open_ok _ _ _ _ _ _ _ _ HP18.out (by simp)).mono ?_
          rintro e w19 ⟨vry, vy, rfl, hy, _, _, he19⟩
          rw [sync_none, HJ.out.2.1, HJ.out.2.2.1, HJ.out.2.2.2] at hy
          have HQ19 := Lib.hid (HQ18.out.trans (HP18.out.step he19))
          have HS19 := Lib.hid (ownsRow_kept HS18.out he19 (own_far HP18.out HS18.out (by decide) (by decide) (by decide)))
          have HY19 := Lib.hid hy
          have HD19 := Lib.hid (HD10.out.new HQ19.out)
          have HR19 := Lib.hid (own_below HR10.out HQ19.out)
          have HB19 := Lib.hid (HB10.out.trans (HQ19.out.mono HB10.out.size))
          clear hy he19
          go_wp2_with fail
          refine (open_ok _ _ _ _ _ _ _ _ HD19.out (by simp)).mono ?_
          rintro e w20 ⟨vrx, vx, rfl, hx, _, _, he20⟩
          rw [sync_none, HIF.out.2.1, HIF.out.2.2.1] at hx
          have HX20 := Lib.hid hx
          have HY20 := Lib.hid (HY19.out.kept he20 fun b hb hd => by
            have h1 := (HY19.out.lt b hb).1
            have h2 := (HD10.out.lt b hd).2
            omega)
          have HS20 := Lib.hid (ownsRow_kept HS19.out he20 (own_far HD19.out HS19.out (by decide) (by decide) (by decide)))
          have HR20 := Lib.hid (ownsRow_kept HR19.out he20 (own_far HD19.out HR19.out (by decide) (by decide) (by decide)))
          have HB20 := Lib.hid (HB19.out.trans ((HD19.out.step he20).mono hs2))
          clear hx he20
          go_wp2_with fail
          refine (same_ok _ _ R1 R1 _ (Texts.own HS20.out) (Texts.own HR20.out) HRF.out HRF.out).mono ?_
          rintro e w21 ⟨rfl, hb21⟩
          have HX21 := Lib.hid (HX20.out.new hb21)
          have HY21 := Lib.hid (HY20.out.new hb21)
          have HR21 := Lib.hid (own_below HR20.out hb21)
          have HB21 := Lib.hid (HB20.out.trans (hb21.mono HB20.out.size))
          rw [decide_eq_true (rfl : R1 = R1)]
          clear hb21
          go_wp2_with fail
          refine (lrecords_ok _ _ _ _ _ _ _ _ _ _ _ _ _ HX21.out).mono ?_
          rintro e w22 ⟨tv, rfl, htv, hb22⟩
          have HT22 := Lib.hid (Texts.own htv)
          have HX22 := Lib.hid (HX21.out.new hb22)
          have HY22 := Lib.hid (HY21.out.new hb22)
          have HR22 := Lib.hid (own_below HR21.out hb22)
          have HB22 := Lib.hid (HB21.out.trans (hb22.mono HB21.out.size))
          obtain ⟨ta, tc, rfl⟩ := len_of_own htv
          clear hb22 htv
          go_wp2_with fail
          refine (same_ok _ _ R1 R1 _ HT22.out (Texts.own HR22.out) HRF.out HRF.out).mono ?_
          rintro e w23 ⟨rfl, hb23⟩
          have HX23 := Lib.hid (HX22.out.new hb23)
          have HY23 := Lib.hid (HY22.out.new hb23)
          have HR23 := Lib.hid (own_below HR22.out hb23)
          have HB23 := Lib.hid (HB22.out.trans (hb23.mono HB22.out.size))
          rw [decide_eq_true (rfl : R1 = R1)]
          clear hb23
          go_wp2_with fail
          refine (lrecords_ok _ _ _ _ _ _ _ _ _ _ _ _ _ HY23.out).mono ?_
          rintro e w24 ⟨tv, rfl, htv, hb24⟩
          have HT24 := Lib.hid (Texts.own htv)
          have HX24 := Lib.hid (HX23.out.new hb24)
          have HY24 := Lib.hid (HY23.out.new hb24)
          have HR24 := Lib.hid (own_below HR23.out hb24)
          have HB24 := Lib.hid (HB23.out.trans (hb24.mono HB23.out.size))
          obtain ⟨tb, td, rfl⟩ := len_of_own htv
          clear hb24 htv
          go_wp2_with fail
          refine (same_ok _ _ R1 R1 _ HT24.out (Texts.own HR24.out) HRF.out HRF.out).mono ?_
          rintro e w25 ⟨rfl, hb25⟩
          have HX25 := Lib.hid (HX24.out.new hb25)
          have HY25 := Lib.hid (HY24.out.new hb25)
          have HR25 := Lib.hid (own_below HR24.out hb25)
          have HB25 := Lib.hid (HB24.out.trans (hb25.mono HB24.out.size))
          rw [decide_eq_true (rfl : R1 = R1)]
          clear hb25
          go_wp2_with fail
          refine (lend_ok _ _ _ _ _ _ HX25.out.l).mono ?_
          rintro e w' ⟨rfl, rfl⟩
          go_wp2_with fail
          refine (pending_nil _ _ _ _ _ _ _ HX25.out.d).mono ?_
          rintro e w' ⟨rfl, rfl⟩
          go_wp2_with fail
          obtain ⟨O, hO⟩ : ∃ O, O = openD I fi 40 := ⟨_, rfl⟩
          have hOl : O.length = 40 * 512 := by rw [hO]; exact openD_length HIF.out.1 hI40
          have hG1 := HG1.out
          have hfO := hG1.finds
          have hOO : openD O fi 40 = O := by rw [hO]; exact openD_twice HIF.out.1 hI40
          have hX25 := HX25.out
          have hY25 := HY25.out
          rw [sync_none, ← HIF.out.2.2.2] at hfO
          rw [← hO] at hfO hX25 hY25
          obtain ⟨fx, hfx⟩ : ∃ fx, fx = fi * 512 := ⟨_, rfl⟩
          have hxO : (bs O).extract 0 fx = bs (I.take fx) := by
            rw [bs_extract, hO, hfx]
            unfold openD
            rw [List.drop_zero, Nat.sub_zero, List.take_append_of_le_length (by rw [List.length_take, HIF.out.1]; omega), List.take_take, Nat.min_self]
          have hxI : (bs I).extract 0 fx = bs (I.take fx) := by
            rw [bs_extract, List.drop_zero, Nat.sub_zero]
          have hxZ : (bs O).extract fx 20480 = bs (zeros ((40 - fi) * 512)) := by
            rw [bs_extract, hO, hfx]
            unfold openD
            rw [List.drop_append_of_le_length (by rw [List.length_take, HIF.out.1]; omega), List.drop_eq_nil_of_le (by rw [List.length_take]; omega), List.nil_append, List.take_of_length_le (by rw [zeros_length]; omega)]
          have HX25 := Lib.hid hX25
          have HY25 := Lib.hid hY25
          have HOF := Lib.hid (And.intro hOl (And.intro hOO hfO))
          have hq1 : ((bs O).toList == (bs O).toList) = true := beq_self_eq_true _
          have hq2 : ((bs (I.take fx)).toList == (bs (I.take fx)).toList) = true := beq_self_eq_true _
          have hbO : (bs O).size = 20480 := by rw [bs_size, hOl]
          have hbI : (bs I).size = 20480 := by rw [bs_size, HIF.out.1]
          have hfw : IntKind.i64.wrap ((fi : Int) * 512) = (fx : Int) := by rw [hfx, IntWalk.i64_in _ (by omega)]; omega
          have hfl : (fx : Int) ≤ 20480 := by omega
          have hf00 : (0 : Int) ≤ (fx : Int) := by omega
          clear hX25 hY25 hOl hOO hfO hG1 hO hfx
          refine (durable_ok _ _ _ _ _ _ _ _ HX25.out.d).mono ?_
          rintro e w26 ⟨kv, rfl, hkv, hb26⟩
          have hcv := conv_own hkv
          have HX26 := Lib.hid (HX25.out.new hb26)
          have HY26 := Lib.hid (HY25.out.new hb26)
          have HR26 := Lib.hid (own_below HR25.out hb26)
          have HB26 := Lib.hid (HB25.out.trans (hb26.mono HB25.out.size))
          clear hkv hb26
          go_wp2_with fail
          clear hcv
          refine start_ (n := 25) (S := (fun _ => True)) (ds := []) #[false, false, false, false, false, false, false, false, false, false, false, false, false, false, false, false, false, false, false, false, false, false, false, false, false] (by as_aux_lemma => kernel_rfl) rfl rfl (trivial) (fun hHeld => ?_)
          refine pure_ (i := 0) (N := some 212) (v := ?_) (a' := ?_) #[true, false, false, false, false, false, false, false, false, false, false, false, false, false, false, false, false, false, false, false, false, false, false, false, false] rfl rfl (by as_aux_lemma => kernel_rfl) (fun _ _ _ h => h) (Or.inl ⟨by rfl, ?_⟩) ?_ ?_
          rotate_left
          ·intro w'
           go_simp
           with_reducible rfl
          rotate_left
          ·simp only [Act.put, List.setIfInBounds_toArray, List.set_cons_zero, List.set_cons_succ, i64_w, i32_w]
           rfl
          refine pure_ (i := 1) (N := some 213) (v := ?_) (a' := ?_) #[true, true, false, false, false, false, false, false, false, false, false, false, false, false, false, false, false, false, false, false, false, false, false, false, false] rfl rfl (by as_aux_lemma => kernel_rfl) (fun _ _ _ h => h) (Or.inl ⟨by rfl, ?_⟩) ?_ ?_
          rotate_left
          ·intro w'
           go_simp
           with_reducible rfl
          rotate_left
          ·simp only [Act.put, List.setIfInBounds_toArray, List.set_cons_zero, List.set_cons_succ, i64_w, i32_w]
           rfl
          refine one_ (i := 2) (N := some 214) #[true, true, true, false, false, false, false, false, false, false, false, false, false, false, false, false, false, false, false, false, false, false, false, false, false] rfl rfl (by as_aux_lemma => kernel_rfl) (by decide) (fun K hK => ?_)
          refine goes_ Try.func42 (by as_aux_lemma => kernel_rfl) rfl #[.pointer (some ⟨w10.heap.size + 1, 0, none⟩)] (by rfl) rfl rfl (by (try simp only [List.map_toArray, List.map_cons, List.map_nil]); first | done | rfl) ?_
          refine (durable_ok _ _ _ _ _ _ _ _ HY26.out.d.drew).mono ?_
          rintro e w27 ⟨pv, rfl, hpv, hb27⟩
          have hcv := conv_own hpv
          have HBD := Lib.hid ((Below.refl w26.heap.size w26).drew.trans hb27)
          clear hpv hb27
          refine ⟨_, rfl, ?_⟩
          refine hK.out _ _ (trivial) (fun hHeld2 => ?_)
          clear hK K hHeld
          have hHeld := hHeld2
          clear hHeld2
          refine norm_ (a' := ?_) ?_ ?_
          rotate_left
          ·show Act.put _ (some 214) _ = _
           simp only [Act.put, List.setIfInBounds_toArray, List.set_cons_zero, List.set_cons_succ, i64_w, i32_w]
           rfl
          refine one_ (i := 3) (N := some 215) #[true, true, true, true, false, false, false, false, false, false, false, false, false, false, false, false, false, false, false, false, false, false, false, false, false] rfl rfl (by as_aux_lemma => kernel_rfl) (by decide) (fun K hK => ?_)
          refine value_ (v := .string (bs O)) (w1 := w27) (by rfl) rfl ?_ ?_
          ·show (ConvVia _).run _ _ = _
           exact hcv
          refine hK.out _ _ (trivial) (fun hHeld2 => ?_)
          clear hK K hHeld
          have hHeld := hHeld2
          clear hHeld2
          refine norm_ (a' := ?_) ?_ ?_
          rotate_left
          ·show Act.put _ (some 215) _ = _
           simp only [Act.put, List.setIfInBounds_toArray, List.set_cons_zero, List.set_cons_succ, i64_w, i32_w]
           rfl
          clear hcv
          refine pure_ (i := 4) (N := some 216) (v := ?_) (a' := ?_) #[true, true, true, true, true, false, false, false, false, false, false, false, false, false, false, false, false, false, false, false, false, false, false, false, false] rfl rfl (by as_aux_lemma => kernel_rfl) (fun _ _ _ h => h) (Or.inl ⟨by rfl, ?_⟩) ?_ ?_
          rotate_left
          ·intro w'
           go_simp
           with_reducible rfl
          rotate_left
          ·simp only [Act.put, List.setIfInBounds_toArray, List.set_cons_zero, List.set_cons_succ, i64_w, i32_w]
           rfl
          refine pure_ (i := 5) (N := some 217) (v := ?_) (a' := ?_) #[true, true, true, true, true, true, false, false, false, false, false, false, false, false, false, false, false, false, false, false, false, false, false, false, false] rfl rfl (by as_aux_lemma => kernel_rfl) (fun _ _ _ h => h) (Or.inl ⟨by rfl, ?_⟩) ?_ ?_
          rotate_left
          ·intro w'
           go_simp
           with_reducible rfl
          rotate_left
          ·simp only [Act.put, List.setIfInBounds_toArray, List.set_cons_zero, List.set_cons_succ, i64_w, i32_w]
           rfl
          refine pure_ (i := 6) (N := some 218) (v := ?_) (a' := ?_) #[true, true, true, true, true, true, true, false, false, false, false, false, false, false, false, false, false, false, false, false, false, false, false, false, false] rfl rfl (by as_aux_lemma => kernel_rfl) (fun _ _ _ h => h) (Or.inl ⟨by rfl, ?_⟩) ?_ ?_
          rotate_left
          ·intro w'
           go_simp
           with_reducible rfl
          rotate_left
          ·simp only [Act.put, List.setIfInBounds_toArray, List.set_cons_zero, List.set_cons_succ, i64_w, i32_w]
           rfl
          refine pure_ (i := 7) (N := some 219) (v := ?_) (a' := ?_) #[true, true, true, true, true, true, true, true, false, false, false, false, false, false, false, false, false, false, false, false, false, false, false, false, false] rfl rfl (by as_aux_lemma => kernel_rfl) (fun _ _ _ h => h) (Or.inl ⟨by rfl, ?_⟩) ?_ ?_
          rotate_left
          ·intro w'
           go_simp
           with_reducible rfl
          rotate_left
          ·simp only [Act.put, List.setIfInBounds_toArray, List.set_cons_zero, List.set_cons_succ, i64_w, i32_w]
           rfl
          refine pure_ (i := 8) (N := some 220) (v := ?_) (a' := ?_) #[true, true, true, true, true, true, true, true, true, false, false, false, false, false, false, false, false, false, false, false, false, false, false, false, false] rfl rfl (by as_aux_lemma => kernel_rfl) (fun _ _ _ h => h) (Or.inl ⟨by rfl, ?_⟩) ?_ ?_
          rotate_left
          ·intro w'
           go_simp
           with_reducible rfl
          rotate_left
          ·simp only [Act.put, List.setIfInBounds_toArray, List.set_cons_zero, List.set_cons_succ, i64_w, i32_w]
           rfl
          refine pure_ (i := 9) (N := some 221) (v := ?_) (a' := ?_) #[true, true, true, true, true, true, true, true, true, true, false, false, false, false, false, false, false, false, false, false, false, false, false, false, false] rfl rfl (by as_aux_lemma => kernel_rfl) (fun _ _ _ h => h) (Or.inl ⟨by rfl, ?_⟩) ?_ ?_
          rotate_left
          ·intro w'
           go_simp
           with_reducible rfl
          rotate_left
          ·simp only [Act.put, List.setIfInBounds_toArray, List.set_cons_zero, List.set_cons_succ, i64_w, i32_w]
           rfl
          refine pure_ (i := 10) (N := some 222) (v := ?_) (a' := ?_) #[true, true, true, true, true, true, true, true, true, true, true, false, false, false, false, false, false, false, false, false, false, false, false, false, false] rfl rfl (by as_aux_lemma => kernel_rfl) (fun _ _ _ h => h) (Or.inl ⟨by rfl, ?_⟩) ?_ ?_
          rotate_left
          ·intro w'
           go_simp
           with_reducible rfl
          rotate_left
          ·simp only [Act.put, List.setIfInBounds_toArray, List.set_cons_zero, List.set_cons_succ, i64_w, i32_w]
           rfl
          refine pure_ (i := 11) (N := some 223) (v := ?_) (a' := ?_) #[true, true, true, true, true, true, true, true, true, true, true, true, false, false, false, false, false, false, false, false, false, false, false, false, false] rfl rfl (by as_aux_lemma => kernel_rfl) (fun _ _ _ h => h) (Or.inl ⟨by rfl, ?_⟩) ?_ ?_
          rotate_left
          ·intro w'
           go_simp
           with_reducible rfl
          rotate_left
          ·simp only [Act.put, List.setIfInBounds_toArray, List.set_cons_zero, List.set_cons_succ, i64_w, i32_w]
           rfl
          refine pure_ (i := 12) (N := some 224) (v := ?_) (a' := ?_) #[true, true, true, true, true, true, true, true, true, true, true, true, true, false, false, false, false, false, false, false, false, false, false, false, false] rfl rfl (by as_aux_lemma => kernel_rfl) (fun _ _ _ h => h) (Or.inl ⟨by rfl, ?_⟩) ?_ ?_
          rotate_left
          ·intro w'
           go_simp
           with_reducible rfl
          rotate_left
          ·simp only [Act.put, List.setIfInBounds_toArray, List.set_cons_zero, List.set_cons_succ, i64_w, i32_w]
           rfl
          refine pure_ (i := 13) (N := some 225) (v := ?_) (a' := ?_) #[true, true, true, true, true, true, true, true, true, true, true, true, true, true, false, false, false, false, false, false, false, false, false, false, false] rfl rfl (by as_aux_lemma => kernel_rfl) (fun _ _ _ h => h) (Or.inl ⟨by rfl, ?_⟩) ?_ ?_
          rotate_left
          ·intro w'
           go_simp
           with_reducible rfl
          rotate_left
          ·simp only [Act.put, List.setIfInBounds_toArray, List.set_cons_zero, List.set_cons_succ, i64_w, i32_w]
           rfl
          refine pure_ (i := 14) (N := some 226) (v := ?_) (a' := ?_) #[true, true, true, true, true, true, true, true, true, true, true, true, true, true, true, false, false, false, false, false, false, false, false, false, false] rfl rfl (by as_aux_lemma => kernel_rfl) (fun _ _ _ h => h) (Or.inl ⟨by rfl, ?_⟩) ?_ ?_
          rotate_left
          ·intro w'
           go_simp
           with_reducible rfl
          rotate_left
          ·simp only [Act.put, List.setIfInBounds_toArray, List.set_cons_zero, List.set_cons_succ, i64_w, i32_w]
           rfl
          refine pure_ (i := 15) (N := some 227) (v := ?_) (a' := ?_) #[true, true, true, true, true, true, true, true, true, true, true, true, true, true, true, true, false, false, false, false, false, false, false, false, false] rfl rfl (by as_aux_lemma => kernel_rfl) (fun _ _ _ h => h) (Or.inl ⟨by rfl, ?_⟩) ?_ ?_
          rotate_left
          ·intro w'
           go_simp
           with_reducible rfl
          rotate_left
          ·simp only [Act.put, List.setIfInBounds_toArray, List.set_cons_zero, List.set_cons_succ, i64_w, i32_w]
           rfl
          refine pure_ (i := 16) (N := some 228) (v := ?_) (a' := ?_) #[true, true, true, true, true, true, true, true, true, true, true, true, true, true, true, true, true, false, false, false, false, false, false, false, false] rfl rfl (by as_aux_lemma => kernel_rfl) (fun _ _ _ h => h) (Or.inl ⟨by rfl, ?_⟩) ?_ ?_
          rotate_left
          ·intro w'
           go_simp
           with_reducible rfl
          rotate_left
          ·simp only [Act.put, List.setIfInBounds_toArray, List.set_cons_zero, List.set_cons_succ, i64_w, i32_w]
           rfl
          refine pure_ (i := 17) (N := some 229) (v := ?_) (a' := ?_) #[true, true, true, true, true, true, true, true, true, true, true, true, true, true, true, true, true, true, false, false, false, false, false, false, false] rfl rfl (by as_aux_lemma => kernel_rfl) (fun _ _ _ h => h) (Or.inl ⟨by rfl, ?_⟩) ?_ ?_
          rotate_left
          ·intro w'
           go_simp
           with_reducible rfl
          rotate_left
          ·simp only [Act.put, List.setIfInBounds_toArray, List.set_cons_zero, List.set_cons_succ, i64_w, i32_w]
           rfl
          refine pure_ (i := 18) (N := some 230) (v := ?_) (a' := ?_) #[true, true, true, true, true, true, true, true, true, true, true, true, true, true, true, true, true, true, true, false, false, false, false, false, false] rfl rfl (by as_aux_lemma => kernel_rfl) (fun _ _ _ h => h) (Or.inl ⟨by rfl, ?_⟩) ?_ ?_
          rotate_left
          ·intro w'
           go_simp
           with_reducible rfl
          rotate_left
          ·simp only [Act.put, List.setIfInBounds_toArray, List.set_cons_zero, List.set_cons_succ, i64_w, i32_w]
           rfl
          refine pure_ (i := 19) (N := some 231) (v := ?_) (a' := ?_) #[true, true, true, true, true, true, true, true, true, true, true, true, true, true, true, true, true, true, true, true, false, false, false, false, false] rfl rfl (by as_aux_lemma => kernel_rfl) (fun _ _ _ h => h) (Or.inl ⟨by rfl, ?_⟩) ?_ ?_
          rotate_left
          ·intro w'
           go_simp
           with_reducible rfl
          rotate_left
          ·simp only [Act.put, List.setIfInBounds_toArray, List.set_cons_zero, List.set_cons_succ, i64_w, i32_w]
           rfl
          refine pure_ (i := 20) (N := some 232) (v := ?_) (a' := ?_) #[true, true, true, true, true, true, true, true, true, true, true, true, true, true, true, true, true, true, true, true, true, false, false, false, false] rfl rfl (by as_aux_lemma => kernel_rfl) (fun _ _ _ h => h) (Or.inl ⟨by rfl, ?_⟩) ?_ ?_
          rotate_left
          ·intro w'
           go_simp
           with_reducible rfl
          rotate_left
          ·simp only [Act.put, List.setIfInBounds_toArray, List.set_cons_zero, List.set_cons_succ, i64_w, i32_w]
           rfl
          refine one_ (i := 21) (N := some 233) #[true, true, true, true, true, true, true, true, true, true, true, true, true, true, true, true, true, true, true, true, true, true, false, false, false] rfl rfl (by as_aux_lemma => kernel_rfl) (by decide) (fun K hK => ?_)
          refine value_ (v := .slice (some ⟨w27.heap.size, 0, none⟩) (zeros ((40 - fi) * 512)).length (grownCap w27 (zeros ((40 - fi) * 512)).length 0 5)) (w1 := BW w27 (zeros ((40 - fi) * 512))) (by rfl) rfl ?_ ?_
          ·show (BytesVia (.string (bs (zeros ((40 - fi) * 512))))).run _ _ = _
           exact via_bytes _ _
          refine hK.out _ _ (trivial) (fun hHeld2 => ?_)
          clear hK K hHeld
          have hHeld := hHeld2
          clear hHeld2
          refine norm_ (a' := ?_) ?_ ?_
          rotate_left
          ·show Act.put _ (some 233) _ = _
           simp only [Act.put, List.setIfInBounds_toArray, List.set_cons_zero, List.set_cons_succ, i64_w, i32_w]
           rfl
          refine one_ (i := 22) (N := some 234) #[true, true, true, true, true, true, true, true, true, true, true, true, true, true, true, true, true, true, true, true, true, true, true, false, false] rfl rfl (by as_aux_lemma => kernel_rfl) (by decide) (fun K hK => ?_)
          refine goes_ Try.func45 (by as_aux_lemma => kernel_rfl) rfl #[.slice (some ⟨w27.heap.size, 0, none⟩) (zeros ((40 - fi) * 512)).length (grownCap w27 (zeros ((40 - fi) * 512)).length 0 5)] (by rfl) rfl rfl (by (try simp only [List.map_toArray, List.map_cons, List.map_nil]); first | done | rfl) ?_
          refine (noughts_ok _ 0 _ _ (by rw [zeros_length]; omega) _ (fun j u hu => by rw [Nat.zero_add]; exact bw_cells _ _ j u hu)).mono ?_
          rintro e w' ⟨rfl, rfl⟩
          rw [nz_zeros]
          refine ⟨_, rfl, ?_⟩
          refine hK.out _ _ (trivial) (fun hHeld2 => ?_)
          clear hK K hHeld
          have hHeld := hHeld2
          clear hHeld2
          refine norm_ (a' := ?_) ?_ ?_
          rotate_left
          ·show Act.put _ (some 234) _ = _
           simp only [Act.put, List.setIfInBounds_toArray, List.set_cons_zero, List.set_cons_succ, i64_w, i32_w]
           rfl
          refine pure_ (i := 23) (N := some 235) (v := ?_) (a' := ?_) #[true, true, true, true, true, true, true, true, true, true, true, true, true, true, true, true, true, true, true, true, true, true, true, true, false] rfl rfl (by as_aux_lemma => kernel_rfl) (fun _ _ _ h => h) (Or.inl ⟨by rfl, ?_⟩) ?_ ?_
          rotate_left
          ·intro w'
           go_simp
           with_reducible rfl
          rotate_left
          ·simp only [Act.put, List.setIfInBounds_toArray, List.set_cons_zero, List.set_cons_succ, i64_w, i32_w]
           rfl
          refine pure_ (i := 24) (N := some 236) (v := ?_) (a' := ?_) #[true, true, true, true, true, true, true, true, true, true, true, true, true, true, true, true, true, true, true, true, true, true, true, true, true] rfl rfl (by as_aux_lemma => kernel_rfl) (fun _ _ _ h => h) (Or.inl ⟨by rfl, ?_⟩) ?_ ?_
          rotate_left
          ·intro w'
           go_simp
           with_reducible rfl
          rotate_left
          ·simp only [Act.put, List.setIfInBounds_toArray, List.set_cons_zero, List.set_cons_succ, i64_w, i32_w]
           rfl
          refine done_ (by as_aux_lemma => kernel_rfl) ?_
          have hbw := HBD.out.trans ((bw_below w27 (zeros ((40 - fi) * 512))).mono HBD.out.size)
          obtain ⟨w28, hw28⟩ : ∃ w28, w28 = BW w27 (zeros ((40 - fi) * 512)) := ⟨_, rfl⟩
          rw [← hw28] at hbw ⊢
          have HX28 := Lib.hid (HX26.out.new hbw)
          have HR28 := Lib.hid (own_below HR26.out hbw)
          have HB28 := Lib.hid (HB26.out.trans (hbw.mono HB26.out.size))
          clear hw28 hbw HBD hHeld hq2 hxO hxI hxZ hfw
          go_wp2_with fail
          refine (open_ok _ _ _ _ _ _ _ _ HX28.out.d (by simp)).mono ?_
          rintro e w29 ⟨vrz, vz, rfl, hz, _, _, he29⟩
          rw [sync_none, HOF.out.2.2.1, HOF.out.2.2.2, HOF.out.2.1] at hz
          have HZ29 := Lib.hid hz
          have HR29 := Lib.hid (ownsRow_kept HR28.out he29 (own_far HX28.out.d HR28.out (by decide) (by decide) (by decide)))
          have HB29 := Lib.hid (HB28.out.trans ((HX28.out.d.step he29).mono hs2))
          clear hz he29
          go_wp2_with fail
          refine (durable_ok _ _ _ _ _ _ _ _ HZ29.out.d).mono ?_
          rintro e w30 ⟨kv, rfl, hkv, hb30⟩
          have hcv := conv_own hkv
          have HZ30 := Lib.hid (HZ29.out.new hb30)
          have HR30 := Lib.hid (own_below HR29.out hb30)
          have HB30 := Lib.hid (HB29.out.trans (hb30.mono HB29.out.size))
          clear hkv hb30
          go_wp2_with fail
          refine (lrecords_ok _ _ _ _ _ _ _ _ _ _ _ _ _ HZ30.out).mono ?_
          rintro e w31 ⟨tv, rfl, htv, hb31⟩
          have HT31 := Lib.hid (Texts.own htv)
          have HR31 := Lib.hid (own_below HR30.out hb31)
          have HB31 := Lib.hid (HB30.out.trans (hb31.mono HB30.out.size))
          obtain ⟨te, tf, rfl⟩ := len_of_own htv
          clear hb31 htv hcv
          go_wp2_with fail
          refine (same_ok _ _ R1 R1 _ HT31.out (Texts.own HR31.out) HRF.out HRF.out).mono ?_
          rintro e w32 ⟨rfl, hb32⟩
          have HB32 := Lib.hid (HB31.out.trans (hb32.mono HB31.out.size))
          rw [decide_eq_true (rfl : R1 = R1)]
          clear hb32
          go_wp2_with fail
          go_ret
          exact ⟨rfl, HB32.out⟩
theorem walMends_row (a0 : Option Addr) (l : List ActD) (c0 : Nat) (a1 : Option Addr) (ls : List Int) (c1 : Nat) (a2 : Option Addr) (cs : List Int) (c2 : Nat) (w : World) (h0 : ActsAt w a0 l) (hnil : a0 = none → c0 = 0) (l0 : l.length ≤ 140737488351232)
    (h1 : IntsAt w (.slice a1 ls.length c1) ls) (hnil1 : a1 = none → c1 = 0) (l1 : ls.length ≤ 140737488351232) (h2 : IntsAt w (.slice a2 cs.length c2) cs) (hnil2 : a2 = none → c2 = 0) (l2 : cs.length ≤ 140737488351232) :
    Calls Try.prog 9 #[.slice a0 l.length c0, .slice a1 ls.length c1, .slice a2 cs.length c2] w fun e w' => e = .returned (.bool true) ∧ Below w.heap.size w w' := walMends_walk a0 l c0 a1 ls c1 a2 cs c2 w h0 hnil l0 h1 hnil1 l1 h2 hnil2 l2
end Go.Proofs.YtbbnjnpbaekfgaaM
