/- The law WalTorn, walked: it says yes. -/
import Derived.Test.YtbbnjnpbaekfgaaEy
import Derived.Test.YtbbnjnpbaekfgaaTf
set_option linter.unusedVariables false
set_option linter.unusedSimpArgs false
namespace Go.Proofs.YtbbnjnpbaekfgaaM
open Go.RowKit
theorem lights_3 (a : Option Addr) (l : List ByteArray) (c : Nat) (w : World) (h : StrsAt w a l) (hl : l.length ≤ 140737488351232) :
    Calls Try.prog 20 #[.slice a l.length c, .int .i64 3, .int .i64 3000] w fun e w' => e = .returned (.bool (lightB l 3 3000)) ∧ w = w' := lights a l c 3 3000 w h hl
theorem new_30 (w : World) : Calls Try.prog 13 #[.int .i64 30] w fun e w' => e = .returned (.tuple #[.pointer (some ⟨w.heap.size + 1, 0, none⟩), .int .i64 0]) ∧
      DiskAt w' w.heap.size (w.heap.size + 1) w.heap.size 30 (.slice none 0 0) (zeros (30 * 512)) [] ∧ Below w.heap.size w w' := new_ok 30 (by decide) (by decide) w
theorem span_few : ∀ R : List (List UInt8), (∀ r ∈ R, r.length ≤ 3000) → spanN R ≤ 7 * R.length
  | [], _ => Nat.le_refl _
  | r :: R, h => by
    have h1 := span_few R fun x hx => h x (List.mem_cons_of_mem _ hx)
    have h2 := h r List.mem_cons_self
    simp only [spanN, List.length_cons]
    unfold needN
    omega
/-- The texts of strings. -/
def listsOf (l : List ByteArray) : List (List UInt8) := l.map fun s => s.data.toList
theorem listsOf_length (l : List ByteArray) : (listsOf l).length = l.length := by simp [listsOf]
theorem listsOf_get (l : List ByteArray) (j : Nat) (h : j < l.length) : bs ((listsOf l)[j]'(by rw [listsOf_length]; exact h)) = l[j] := by
  simp only [listsOf, List.getElem_map]
  exact bs_data _
theorem Texts.strs {w : World} {a : Option Addr} {l : List ByteArray} (c : Nat) (h : StrsAt w a l) : Texts w (.slice a l.length c) (listsOf l) := by
  refine ⟨a, c, by rw [listsOf_length], fun h0 => ?_⟩
  rw [listsOf_length] at h0
  obtain ⟨ad, e, hl, hc⟩ := h h0
  exact ⟨ad, e, hl, fun j hj => by rw [hc j (by rw [listsOf_length] at hj; exact hj), listsOf_get]⟩
theorem tail_step {F : List UInt8} (c k : Nat) (hck : c ≤ k) (hk : k < F.length) : ((F.drop c).take (k + 1 - c)).all (· == 0) = (((F.drop c).take (k - c)).all (· == 0) && (F.getD k 0 == 0)) := by
  rw [show k + 1 - c = (k - c) + 1 by omega, List.take_succ_eq_append_getElem (by rw [List.length_drop]; omega), List.all_append]
  simp only [List.all_cons, List.all_nil, Bool.and_true, List.getElem_drop]
  have : F[c + (k - c)]'(by omega) = F.getD k 0 := by
    rw [List.getD_eq_getElem?_getD, List.getElem?_eq_getElem hk]
    simp only [Option.getD_some]
    congr 1
    omega
  rw [this]
theorem byte_zero (F : List UInt8) (k : Nat) (h : k < (bs F).size) : ((((bs F)[k]'h).toNat : Int) == 0) = (F.getD k 0 == 0) := by
  have hk : k < F.length := by rw [← bs_size F]; exact h
  have e : (bs F)[k]'h = F[k] := by
    show (F.toArray)[k]'(by simpa using hk) = F[k]
    simp
  rw [e, List.getD_eq_getElem?_getD, List.getElem?_eq_getElem hk]
  simp only [Option.getD_some]
  rw [Bool.eq_iff_iff, beq_iff_eq, beq_iff_eq]
  constructor
  · intro h
    apply UInt8.toNat_inj.1
    simpa using h
  · intro h
    rw [h]
    rfl
theorem tail_all {F : List UInt8} (hF : F.length = 512) (c : Nat) : ((F.drop c).take (512 - c)).all (· == 0) = tailZ F c := by
  unfold tailZ
  rw [List.take_of_length_le (by rw [List.length_drop]; omega)]
theorem cutN_at {cs : List Int} {j : Nat} (h : j < cs.length) : ∃ t c : Nat, c = cutN cs j ∧ (if cs[j] < 0 then (0 : Int) else cs[j]) = (t : Int) ∧ (if (512 : Int) < (t : Int) then (512 : Int) else (t : Int)) = (c : Int) := by
  refine ⟨cs[j].toNat, _, rfl, by split <;> omega, ?_⟩
  unfold cutN
  rw [List.getElem?_eq_getElem h]
  simp only
  split <;> split <;> (try split) <;> omega
theorem cutN_none {cs : List Int} {j : Nat} (h : ¬ j < cs.length) : cutN cs j = 0 := by
  unfold cutN
  rw [List.getElem?_eq_none (by omega)]
attribute [local go_sem] Go.Proofs.YtbbnjnpbaekfgaaW.PrintMore.min2_int Go.Proofs.YtbbnjnpbaekfgaaW.PrintMore.min_two Go.Proofs.YtbbnjnpbaekfgaaW.PrintMore.max2_int Go.Proofs.YtbbnjnpbaekfgaaW.PrintMore.max_two
set_option maxRecDepth 100000 in
set_option maxHeartbeats 8000000 in
theorem walTorn_walk (a0 : Option Addr) (l : List ByteArray) (c0 : Nat) (x1 : ByteArray) (a2 : Option Addr) (cs : List Int) (c2 : Nat) (w : World) (h0 : StrsAt w a0 l) (hnil : a0 = none → c0 = 0) (l0 : l.length ≤ 140737488351232) (hx1 : x1.size ≤ 140737488351232)
    (h2 : IntsAt w (.slice a2 cs.length c2) cs) (hnil2 : a2 = none → c2 = 0) (l2 : cs.length ≤ 140737488351232) :
    Calls Try.prog 4 #[.slice a0 l.length c0, .string x1, .slice a2 cs.length c2] w fun e w' => e = .returned (.bool true) ∧ Below w.heap.size w w' := by
  have H := Lib.hid (And.intro h0 (And.intro h2 (And.intro hnil hnil2)))
  obtain ⟨r, hr⟩ : ∃ r, x1 = bs r := ⟨_, (bs_data _).symm⟩
  subst hr
  have hsz : (bs r).size = r.length := bs_size r
  rw [hsz] at hx1
  clear h0 h2 hnil hnil2
  go_enter Try.func4, Try.ntmps4
  go_wp2_with fail
  refine (lives_ok _).mono ?_
  rintro e w1 ⟨rfl, hb1⟩
  have HB1 := Lib.hid hb1
  clear hb1
  by_cases hlit : lightB l 3 3000 = true ∧ r.length ≤ 3000 ∧ cs.length ≤ 12
  · obtain ⟨hlit, hr3, hc12⟩ := hlit
    have hl3 : l.length ≤ 3 := by
      unfold lightB at hlit
      rw [Bool.and_eq_true] at hlit
      simpa using hlit.2
    have h3000 : ∀ x ∈ listsOf l, x.length ≤ 3000 := fun x hx => by
      unfold lightB at hlit
      rw [Bool.and_eq_true, List.all_eq_true] at hlit
      obtain ⟨s, hs, rfl⟩ := List.mem_map.1 hx
      have := hlit.1 s hs
      simpa using this
    have HLT := Lib.hid h3000
    clear h3000
    have hri : (r.length : Int) ≤ 3000 := by omega
    have hci : (cs.length : Int) ≤ 12 := by omega
    go_wp2_with (go_at_call 20; refine (lights_3 _ _ _ _ (H.out.1.below HB1.out (Nat.le_refl _)) l0).mono ?_; rintro e w' ⟨rfl, rfl⟩)
    clear hlit
    refine (new_30 _).mono ?_
    rintro e w3 ⟨rfl, hd3, hb3⟩
    have HB3 := Lib.hid (HB1.out.trans (hb3.mono HB1.out.size))
    have HD3 := Lib.hid hd3
    have hs2 := HB1.out.size
    clear hd3 hb3
    go_wp2_with fail
    refine (open_new _ _ _ _ _ _ HD3.out).mono ?_
    rintro e w4 ⟨rfl, ⟨vr4, v4, hl4, _, _⟩, he4⟩
    have HB4 := Lib.hid (HB3.out.trans ((HD3.out.step he4).mono hs2))
    have HL4 := Lib.hid hl4
    clear hl4 he4
    go_wp2_with fail
    go_loopw [11] (fun iv wr => ∃ (k : Nat) (v vr : Value) (P : List (Nat × List UInt8)), k ≤ l.length ∧ iv = .int .i64 (k : Int) ∧
      Hid (LogGood wr w1.heap.size w3.heap.size (w1.heap.size + 1) w1.heap.size 30 v vr (zeros (30 * 512)) P ((listsOf l).take k) 0) ∧ Hid (Below w.heap.size w wr)) (fun iv _ => l.length - (intOf iv).toNat)
    case atStart => exact ⟨0, _, _, _, Nat.zero_le _, rfl, HL4.out, HB4.out⟩
    case round =>
      obtain ⟨k, v, vr, P, hk, rfl, HL, HW⟩ := hrel
      obtain ⟨wi, rfl⟩ : ∃ wi, wi = wr := ⟨wr, rfl⟩
      by_cases hlt : k < l.length
      · obtain ⟨ad, rfl, hbl, hc⟩ := H.out.1 (by omega)
        have hk' : (k : Int) < (l.length : Int) := by omega
        have hk0 : (0 : Int) ≤ (k : Int) := by omega
        have hkL : k < (listsOf l).length := by rw [listsOf_length]; exact hlt
        obtain ⟨s, hs⟩ : ∃ s, s = (listsOf l)[k] := ⟨_, rfl⟩
        have hls : l[k] = bs s := by rw [hs]; exact (listsOf_get l k hlt).symm
        have hsl : s.length ≤ 3000 := by rw [hs]; exact HLT.out _ (List.getElem_mem _)
        have hcw : wi.cell? (ad.add k) = some (.string (bs s)) := (HW.out.cell (p := ad.add k) (by rw [add_block]; exact hbl)).trans ((hc k hlt).trans (by rw [hls]))
        have hfit : spanN ((listsOf l).take k) + needN s.length ≤ 30 := by
          have h1 := span_few ((listsOf l).take k) fun x hx => HLT.out x (List.mem_of_mem_take hx)
          have h2 : needN s.length ≤ 7 := by unfold needN; omega
          rw [List.length_take] at h1
          omega
        have HS := Lib.hid (And.intro hs hfit)
        clear hc hls hs hfit
        go_wp2_with fail
        refine (good_append _ _ _ _ _ _ _ _ _ _ _ _ HL.out s (by omega) HS.out.2).mono ?_
        rintro e w6 ⟨rfl, ⟨v6, vr6, hl6, _, _⟩, he6⟩
        have HB6 := Lib.hid (HW.out.trans ((HL.out.step he6).mono hs2))
        rw [HS.out.1, ← List.take_succ_eq_append_getElem hkL] at hl6
        obtain ⟨P6, hP6⟩ : ∃ P6, LogGood w6 w1.heap.size w3.heap.size (w1.heap.size + 1) w1.heap.size 30 v6 vr6 (zeros (30 * 512)) P6 ((listsOf l).take (k + 1)) 0 := ⟨_, hl6⟩
        have HL6 := Lib.hid hP6
        clear hl6 hP6 he6 hcw
        go_wp2_with fail
        go_roundw
        case rel => exact ⟨k + 1, _, _, _, by omega, by go_num, HL6.out, HB6.out⟩
        case measure => simp [intOf]; omega
      · have hk' : ¬ (k : Int) < (l.length : Int) := by omega
        obtain rfl : k = l.length := by omega
        have hll := HL.out
        rw [List.take_of_length_le (by rw [listsOf_length]; exact Nat.le_refl _)] at hll
        obtain ⟨L, hL⟩ : ∃ L, L = listsOf l := ⟨_, rfl⟩
        rw [← hL] at hll HLT
        have hLl : L.length = l.length := by rw [hL, listsOf_length]
        have HLE := Lib.hid (And.intro hL hLl)
        have hsp := span_few L HLT.out
        have HLL := Lib.hid hll
        obtain ⟨e0, he0⟩ : ∃ e0, e0 = spanN L := ⟨_, rfl⟩
        rw [← he0] at hsp
        have he21 : e0 ≤ 21 := by omega
        have HE0 := Lib.hid he0
        obtain ⟨m, hm⟩ : ∃ m, m = needN r.length := ⟨_, rfl⟩
        have hm7 : 1 ≤ m ∧ m ≤ 7 := by rw [hm]; unfold needN; omega
        have HM := Lib.hid hm
        clear hll hL hLl hsp he0 hm
        go_wp2_with fail
        refine (good_sync _ _ _ _ _ _ _ _ _ _ _ _ HLL.out).mono ?_
        rintro e w5 ⟨rfl, ⟨v5, hl5, _⟩, he5⟩
        have HB5 := Lib.hid (HW.out.trans ((HLL.out.step he5).mono hs2))
        obtain ⟨D5, hD5⟩ : ∃ D5, D5 = syncD (zeros (30 * 512)) P := ⟨_, rfl⟩
        rw [← hD5] at hl5
        have HL5 := Lib.hid hl5
        clear hl5 he5 hD5
        go_wp2_with fail
        have hle := lend_ok _ _ _ _ _ _ HL5.out.blk
        rw [← HE0.out] at hle
        refine hle.mono ?_
        rintro e w' ⟨rfl, rfl⟩
        go_wp2_with fail
        refine hle.mono ?_
        rintro e w' ⟨rfl, rfl⟩
        clear hle
        go_wp2_with fail
        refine (frame_ok e0 r (by omega) (by omega) _).mono ?_
        rintro e w6 ⟨fv, rfl, hfv, hb6⟩
        rw [frameS_length, ← HM.out] at hfv
        obtain ⟨gf, cf, rfl⟩ := ownsRow_pos hfv hm7.1
        have HFV := Lib.hid (row_mono hfv HL5.out.l.base)
        have HFN := Lib.hid (show ∀ b, (Value.slice (some ⟨gf, 0, none⟩) m cf).ownBlock = some b → ¬ LOwn w3.heap.size (w1.heap.size + 1) w1.heap.size v5 vr b from fun b hb hk => by
          have h1 := (HL5.out.l.lt _ hk).2
          have h2 := (hfv.lt b hb).1
          omega)
        have HB6 := Lib.hid (HB5.out.trans (hb6.mono HB5.out.size))
        have HL6 := Lib.hid (HL5.out.new hb6)
        clear hfv hb6
        go_wp2_with fail
        refine (good_append _ _ _ _ _ _ _ _ _ _ _ _ HL6.out r (by omega) (by rw [← HE0.out, ← HM.out]; omega)).mono ?_
        rintro e w7 ⟨rfl, ⟨v7, vr7, hl7, hf7, hg7⟩, he7⟩
        have HB7 := Lib.hid (HB6.out.trans ((HL6.out.step he7).mono hs2))
        have HF7 := Lib.hid (ownsRow_kept HFV.out he7 HFN.out)
        have HFN7 := Lib.hid (far_fresh HL6.out.l HFV.out HFN.out hf7 hg7)
        obtain ⟨P7, hP7⟩ : ∃ P7, P7 = [] ++ fwL (spanN L) r := ⟨_, rfl⟩
        have hP7l : P7.length = m := by rw [hP7, List.nil_append, fwL_length, ← HM.out]
        rw [← hP7] at hl7
        have HL7 := Lib.hid hl7
        clear hl7 he7 hf7 hg7 hP7
        go_wp2_with fail
        have hnd := need_ok r.length (by omega) w7
        rw [← HM.out] at hnd
        refine hnd.mono ?_
        rintro e w' ⟨rfl, rfl⟩
        clear hnd
        go_wp2_with fail
        have hpd := pending _ _ _ _ _ _ _ _ HL7.out.l.d
        rw [hP7l] at hpd
        refine hpd.mono ?_
        rintro e w' ⟨rfl, rfl⟩
        clear hpd hP7l
        go_wp2_with fail
        refine (own_ints _ cs _ _ (H.out.2.1.below HB7.out (Nat.le_refl _)) (by omega) H.out.2.2.2).mono ?_
        rintro e w8 ⟨iv, rfl, hiv, hb8⟩
        have HB8 := Lib.hid (HB7.out.trans (hb8.mono HB7.out.size))
        have HL8 := Lib.hid (HL7.out.new hb8)
        have HF8 := Lib.hid (own_below HF7.out hb8)
        have HIV := Lib.hid hiv
        clear hb8 hiv
        go_wp2_with fail
        refine (crash_ok _ _ _ _ _ _ _ _ HL8.out.l.d _ cs (ints_own HIV.out) (fun a n c e => own_far HL8.out.l.d HIV.out (by decide) (by decide) (by decide) _ (by rw [e]; rfl)) (by omega)).mono ?_
        rintro e w9 ⟨rfl, ⟨v9, hd9, _⟩, he9⟩
        have HB9 := Lib.hid (HB8.out.trans ((HL8.out.l.d.step he9).mono hs2))
        have HF9 := Lib.hid (ownsRow_kept HF8.out he9 fun b hb e => HFN7.out b hb (.inl e))
        have HTF := Lib.hid (torn_found HL8.out.g (cutN cs) (cutN_le cs))
        obtain ⟨D9, hD9⟩ : ∃ D9, D9 = crashK D5 P7 (cutN cs) P7.length := ⟨_, rfl⟩
        rw [← hD9] at hd9 HTF
        rw [← HE0.out, ← HM.out] at HTF
        have HD9 := Lib.hid hd9
        have HI9 := Lib.hid (H.out.2.1.below HB9.out (Nat.le_refl _))
        clear hd9 he9 hD9
        go_wp2_with fail
        go_loopw [14, 15] (fun bv jv wr => ∃ j : Nat, j ≤ m ∧ jv = .int .i64 (j : Int) ∧ bv = .bool (wholeB e0 r (cutN cs) j) ∧ wr = w9) (fun _ jv _ => m - (intOf jv).toNat)
        case atStart => exact ⟨0, Nat.zero_le _, rfl, rfl, rfl⟩
        case round =>
          obtain ⟨j, hj, rfl, rfl, rfl⟩ := hrel
          obtain ⟨wo, rfl⟩ : ∃ wo, wo = wr := ⟨wr, rfl⟩
          by_cases hjm : j < m
          · have hjm' : (j : Int) < (m : Int) := by omega
            have hj0 : (0 : Int) ≤ (j : Int) := by omega
            obtain ⟨F, hF⟩ : ∃ F, F = frameI e0 r j := ⟨_, rfl⟩
            have hFl : F.length = 512 := by rw [hF]; exact frameI_length _ r j
            have hfs : (bs F).size = 512 := by rw [bs_size, hFl]
            have hcf : wo.cell? ⟨gf, j, none⟩ = some (.string (bs F)) := by
              have := HF9.out.cells (g := gf) rfl j (.string (bs F)) (by rw [strs_get _ j (by rw [frameS_length, ← HM.out]; exact hjm), hF]; simp [frameS])
              rw [addr_add, Nat.zero_add] at this
              exact this
            have hws := wholeB_succ e0 r (cutN cs) j
            rw [← hF] at hws
            obtain ⟨W, hW⟩ : ∃ W, W = wholeB e0 r (cutN cs) j := ⟨_, rfl⟩
            rw [← hW] at hws
            obtain ⟨cj, hcj⟩ : ∃ cj, cj = cutN cs j := ⟨_, rfl⟩
            have hc5 : cj ≤ 512 := by rw [hcj]; exact cutN_le cs j
            have HWS := Lib.hid (show wholeB e0 r (cutN cs) (j + 1) = (W && tailZ F cj) from by rw [hws, hcj])
            have HFF := Lib.hid hFl
            rw [← hW]
            clear hF hFl hws hW
            by_cases hjc : j < cs.length
            · obtain ⟨t, c, hc, hmx, hmi⟩ := cutN_at hjc
              obtain rfl : cj = c := by rw [hc, hcj]
              have hjc' : (j : Int) < (cs.length : Int) := by omega
              obtain ⟨a', c', ea, hh⟩ := HI9.out
              cases ea
              obtain ⟨ad, rfl, hal, hcc⟩ := hh (by omega)
              have hcu := hcc j hjc
              obtain ⟨cu, hcue⟩ : ∃ cu, cu = cs[j] := ⟨_, rfl⟩
              rw [← hcue] at hcu hmx
              clear hc hcj hcc hh hcue
              go_wp2_with fail
              go_loopw [14, 17] (fun bv kv wq => ∃ kk : Nat, cj ≤ kk ∧ kk ≤ 512 ∧ kv = .int .i64 (kk : Int) ∧ bv = .bool (W && ((F.drop cj).take (kk - cj)).all (· == 0)) ∧ wq = wo) (fun _ kv _ => 512 - (intOf kv).toNat)
              case atStart => exact ⟨cj, Nat.le_refl _, hc5, by first | rfl | rw [hci0], by simp, by first | rfl | trivial⟩
              case round =>
                obtain ⟨kk, hck, hk5, rfl, rfl, rfl⟩ := hrel
                by_cases hk2 : kk < 512
                · have hts := tail_step (F := F) cj kk hck (by rw [HFF.out]; exact hk2)
                  obtain ⟨B, hB⟩ : ∃ B, B = (W && ((F.drop cj).take (kk - cj)).all (· == 0)) := ⟨_, rfl⟩
                  rw [← hB]
                  have HTS := Lib.hid (show (W && ((F.drop cj).take (kk + 1 - cj)).all (· == 0)) = (B && (F.getD kk 0 == 0)) from by rw [hts, hB, Bool.and_assoc])
                  have hkk : (kk : Int) < 512 := by omega
                  have hkk0 : (0 : Int) ≤ (kk : Int) := by omega
                  clear hts hB
                  cases B with
                  | false =>
                    go_wp2_with fail
                    go_roundw
                    case rel => exact ⟨kk + 1, by omega, by omega, by go_num, by rw [HTS.out, Bool.false_and], by first | rfl | trivial⟩
                    case measure => simp [intOf]; omega
                  | true =>
                    go_wp2_with fail
                    go_roundw
                    case rel => exact ⟨kk + 1, by omega, by omega, by go_num, by rw [HTS.out, Bool.true_and, byte_zero], by first | rfl | trivial⟩
                    case measure => simp [intOf]; omega
                · obtain rfl : kk = 512 := by omega
                  have hta := tail_all HFF.out cj
                  rw [hta]
                  rw [← HWS.out]
                  clear hta
                  go_wp2_with fail
                  go_roundw
                  case rel => exact ⟨j + 1, by omega, by go_num, rfl, by first | rfl | trivial⟩
                  case measure => simp [intOf]; omega

            · have hjc' : ¬ (j : Int) < (cs.length : Int) := by omega
              have hcj0 : cj = 0 := by rw [hcj, cutN_none hjc]
              have hci0 : (cj : Int) = 0 := by omega
              clear hcj
              go_wp2_with fail
              go_loopw [14, 17] (fun bv kv wq => ∃ kk : Nat, cj ≤ kk ∧ kk ≤ 512 ∧ kv = .int .i64 (kk : Int) ∧ bv = .bool (W && ((F.drop cj).take (kk - cj)).all (· == 0)) ∧ wq = wo) (fun _ kv _ => 512 - (intOf kv).toNat)
              case atStart => exact ⟨cj, Nat.le_refl _, hc5, by first | rfl | rw [hci0], by simp, by first | rfl | trivial⟩
              case round =>
                obtain ⟨kk, hck, hk5, rfl, rfl, rfl⟩ := hrel
                by_cases hk2 : kk < 512
                · have hts := tail_step (F := F) cj kk hck (by rw [HFF.out]; exact hk2)
                  obtain ⟨B, hB⟩ : ∃ B, B = (W && ((F.drop cj).take (kk - cj)).all (· == 0)) := ⟨_, rfl⟩
                  rw [← hB]
                  have HTS := Lib.hid (show (W && ((F.drop cj).take (kk + 1 - cj)).all (· == 0)) = (B && (F.getD kk 0 == 0)) from by rw [hts, hB, Bool.and_assoc])
                  have hkk : (kk : Int) < 512 := by omega
                  have hkk0 : (0 : Int) ≤ (kk : Int) := by omega
                  clear hts hB
                  cases B with
                  | false =>
                    go_wp2_with fail
                    go_roundw
                    case rel => exact ⟨kk + 1, by omega, by omega, by go_num, by rw [HTS.out, Bool.false_and], by first | rfl | trivial⟩
                    case measure => simp [intOf]; omega
                  | true =>
                    go_wp2_with fail
                    go_roundw
                    case rel => exact ⟨kk + 1, by omega, by omega, by go_num, by rw [HTS.out, Bool.true_and, byte_zero], by first | rfl | trivial⟩
                    case measure => simp [intOf]; omega
                · obtain rfl : kk = 512 := by omega
                  have hta := tail_all HFF.out cj
                  rw [hta]
                  rw [← HWS.out]
                  clear hta
                  go_wp2_with fail
                  go_roundw
                  case rel => exact ⟨j + 1, by omega, by go_num, rfl, by first | rfl | trivial⟩
                  case measure => simp [intOf]; omega

          · have hjm' : ¬ (j : Int) < (m : Int) := by omega
            obtain rfl : j = m := by omega
            obtain ⟨B, hB⟩ : ∃ B, B = wholeB e0 r (cutN cs) j := ⟨_, rfl⟩
            rw [← hB] at HTF ⊢
            have HIl := Lib.hid (show D9.length = 30 * 512 from HD9.out.len)
            have hRf : L.length + 1 ≤ 1000000 := by rw [HLE.out.2]; omega
            have hspL : (spanN (L ++ [r]) : Int) = (e0 : Int) + (j : Int) := by rw [spanN_append, HE0.out, HM.out]; simp [spanN]
            have HSP := Lib.hid (And.intro hspL hRf)
            clear hB hspL hRf
            go_wp2_with fail
            refine (image_ok _ _ _ _ _ _ _ _ HD9.out).mono ?_
            rintro e w10 ⟨iv2, rfl, hov, hb10⟩
            rw [sync_none] at hov
            have HSC := Lib.hid (scan_own _ iv2 D9 w10 hov (by rw [HIl.out]; omega) (by rw [HIl.out]; omega))
            have HB10 := Lib.hid (HB9.out.trans (hb10.mono HB9.out.size))
            obtain ⟨gi, ci, rfl⟩ := ownsRow_pos hov (by rw [HIl.out]; omega)
            clear hov hb10
            go_wp2_with fail
            refine HSC.out.mono ?_
            rintro e w11 ⟨rv, rfl, hrow, hb11⟩
            have HB11 := Lib.hid (HB10.out.trans (hb11.mono HB10.out.size))
            rw [HTF.out.1] at hrow
            rw [HTF.out.2]
            have HT11 := Lib.hid (Texts.own hrow)
            obtain ⟨xa, xc, rfl⟩ := len_of_own hrow
            have HXB := Lib.hid (show ∀ k, (Value.slice xa _ xc).ownBlock = some k → k < w11.heap.size from fun k hk => (hrow.lt k hk).2)
            have HTL := Lib.hid (show Texts w11 (.slice a0 l.length c0) L from by rw [HLE.out.1]; exact Texts.strs c0 (H.out.1.below HB11.out (Nat.le_refl _)))
            clear hrow hb11
            cases B with
            | true =>
              simp only [if_true] at HT11 HXB ⊢
              rw [HSP.out.1]
              obtain ⟨R9, hR9⟩ : ∃ R9, R9 = L ++ [r] := ⟨_, rfl⟩
              rw [← hR9] at HT11 HXB ⊢
              have HR9 := Lib.hid (And.intro hR9 (show R9.length ≤ 1000000 from by rw [hR9, List.length_append, List.length_singleton]; exact HSP.out.2))
              clear hR9
              go_wp2_with fail
              have hO := own_strs a0 L c0 w11 (by rw [HLE.out.2]; exact HTL.out) (by have := HSP.out.2; omega) H.out.2.2.1
              rw [HLE.out.2] at hO
              refine hO.mono ?_
              rintro e w12 ⟨uv, rfl, huv, hb12⟩
              have HB12 := Lib.hid (HB11.out.trans (hb12.mono HB11.out.size))
              have HSZ := Lib.hid hb12.size
              have HT12 := Lib.hid (HT11.out.new hb12)
              rw [HLE.out.2] at huv
              have HUV := Lib.hid huv
              have hlt12 : ∀ b, uv.ownBlock = some b → w11.heap.size ≤ b := fun b hb => (huv.lt b hb).1
              have HLB := Lib.hid hlt12
              clear huv hb12 hO hlt12
              obtain ⟨i9, hi0, hz0, hz1, hz2⟩ := info_parts info9
              have HI := Lib.hid (And.intro hi0 (And.intro hz0 (And.intro hz1 hz2)))
              clear hi0 hz0 hz1 hz2
              have HN1 := Lib.hid (show ∀ j u, ([.string (bs r)] : List Value)[j]? = some u → (w12.alloc (.cells [Value.string (bs r)].toArray 9)).cell? ((⟨w12.heap.size, 0, none⟩ : Addr).add j) = some u from cell_one_new _ _ _)
              have hRs : l.length + 1 ≤ 1000000 := by rw [← HLE.out.2]; exact HSP.out.2
              have hsiz := HB12.out.size
              go_wp2_with (at_builtin; refine wpList_append_own _ rfl _ _ 34 rfl w11.heap.size 9 i9 (.string ⟨#[]⟩) 1 16 Try.underlying34 HI.out.1 HI.out.2.1 HI.out.2.2.1 HI.out.2.2.2 rfl (by decide) uv l.length (strs L) rfl (HUV.out.alloc _) ⟨w12.heap.size, 0, none⟩ 1 1 [.string (bs r)] rfl rfl HN1.out (by intro u hu; rw [List.mem_singleton.1 hu]; rfl) (by unfold maxLen; omega) (by omega) (by simp; exact Nat.le_succ_of_le HSZ.out) ?_; intro v' wx hown hgrow _; have hE : Elses (fun q => uv.ownBlock = some q) w12 wx := (((Elses.refl _ w12).alloc _).grown hgrow (fun q hq => .inl hq)); have HTX := Lib.hid (HT12.out.kept hE (fun k hk e => (Nat.not_lt.2 (HLB.out k e) (HXB.out k hk)))); have HTY := Lib.hid (show Texts wx v' R9 from (Texts.own (B := w11.heap.size) (by rw [HR9.out.1, strs_append, List.length_append, List.length_singleton, HLE.out.2]; exact hown))); have HBX := Lib.hid (show Below w.heap.size w wx from (HB12.out.trans ((hE.below (n := w11.heap.size) HSZ.out (fun i hi => HLB.out i hi)).mono HB11.out.size))); clear hown hgrow hE)
              refine (same_ok _ _ R9 R9 _ HTX.out HTY.out HR9.out.2 HR9.out.2).mono ?_
              rintro e w13 ⟨rfl, hb13⟩
              have HB13 := Lib.hid (HBX.out.trans (hb13.mono HBX.out.size))
              rw [decide_eq_true (rfl : R9 = R9)]
              clear hb13
              go_wp2_with fail
              go_ret
              exact ⟨rfl, HB13.out⟩
            | false =>
              simp only [Bool.false_eq_true, if_false] at HT11 ⊢
              rw [← HE0.out]
              go_wp2_with fail
              refine (same_ok _ _ L L _ HT11.out HTL.out (by have := HSP.out.2; omega) (by have := HSP.out.2; omega)).mono ?_
              rintro e w12 ⟨rfl, hb12⟩
              have HB12 := Lib.hid (HB11.out.trans (hb12.mono HB11.out.size))
              rw [decide_eq_true (rfl : L = L)]
              clear hb12
              go_wp2_with fail
              go_ret
              exact ⟨rfl, HB12.out⟩
  · by_cases h1 : lightB l 3 3000 = true
    · have hlit2 : ¬ (r.length ≤ 3000 ∧ cs.length ≤ 12) := fun h => hlit ⟨h1, h⟩
      by_cases h2 : (3000 : Int) < (r.length : Int)
      · go_wp2_with (go_at_call 20; refine (lights_3 _ _ _ _ (H.out.1.below HB1.out (Nat.le_refl _)) l0).mono ?_; rintro e w' ⟨rfl, rfl⟩)
        go_ret
        exact ⟨rfl, HB1.out⟩
      · have h3 : (12 : Int) < (cs.length : Int) := by omega
        go_wp2_with (go_at_call 20; refine (lights_3 _ _ _ _ (H.out.1.below HB1.out (Nat.le_refl _)) l0).mono ?_; rintro e w' ⟨rfl, rfl⟩)
        go_ret
        exact ⟨rfl, HB1.out⟩
    · go_wp2_with (go_at_call 20; refine (lights_3 _ _ _ _ (H.out.1.below HB1.out (Nat.le_refl _)) l0).mono ?_; rintro e w' ⟨rfl, rfl⟩)
      go_ret
      exact ⟨rfl, HB1.out⟩
theorem walTorn_row (a0 : Option Addr) (l : List ByteArray) (c0 : Nat) (x1 : ByteArray) (a2 : Option Addr) (cs : List Int) (c2 : Nat) (w : World) (h0 : StrsAt w a0 l) (hnil : a0 = none → c0 = 0) (l0 : l.length ≤ 140737488351232) (hx1 : x1.size ≤ 140737488351232)
    (h2 : IntsAt w (.slice a2 cs.length c2) cs) (hnil2 : a2 = none → c2 = 0) (l2 : cs.length ≤ 140737488351232) :
    Calls Try.prog 4 #[.slice a0 l.length c0, .string x1, .slice a2 cs.length c2] w fun e w' => e = .returned (.bool true) ∧ Below w.heap.size w w' := walTorn_walk a0 l c0 x1 a2 cs c2 w h0 hnil l0 hx1 h2 hnil2 l2
end Go.Proofs.YtbbnjnpbaekfgaaM
