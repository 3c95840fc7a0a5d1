/- The law DiskScript, walked: it says yes. -/
import Derived.Test.YthienjmkagediaaRU
set_option linter.unusedVariables false
set_option linter.unusedSimpArgs false
namespace Go.Proofs.YthienjmkagediaaM
open Go.RowKit
theorem ints_far {w : World} {ca : Option Addr} {m cc : Nat} {l : List Int} (h : IntsAt w (.slice ca m cc) l) (hl : 0 < l.length) {a : Addr} {n c : Nat} (e : Value.slice ca m cc = .slice (some a) n c) : a.block < w.heap.size := by
  obtain ⟨a', c', e', hh⟩ := h
  cases e'
  cases e
  obtain ⟨ad, e2, hb, _⟩ := hh hl
  cases e2
  exact hb
theorem conv_nil (w : World) : (ConvVia (.slice none 0 0)).run Try.prog w = .ok (.value (.string ⟨#[]⟩)) w := conv_own (B := 0) (l := []) (World.ownsRow_nil _ _ _ _)
theorem conv_blk {w : World} {b : Nat} {Y : List UInt8} (hY : Y.length = 512) (h : Blk w b (byteCells Y) 69) : (ConvVia (.slice (some ⟨b, 0, none⟩) 512 512)).run Try.prog w = .ok (.value (.string (bs Y))) w := by
  have hx := conv_cells (c := 512) (h.addcells 0 (byteCells Y) (by rw [List.drop_zero, List.take_length]))
  rw [hY] at hx
  exact hx
attribute [local go_sem ↓] exec_conv exec_same exec_bytes Go.wp_at_zero Go.wp_at_succ
attribute [local go_sem] via_same via_same_drew via_bytes
set_option maxRecDepth 100000 in
set_option maxHeartbeats 32000000 in
theorem diskScript (k0 : Int) (I : List UInt8) (a0 : Option Addr) (c0 : Nat) (l : List ActD) (w : World) (h0 : ActsAt w a0 l) (l0 : l.length ≤ 140737488351232) :
    Calls Try.prog 7 #[.int .i64 k0, .string (bs I), .slice a0 l.length c0] w fun e w' => e = .returned (.bool true) ∧ Below w.heap.size w w' := by
  have H := Lib.hid h0
  have hIs := bs_size I
  clear h0
  go_enter Try.func7, Try.ntmps7
  go_wp2_with fail
  refine (lives_yes _).mono ?_
  rintro e w1 ⟨rfl, hb1⟩
  have HB1 := Lib.hid hb1
  have HS1 := Lib.hid hb1.size
  clear hb1
  by_cases hlit : lightA l = true ∧ I.length ≤ 4200
  · obtain ⟨hlit, hI⟩ := hlit
    have h40 : l.length ≤ 40 := by
      unfold lightA at hlit
      rw [Bool.and_eq_true] at hlit
      simpa using hlit.2
    have h600 : ∀ j (h : j < l.length), l[j].b.size ≤ 600 ∧ l[j].cuts.length ≤ 40 := fun j hj => by
      unfold lightA at hlit
      rw [Bool.and_eq_true, List.all_eq_true] at hlit
      have := hlit.1 _ (List.getElem_mem hj)
      rw [Bool.and_eq_true] at this
      simpa using this
    have HL := Lib.hid (And.intro h40 h600)
    clear h600
    have hI' : (I.length : Int) ≤ 4200 := by omega
    go_wp2_with (go_at_call 20; refine (light_acts _ _ _ _ (H.out.below HB1.out (Nat.le_refl _)) l0).mono ?_; rintro e w' ⟨rfl, rfl⟩)
    clear hlit
    refine (new_any k0 _).mono ?_
    rintro e w2 ⟨x, y, rfl, hn⟩
    have HN := Lib.hid hn
    clear hn
    go_wp2_with fail
    refine (refnew_any k0 _).mono ?_
    rintro e w3 ⟨x', y', rfl, hn'⟩
    have HT := Lib.hid (two_of HB1.out HN.out hn')
    clear hn' HN
    go_upto_region 7 with fail
    go_cut [46] (fun s wx => s = .bool false ∧ wx = w3)
    case first => as_aux_lemma =>
      rcases HT.out.1 with ⟨rfl, rfl, rfl, rfl⟩ | ⟨n, rfl, rfl, rfl, p, g, B, v, p', B', v', D, rfl, rfl, _⟩
      all_goals
        go_wp2_with fail
        go_meet
        case rel => exact ⟨rfl, rfl⟩
    case rest =>
      obtain ⟨rfl, rfl⟩ := hcut
      obtain ⟨w3, rfl⟩ : ∃ w3, w3 = wc := ⟨wc, rfl⟩
      go_upto_region 9 with fail
      go_cut [52] (fun s wx => ∃ b : Bool, s = .bool b ∧ Hid (b = false → ∃ n : Nat, n ≤ 8 ∧ Both w w3 x x' n) ∧ wx = w3)
      case first => as_aux_lemma =>
        rcases HT.out.1 with ⟨rfl, rfl, rfl, rfl⟩ | ⟨n, rfl, rfl, rfl, hbo⟩
        · go_wp2_with fail
          go_meet
          case rel => exact ⟨true, rfl, (show Hid _ from fun h => Bool.noConfusion h), rfl⟩
        · have HBO := Lib.hid hbo
          obtain ⟨p, g, B, v, p', B', v', D, rfl, rfl, _⟩ := hbo
          go_wp2_with fail
          go_meet
          case rel => exact ⟨_, rfl, (show Hid _ from fun h => ⟨n, by have := of_decide_eq_false h; omega, HBO.out⟩), rfl⟩
      case rest =>
        obtain ⟨b, rfl, HBB, rfl⟩ := hcut
        obtain ⟨w3, rfl⟩ : ∃ w3, w3 = wc := ⟨wc, rfl⟩
        go_upto_if 52 with fail
        go_cut [7, 9] (fun s7 s9 wx => Hid (∃ n : Nat, n ≤ 8 ∧ Both w wx s7 s9 n))
        case first => as_aux_lemma =>
          cases b with
          | false =>
            go_wp2_with fail
            go_meet
            case rel => first | exact HBB.out rfl | exact HBB.out trivial
          | true =>
            clear HBB
            go_wp2_with (refine wpList_bytes rfl _ rfl I (by omega) rfl ?_; intro cap w4 hcap hcm hcells hf4 hb4 hs4; have HC4 := Lib.hid (And.intro hcap (And.intro hcm (And.intro hcells hb4))); have HS4 := Lib.hid hs4; clear hcap hcm hcells hb4 hf4 hs4)
            have HB4 := Lib.hid (HT.out.2.trans (HC4.out.2.2.2.mono HT.out.2.size))
            by_cases hok : I.length % 512 = 0 ∧ I.length ≠ 0
            · obtain ⟨n, hn⟩ : ∃ n, I.length = n * 512 := ⟨I.length / 512, by omega⟩
              have hn1 : 0 < n := by omega
              have hn8 : n ≤ 8 := by omega
              have hof := of_ok I n hn hn1 (by omega) w4 w3.heap.size cap (by rw [← hn]; exact HC4.out.1) HC4.out.2.1 HC4.out.2.2.1
              rw [← hn] at hof
              have HN := Lib.hid hn
              clear hn hok
              refine hof.mono ?_
              clear hof
              rintro e w5 ⟨rfl, hd5, hb5⟩
              have HD5 := Lib.hid (And.intro hd5 hb5)
              clear hd5 hb5
              go_wp2_with fail
              refine (refof_ok I n HN.out hn1 (by omega) _).mono ?_
              rintro e w6 ⟨rfl, ⟨v', hr6⟩, hb6⟩
              have HBF := Lib.hid (show ∃ n : Nat, n ≤ 8 ∧ Both w w6 (.pointer (some ⟨w4.heap.size + 1, 0, none⟩)) (.pointer (some ⟨w5.heap.size, 0, none⟩)) n from
                ⟨n, hn8, _, _, _, _, _, _, v', _, rfl, rfl, by omega, HD5.out.1.new hb6, hr6, HB4.out.size, Nat.le_trans HB4.out.size HD5.out.2.size, (HB4.out.trans (HD5.out.2.mono HB4.out.size)).trans (hb6.mono (Nat.le_trans HB4.out.size HD5.out.2.size))⟩)
              clear hr6 hb6
              go_wp2_with fail
              go_meet
              case rel => exact HBF.out
            · refine (of_bad _ _ _ hI (by omega) _).mono ?_
              rintro e w' ⟨rfl, rfl⟩
              have HOK := Lib.hid hok
              clear hok
              go_wp2_with fail
              refine (refof_bad (bs I) (by rw [hIs]; have := HOK.out; omega) (by rw [hIs]; omega) _).mono ?_
              rintro e w' ⟨rfl, rfl⟩
              go_wp2_with fail
              go_ret
              exact ⟨rfl, HB4.out⟩
        case rest =>
          obtain ⟨n, hn8, p, g, B, v0, p', B', v', D0, rfl, rfl, hn1024, hd0, hr0, hB, hB', hb0⟩ := hcut
          obtain ⟨w4, rfl⟩ : ∃ w4, w4 = wc := ⟨wc, rfl⟩
          have H0 := Lib.hid (And.intro hd0 (And.intro hr0 hb0))
          have HBB := Lib.hid (And.intro hB hB')
          clear hd0 hr0 hb0 hB hB' hn1024 HT
          go_wp2_with fail
          go_loopw [11] (fun iv wr => ∃ (k : Nat) (v u : Value) (D : List UInt8) (P : List (Nat × List UInt8)), k ≤ l.length ∧ iv = .int .i64 (k : Int) ∧ Hid (P.length ≤ k) ∧ Hid (DiskAt wr B p g n v D P) ∧ Hid (RefAt wr B' p' n v' u D P) ∧ Hid (Below w.heap.size w wr)) (fun iv _ => l.length - (intOf iv).toNat)
          case atStart => exact ⟨0, v0, .slice none 0 0, D0, [], Nat.zero_le _, rfl, Nat.le_refl _, H0.out.1, H0.out.2.1, H0.out.2.2⟩
          case round =>
            obtain ⟨k, v, u, D, P, hk, rfl, HPk, HD, HR, HW⟩ := hrel
            obtain ⟨wi, rfl⟩ : ∃ wi, wi = wr := ⟨wr, rfl⟩
            by_cases hlt : k < l.length
            · obtain ⟨bl, of, rfl, hbl, hc⟩ := H.out (by omega)
              obtain ⟨hca, hcb, hcc, ca, cc, hcd, hce, hcn⟩ := hc k hlt
              obtain ⟨x, hx⟩ : ∃ x, x = l[k] := ⟨_, rfl⟩
              rw [← hx] at hca hcb hcc hcd hce
              obtain ⟨s, hs2⟩ : ∃ s, x.b = bs s := ⟨_, (bs_data _).symm⟩
              rw [hs2] at hcc
              have h600 := HL.out.2 k hlt
              rw [← hx, hs2, bs_size] at h600
              have hcell : ∀ (w' : World) (o : Nat), Below w.heap.size w w' → w'.cell? ⟨bl, o, none⟩ = w.cell? ⟨bl, o, none⟩ := fun w' o hb => hb.cell (p := ⟨bl, o, none⟩) hbl
              have HX := Lib.hid (show (∀ w' : World, Below w.heap.size w w' → w'.cell? ⟨bl, of + k * 4, none⟩ = some (.int .i64 x.kind)) ∧ (∀ w' : World, Below w.heap.size w w' → w'.cell? ⟨bl, of + k * 4 + 1, none⟩ = some (.int .i64 x.at_)) ∧
                (∀ w' : World, Below w.heap.size w w' → w'.cell? ⟨bl, of + k * 4 + 2, none⟩ = some (.string (bs s))) ∧ (∀ w' : World, Below w.heap.size w w' → w'.cell? ⟨bl, of + k * 4 + 3, none⟩ = some (.slice ca x.cuts.length cc)) from
                ⟨fun w' hb => (hcell w' _ hb).trans hca, fun w' hb => (hcell w' _ hb).trans hcb, fun w' hb => (hcell w' _ hb).trans hcc, fun w' hb => (hcell w' _ hb).trans hcd⟩)
              have HXC := Lib.hid (And.intro hce (And.intro hcn h600))
              have hck := HX.out.1 wi HW.out
              have hk' : (k : Int) < (l.length : Int) := by omega
              have hk0 : (0 : Int) ≤ (k : Int) := by omega
              have hfew : P.length < 100000 := by have := HPk.out; omega
              clear hc hca hcb hcc hcd hce hcn hx hs2 h600 hcell
              go_wp2_with fail
              refine (pick_4 _ _).mono ?_
              rintro e wa ⟨rfl, hba⟩
              have hq4 : pickN x.kind 4 < 4 := pickN_lt x.kind (by decide)
              obtain ⟨q, hq⟩ : ∃ q, q = pickN x.kind 4 := ⟨_, rfl⟩
              rw [← hq] at hq4 ⊢
              have HDa := Lib.hid (And.intro (HD.out.new hba) (And.intro (HR.out.new hba) (HW.out.trans (hba.mono HW.out.size))))
              have HQ := Lib.hid hq
              clear hba hq hck
              go_upto_block 2 with fail
              go_cut [12] (fun s12 wx => s12 = .bool true ∧ Hid (∃ (v u : Value) (D : List UInt8) (P : List (Nat × List UInt8)), P.length ≤ k + 1 ∧ DiskAt wx B p g n v D P ∧ RefAt wx B' p' n v' u D P ∧ Below w.heap.size w wx))
              case first =>
                have hcS1 : ∀ w' : World, Below w.heap.size w w' → w'.cell? ⟨bl, of + k * 4 + 1, none⟩ = some (.int .i64 x.at_) := HX.out.2.1
                have hcS2 : ∀ w' : World, Below w.heap.size w w' → w'.cell? ⟨bl, of + k * 4 + 2, none⟩ = some (.string (bs s)) := HX.out.2.2.1
                obtain ⟨at_, hat⟩ : ∃ at_, at_ = x.at_ := ⟨_, rfl⟩
                rw [← hat] at hcS1
                have HC1 := Lib.hid hcS1
                have HC2 := Lib.hid hcS2
                clear hat hcS1 hcS2
                match q, hq4 with
                | 0, _ => as_aux_lemma =>
                  have hS0 : Below w.heap.size w wa := HDa.out.2.2
                  have HDw := Lib.hid (And.intro (HDa.out.1.drew.new (bw_below wa.drew s)) (And.intro (HDa.out.2.1.drew.new (bw_below wa.drew s)) (bw_keep HDa.out.2.2.drew (Nat.le_refl _) s)))
                  by_cases hin : 0 ≤ at_ ∧ at_ < (n : Int)
                  · obtain ⟨j, rfl⟩ : ∃ j : Nat, at_ = (j : Int) := ⟨at_.toNat, by omega⟩
                    have hjn : j < n := by omega
                    clear hin
                    by_cases hs5 : s.length ≤ 512
                    · go_wp2_with fail
                      have hcS1 := HC1.out
                      have hcS2 := HC2.out
                      go_region_held (fun w' => Below w.heap.size w w') (first | assumption | exact hS0.drew | exact bw_keep (by assumption) (Nat.le_refl _) _) (first
                        | (go_at_call 11; refine (write_ok _ _ _ _ _ _ _ _ HDw.out.1 j hjn _ s (bw_bytes wa.drew s _) hs5 hfew).mono ?_; rintro e wb ⟨rfl, ⟨vb, hdb, _⟩, heb⟩; have hSb : Below w.heap.size w wb := HDw.out.2.2.trans ((HDw.out.1.step heb).mono HBB.out.1); have HDb := Lib.hid (And.intro hdb (HDw.out.2.1.kept heb (far_ref HDw.out.1 HDw.out.2.1))); clear hdb heb)
                        | (go_at_call 27; refine (refwrite_ok _ _ _ _ _ _ _ _ HDb.out.2 j hjn s hs5 hfew).mono ?_; rintro e wc ⟨rfl, ⟨uc, hrc, _⟩, hec⟩; have hSc : Below w.heap.size w wc := hSb.trans ((HDb.out.2.step hec).mono HBB.out.2); have HDc := Lib.hid (And.intro (HDb.out.1.kept hec fun q hq hr => far_ref HDb.out.1 HDb.out.2 q hr hq) hrc); clear hrc hec))
                      all_goals
                        clear hcS1 hcS2
                        go_wp2_with fail
                        go_meet
                        case rel => exact ⟨rfl, vb, uc, D, _, by rw [List.length_append]; have := HPk.out; simp; omega, HDc.out.1, HDc.out.2, hSc⟩
                    · have hsz : 512 < (bs s).size := by rw [bs_size]; omega
                      have hs6 : 512 < s.length := by omega
                      have HSZ := Lib.hid hsz
                      clear hsz
                      go_wp2_with fail
                      have hcS1 := HC1.out
                      have hcS2 := HC2.out
                      go_region_held (fun w' => Below w.heap.size w w') (first | assumption | exact hS0.drew | exact bw_keep (by assumption) (Nat.le_refl _) _) (first
                        | (go_at_call 11; refine (write_long _ _ _ _ _ HDw.out.1.blk HDw.out.1.pos j hjn _ s.length _ hs6).mono ?_; rintro e w' ⟨rfl, rfl⟩)
                        | (go_at_call 27; refine (refwrite_long _ _ _ _ _ _ _ _ HDw.out.2.1 j hjn (bs s) HSZ.out).mono ?_; rintro e w' ⟨rfl, rfl⟩))
                      all_goals
                        clear hcS1 hcS2
                        go_wp2_with fail
                        go_meet
                        case rel => exact ⟨rfl, v, u, D, P, by have := HPk.out; omega, HDw.out.1, HDw.out.2.1, HDw.out.2.2⟩
                  · have HIN := Lib.hid (show at_ < 0 ∨ (n : Int) ≤ at_ by omega)
                    clear hin
                    go_wp2_with fail
                    have hcS1 := HC1.out
                    have hcS2 := HC2.out
                    go_region_held (fun w' => Below w.heap.size w w') (first | assumption | exact hS0.drew | exact bw_keep (by assumption) (Nat.le_refl _) _) (first
                      | (go_at_call 11; refine (write_out _ _ _ _ _ HDw.out.1.blk HDw.out.1.pos at_ HIN.out _).mono ?_; rintro e w' ⟨rfl, rfl⟩)
                      | (go_at_call 27; refine (refwrite_out _ _ _ _ _ _ _ _ HDw.out.2.1 at_ HIN.out (bs s)).mono ?_; rintro e w' ⟨rfl, rfl⟩))
                    all_goals
                      clear hcS1 hcS2
                      go_wp2_with fail
                      go_meet
                      case rel => exact ⟨rfl, v, u, D, P, by have := HPk.out; omega, HDw.out.1, HDw.out.2.1, HDw.out.2.2⟩
                | 1, _ => as_aux_lemma =>
                  have hca := HC1.out wa HDa.out.2.2
                  by_cases hin : 0 ≤ at_ ∧ at_ < (n : Int)
                  · obtain ⟨j, rfl⟩ : ∃ j : Nat, at_ = (j : Int) := ⟨at_.toNat, by omega⟩
                    have hjn : j < n := by omega
                    clear hin
                    go_wp2_with fail
                    refine (read_ok _ _ _ _ _ _ _ _ HDa.out.1 j hjn).mono ?_
                    rintro e wb ⟨rfl, hxb, hbb⟩
                    obtain ⟨R, hRR⟩ : ∃ R, R = readP D P j := ⟨_, rfl⟩
                    have HRl := Lib.hid (show R.length = 512 by rw [hRR]; exact readP_length HD.out.len hjn P HD.out.ok)
                    rw [← hRR] at hxb
                    have HDb := Lib.hid (And.intro (HDa.out.1.new hbb) (And.intro (HDa.out.2.1.new hbb) (And.intro (HDa.out.2.2.trans (hbb.mono HDa.out.2.2.size)) hxb)))
                    have HRR := Lib.hid hRR
                    clear hxb hbb hRR hca
                    have hca := HC1.out wb HDb.out.2.2.1
                    go_wp2_with fail
                    refine (refread_ok _ _ _ _ _ _ _ _ HDb.out.2.1 j hjn).mono ?_
                    rintro e w' ⟨rfl, rfl⟩
                    rw [← HRR.out]
                    have hcv := conv_blk HRl.out HDb.out.2.2.2
                    clear hca
                    go_wp2_with fail
                    go_meet
                    case rel => exact ⟨rfl, v, u, D, P, by have := HPk.out; omega, HDb.out.1, HDb.out.2.1, HDb.out.2.2.1⟩
                  · go_wp2_with fail
                    refine (read_out _ _ _ _ _ HDa.out.1.blk HDa.out.1.pos at_ (by omega)).mono ?_
                    rintro e w' ⟨rfl, rfl⟩
                    go_wp2_with fail
                    refine (refread_out _ _ _ _ _ _ _ _ HDa.out.2.1 at_ (by omega)).mono ?_
                    rintro e w' ⟨rfl, rfl⟩
                    have hcv := conv_nil wa
                    clear hca
                    go_wp2_with fail
                    go_meet
                    case rel => exact ⟨rfl, v, u, D, P, by have := HPk.out; omega, HDa.out.1, HDa.out.2.1, HDa.out.2.2⟩
                | 2, _ => as_aux_lemma =>
                  go_wp2_with fail
                  refine (sync_ok _ _ _ _ _ _ _ _ HDa.out.1).mono ?_
                  rintro e wb ⟨rfl, ⟨vb, hdb, _⟩, heb⟩
                  have HDb := Lib.hid (And.intro hdb (And.intro (HDa.out.2.1.kept heb (far_ref HDa.out.1 HDa.out.2.1)) (HDa.out.2.2.trans ((HDa.out.1.step heb).mono HBB.out.1))))
                  clear hdb heb
                  go_wp2_with fail
                  refine (refsync_ok _ _ _ _ _ _ _ _ HDb.out.2.1).mono ?_
                  rintro e wc ⟨rfl, hrc, hec⟩
                  have HDc := Lib.hid (And.intro (HDb.out.1.kept hec fun q hq hr => far_ref HDb.out.1 HDb.out.2.1 q hr hq) (And.intro hrc (HDb.out.2.2.trans ((HDb.out.2.1.step hec).mono HBB.out.2))))
                  clear hrc hec
                  go_wp2_with fail
                  go_meet
                  case rel => exact ⟨rfl, vb, .slice none 0 0, syncD D P, [], Nat.zero_le _, HDc.out.1, HDc.out.2.1, HDc.out.2.2⟩
                | 3, _ => as_aux_lemma =>
                  have hca := HX.out.2.2.2 wa HDa.out.2.2
                  go_wp2_with fail
                  refine (own_ints ca x.cuts cc _ (HXC.out.1.below HDa.out.2.2 (Nat.le_refl _)) (by have := HXC.out.2.2.2; omega) HXC.out.2.1).mono ?_
                  rintro e wb ⟨vd, rfl, hod, hbd⟩
                  have HDb := Lib.hid (And.intro (HDa.out.1.new hbd) (And.intro (HDa.out.2.1.new hbd) (And.intro (HDa.out.2.2.trans (hbd.mono HDa.out.2.2.size)) hod)))
                  clear hod hbd hca
                  go_wp2_with fail
                  refine (crash_ok _ _ _ _ _ _ _ _ HDb.out.1 vd x.cuts (ints_own HDb.out.2.2.2) (fun a n c e => own_far HDb.out.1 HDb.out.2.2.2 (by decide) (by decide) (by decide) a.block (by rw [e]; rfl)) (by have := HXC.out.2.2.2; omega)).mono ?_
                  rintro e wc ⟨rfl, ⟨vc, hdc, _⟩, hec⟩
                  have HDc := Lib.hid (And.intro hdc (And.intro (HDb.out.2.1.kept hec (far_ref HDb.out.1 HDb.out.2.1)) (HDb.out.2.2.1.trans ((HDb.out.1.step hec).mono HBB.out.1))))
                  clear hdc hec
                  have hcc := HX.out.2.2.2 wc HDc.out.2.2
                  go_wp2_with fail
                  refine (refcrash_ok _ _ _ _ _ _ _ _ HDc.out.2.1 _ x.cuts (HXC.out.1.below HDc.out.2.2 (Nat.le_refl _)) (fun a n c e hl hr => by
                    have h1 := ints_far HXC.out.1 hl e
                    have h2 := (HDc.out.2.1.lt _ hr).1
                    have h3 := HBB.out.2
                    omega) (by have := HXC.out.2.2.2; omega)).mono ?_
                  rintro e wd ⟨rfl, hrd, hed⟩
                  have HDd := Lib.hid (And.intro (HDc.out.1.kept hed fun q hq hr => far_ref HDc.out.1 HDc.out.2.1 q hr hq) (And.intro hrd (HDc.out.2.2.trans ((HDc.out.2.1.step hed).mono HBB.out.2))))
                  clear hrd hed hcc
                  go_wp2_with fail
                  go_meet
                  case rel => exact ⟨rfl, vc, .slice none 0 0, _, [], Nat.zero_le _, HDd.out.1, HDd.out.2.1, HDd.out.2.2⟩
              case rest => as_aux_lemma =>
                obtain ⟨rfl, HZ⟩ := hcut
                obtain ⟨wz, rfl⟩ : ∃ wz, wz = wc := ⟨wc, rfl⟩
                obtain ⟨v2, u2, D2, P2, hP2, hd2, hr2, hb2⟩ := HZ.out
                obtain ⟨ua, uc, rfl⟩ := len_of_own hr2.pend
                obtain ⟨gv, cv, rfl, _, _⟩ := hr2.dur.form hr2.pos
                have HZ2 := Lib.hid (And.intro hd2 (And.intro hr2 (And.intro hb2 hP2)))
                clear hd2 hr2 hb2 hP2 HZ
                go_wp2_with fail
                have hS0 : Below wz.heap.size wz wz := Below.refl _ _
                have hcS0 : ∀ w' : World, Below wz.heap.size wz w' → w'.cell? ⟨p', 0, none⟩ = some (.slice (some ⟨gv, 0, none⟩) n cv) := fun w' hb => (HZ2.out.2.1.new hb).c0
                have hcS1 : ∀ w' : World, Below wz.heap.size wz w' → w'.cell? ⟨p', 1, none⟩ = some (.slice ua P2.length uc) := fun w' hb => (HZ2.out.2.1.new hb).c1
                go_region_held (fun w' => Below wz.heap.size wz w') (first | assumption | exact hS0.drew) (first
                  | (go_at_call 15; refine (pending _ _ _ _ _ _ _ _ (HZ2.out.1.new hS0.drew)).mono ?_; rintro e w' ⟨rfl, rfl⟩)
                  | (go_at_call 19; refine (image_ok _ _ _ _ _ _ _ _ (HZ2.out.1.new hS0.drew)).mono ?_; rintro e wf ⟨vf, rfl, hvf, hbf⟩; have hSf : Below wz.heap.size wz wf := hS0.drew.trans (hbf.mono hS0.drew.size); have hcf := conv_own hvf; have HVF := Lib.hid hvf; clear hvf hbf)
                  | (go_at_call 31; refine (refimage_ok _ _ _ _ _ _ _ _ (HZ2.out.2.1.new hSf)).mono ?_; rintro e wg ⟨rfl, hbg⟩; have hSg : Below wz.heap.size wz wg := hSf.trans (hbg.mono hSf.size); have hcf2 := conv_own (own_below HVF.out hbg); clear hbg)
                  | (go_at_call 18; refine (durable_ok _ _ _ _ _ _ _ _ (HZ2.out.1.new hSg)).mono ?_; rintro e wh ⟨vh, rfl, hvh, hbh⟩; have hSh : Below wz.heap.size wz wh := hSg.trans (hbh.mono hSg.size); have hch := conv_own hvh; have HVH := Lib.hid hvh; clear hvh hbh)
                  | (go_at_call 32; refine (refdurable_ok _ _ _ _ _ _ _ _ (HZ2.out.2.1.new hSh)).mono ?_; rintro e wj ⟨rfl, hbj⟩; have hSj : Below wz.heap.size wz wj := hSh.trans (hbj.mono hSh.size); have hch2 := conv_own (own_below HVH.out hbj); clear hbj)
                  | (go_at_call 24; refine (sectors _ _ _ _ _ (HZ2.out.1.new hSj).blk HZ2.out.1.pos).mono ?_; rintro e w' ⟨rfl, rfl⟩))
                all_goals
                  clear hcS0 hcS1
                  go_wp2
                  go_roundw
                  case rel => exact ⟨k + 1, v2, _, D2, P2, by omega, by go_num, HZ2.out.2.2.2, HZ2.out.1.new hSj, HZ2.out.2.1.new hSj, HZ2.out.2.2.1.trans (hSj.mono HZ2.out.2.2.1.size)⟩
                  case measure => simp [intOf]; omega
            · have hk' : ¬ (k : Int) < (l.length : Int) := by omega
              go_wp2
              go_ret
              exact ⟨rfl, HW.out⟩
  · by_cases hll : lightA l = true
    · have hI : 4200 < I.length := by by_cases h : I.length ≤ 4200; exact absurd ⟨hll, h⟩ hlit; omega
      have hI' : (4200 : Int) < (I.length : Int) := by omega
      clear hlit
      go_wp2_with (go_at_call 20; refine (light_acts _ _ _ _ (H.out.below HB1.out (Nat.le_refl _)) l0).mono ?_; rintro e w' ⟨rfl, rfl⟩)
      go_ret
      exact ⟨rfl, HB1.out⟩
    · have hlf : lightA l = false := by simpa using hll
      clear hlit hll
      go_wp2_with (go_at_call 20; refine (light_acts _ _ _ _ (H.out.below HB1.out (Nat.le_refl _)) l0).mono ?_; rintro e w' ⟨rfl, rfl⟩)
      go_ret
      exact ⟨rfl, HB1.out⟩
end Go.Proofs.YthienjmkagediaaM
