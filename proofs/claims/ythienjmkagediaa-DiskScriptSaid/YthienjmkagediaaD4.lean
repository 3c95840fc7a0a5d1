/- The law DiskCrash, walked: it says yes. -/
import Derived.Test.YthienjmkagediaaD3
import Derived.Deep.RegionHeldLaw
set_option linter.unusedVariables false
set_option linter.unusedSimpArgs false
namespace Go.Proofs.YthienjmkagediaaM
open Go.RowKit Go.Proofs.YthienjmkagediaaW.PrintMore
theorem new_4 (w : World) : Calls Try.prog 10 #[.int .i64 4] w fun e w' => e = .returned (.tuple #[.pointer (some ⟨w.heap.size + 1, 0, none⟩), .int .i64 0]) ∧
      DiskAt w' w.heap.size (w.heap.size + 1) w.heap.size 4 (.slice none 0 0) (zeros (4 * 512)) [] ∧ Below w.heap.size w w' := new_ok 4 (by omega) (by omega) w
theorem light_4 (a : Option Addr) (l : List ByteArray) (c : Nat) (w : World) (h : StrsAt w a l) (hl : l.length ≤ 140737488351232) :
    Calls Try.prog 9 #[.slice a l.length c, .int .i64 4, .int .i64 512] w fun e w' => e = .returned (.bool (lightB l 4 512)) ∧ w = w' := lights a l c 4 512 w h hl
theorem light_20 (a : Option Addr) (l : List ByteArray) (c : Nat) (w : World) (h : StrsAt w a l) (hl : l.length ≤ 140737488351232) :
    Calls Try.prog 9 #[.slice a l.length c, .int .i64 20, .int .i64 512] w fun e w' => e = .returned (.bool (lightB l 20 512)) ∧ w = w' := lights a l c 20 512 w h hl
theorem pick_4 (a : Int) (w : World) : Calls Try.prog 14 #[.int .i64 a, .int .i64 4] w fun e w' => e = .returned (.int .i64 (pickN a 4 : Int)) ∧ Below w.heap.size w w' := pick_ok a 4 (by decide) (by decide) w
theorem pad_of (l : List UInt8) : pad (bs l) = l ++ zeros (512 - l.length) := by
  unfold pad
  rw [bs_size]
  simp [bs]
theorem own_splice {w : World} {B e g n c : Nat} {xs : List Value} (h : w.ownsRow B e 1 (.slice (some ⟨g, 0, none⟩) n c) n xs) (o : Nat) (ys : List Value) (hf : o + ys.length ≤ n) :
    ∃ cur, Blk w g cur e ∧ n ≤ cur.length ∧ n ≤ c ∧ B ≤ g ∧ (w.setRow g (splice cur o ys).toArray).ownsRow B e 1 (.slice (some ⟨g, 0, none⟩) n c) n (splice xs o ys) := by
  rcases h.2 with ⟨e0, _⟩ | ⟨g', cap', cur, e0, hb, hg, hnc, hcm, hcs, htk⟩
  · cases e0
  · cases e0
    have hl : cur.toList.length = c := by rw [Array.length_toList, hcs, Nat.mul_one]
    rw [Nat.mul_one] at htk
    have hxl : xs.length = n := by rw [h.1, Nat.mul_one]
    have hsp : (splice cur.toList o ys).length = c := by rw [splice_length _ _ _ (by omega), hl]
    refine ⟨cur.toList, hg, by omega, hnc, hb, ?_, .inr ⟨g, c, (splice cur.toList o ys).toArray, rfl, hb, setRow_heap w g cur _ e _ hg, hnc, hcm, by rw [List.size_toArray, hsp, Nat.mul_one], ?_⟩⟩
    · rw [splice_length _ _ _ (by omega), hxl, Nat.mul_one]
    · show (splice cur.toList o ys).take (n * 1) = _
      rw [Nat.mul_one, ← htk]
      apply List.ext_getElem?
      intro j
      rw [List.getElem?_take, splice_get _ _ _ _ (by omega), splice_get _ _ _ _ (by rw [List.length_take]; omega), List.getElem?_take]
      by_cases hj : j < n
      · rw [if_pos hj, if_pos hj]
      · rw [if_neg hj, if_neg hj, if_neg (by omega)]
theorem mm_eq2 (c : Int) : (if (512 : Int) < (if c < 0 then 0 else c) then (512 : Int) else (if c < 0 then 0 else c)) = (((if c ≤ 0 then 0 else if 512 ≤ c then 512 else c.toNat) : Nat) : Int) := by
  by_cases h1 : c < 0
  · rw [if_pos h1, if_neg (by decide), if_pos (by omega)]
    rfl
  · rw [if_neg h1]
    by_cases h0 : c ≤ 0
    · rw [if_pos h0, if_neg (by omega)]
      omega
    · rw [if_neg h0]
      by_cases h3 : 512 ≤ c
      · rw [if_pos h3]
        by_cases h4 : 512 < c
        · rw [if_pos h4]; rfl
        · rw [if_neg h4]; omega
      · rw [if_neg h3, if_neg (by omega)]
        omega
theorem bs_cut (l : List UInt8) (m : Nat) : (bs l).extract 0 m = bs (l.take m) := by
  apply ByteArray.ext
  apply Array.toList_inj.1
  simp [bs]
attribute [local go_sem ↓] exec_conv exec_same Go.wp_at_zero Go.wp_at_succ
attribute [local go_sem] via_same via_same_drew
attribute [local go_sem] max2_int min2_int max_two min_two
set_option maxRecDepth 100000 in
set_option maxHeartbeats 1600000 in
theorem diskCrash (a0 a1 a2 a3 : Option Addr) (c0 c1 c2 c3 : Nat) (was : List ByteArray) (at_ : List Int) (b : List ByteArray) (cuts : List Int) (w : World) (h0 : StrsAt w a0 was) (h1 : IntsAt w (.slice a1 at_.length c1) at_) (h2 : StrsAt w a2 b) (h3 : IntsAt w (.slice a3 cuts.length c3) cuts) (hn3 : a3 = none → c3 = 0)
    (l0 : was.length ≤ 140737488351232) (l1 : at_.length ≤ 140737488351232) (l2 : b.length ≤ 140737488351232) (l3 : cuts.length ≤ 140737488351232) :
    Calls Try.prog 3 #[.slice a0 was.length c0, .slice a1 at_.length c1, .slice a2 b.length c2, .slice a3 cuts.length c3] w fun e w' => e = .returned (.bool true) ∧ Below w.heap.size w w' := by
  have H := Lib.hid (And.intro h0 (And.intro h1 (And.intro h2 (And.intro h3 hn3))))
  clear h0 h1 h2 h3 hn3
  go_enter Try.func3, Try.ntmps3
  go_wp2_with fail
  refine (lives_yes _).mono ?_
  rintro e w1 ⟨rfl, hb1⟩
  have HB1 := Lib.hid hb1
  clear hb1
  go_wp2_with (first | (go_at_call 9; ((with_reducible refine (light_4 _ _ _ _ (H.out.1.below HB1.out (Nat.le_refl _)) l0).mono ?_); rintro e w' ⟨rfl, rfl⟩)) | (go_at_call 9; ((with_reducible refine (light_20 _ _ _ _ (H.out.2.2.1.below HB1.out (Nat.le_refl _)) l2).mono ?_); rintro e w' ⟨rfl, rfl⟩)))
  all_goals try (go_ret; exact ⟨rfl, HB1.out⟩)
  rename ((was.length : Int) = 4) => e1
  rename ((at_.length : Int) ≤ 12) => e2
  rename (at_.length ≤ b.length) => e3
  rename (lightB was 4 512 = true) => e4
  rename (lightB b 20 512 = true) => e5
  rename (((at_.length : Int) ≤ 12 ∧ ¬ b.length < at_.length) ∧ (cuts.length : Int) ≤ 20) => e6
  have HG := Lib.hid (And.intro (show was.length = 4 by omega) (And.intro (show at_.length ≤ 12 by omega) (And.intro e3 (And.intro e4 (And.intro e5 (show cuts.length ≤ 20 by omega))))))
  have HZ := Lib.hid (And.intro (fun i => getD_size e4 i) (fun i => getD_size e5 i))
  have hw4 : (4 : Int) ≤ (was.length : Int) := by omega
  clear e1 e2 e3 e4 e5 e6
  refine (new_4 _).mono ?_
  rintro e w2 ⟨rfl, hd2, hb2⟩
  have HD2 := Lib.hid (And.intro hd2 (HB1.out.trans (hb2.mono HB1.out.size)))
  have HS1 := Lib.hid HB1.out.size
  clear hd2 hb2
  obtain ⟨i5, hi0, hz0, hz1, hz2⟩ := info_parts info5
  have HI := Lib.hid (And.intro hi0 (And.intro hz0 (And.intro hz1 hz2)))
  clear hi0 hz0 hz1 hz2
  go_wp2_with fail
  go_loopw [11, 12] (fun ov iv wr => ∃ (k : Nat) (v : Value), k ≤ 4 ∧ iv = .int .i64 (k : Int) ∧ Hid (DiskAt wr w1.heap.size (w1.heap.size + 1) w1.heap.size 4 v (zeros (4 * 512)) (firstP was k)) ∧ Hid (wr.ownsRow w1.heap.size 5 1 ov (k * 512) (byteCells (firstD was k))) ∧ Hid (Below w.heap.size w wr)) (fun _ iv _ => 4 - (intOf iv).toNat)
  case atStart => exact ⟨0, _, Nat.zero_le _, rfl, HD2.out.1, World.ownsRow_nil _ _ _ _, HD2.out.2⟩
  case round =>
    obtain ⟨k, v, hk, rfl, HD, HO, HW⟩ := hrel
    by_cases hlt : k < 4
    · obtain ⟨ad, rfl, hadl, hc⟩ := H.out.1 (by have := HG.out.1; omega)
      obtain ⟨l, hl⟩ : ∃ l, was.getD k ByteArray.empty = bs l := ⟨_, (bs_data _).symm⟩
      have hkw : k < was.length := by have := HG.out.1; omega
      have hcw : w.cell? (ad.add k) = some (.string (bs l)) := by
        rw [hc k hkw, ← hl, List.getD_eq_getElem?_getD, List.getElem?_eq_getElem hkw]
        rfl
      have hck : wr.cell? (ad.add k) = some (.string (bs l)) := by
        rw [HW.out.cell (p := ad.add k) (by rw [add_block]; exact hadl)]
        exact hcw
      have hls : l.length ≤ 512 := by
        have := HZ.out.1 k
        rw [hl, bs_size] at this
        exact this
      have HL := Lib.hid hl
      have HC := Lib.hid (And.intro hcw hadl)
      have hk' : (k : Int) < 4 := by omega
      have hkw' : (k : Int) < (was.length : Int) := by omega
      have hk0 : (0 : Int) ≤ (k : Int) := by omega
      clear hc hl hcw hadl
      go_wp2_with (refine wpList_bytes rfl _ rfl l (by omega) rfl ?_; intro cap w3 hcap hcm hcells hf3 hb3 hs3; have HB3 := Lib.hid (And.intro hcells hb3); clear hcap hcm hcells hf3 hb3 hs3)
      refine (write_ok _ _ _ _ _ _ _ _ (HD.out.new HB3.out.2) k hlt _ l ⟨_, cap, rfl, fun _ => ⟨_, rfl, fun j u hu => by rw [addr_add, Nat.zero_add]; exact HB3.out.1 j u hu⟩⟩ hls (by rw [firstP_length]; omega)).mono ?_
      rintro e w4 ⟨rfl, ⟨v4, hd4, _⟩, he4⟩
      rw [← pad_of, ← HL.out, ← firstP_succ] at hd4
      have HO4 := Lib.hid (ownsRow_kept (own_below HO.out HB3.out.2) he4 (own_far (HD.out.new HB3.out.2) (own_below HO.out HB3.out.2) (by decide) (by decide) (by decide)))
      have HD4 := Lib.hid (And.intro hd4 ((HW.out.trans (HB3.out.2.mono HW.out.size)).trans (((HD.out.new HB3.out.2).step he4).mono HS1.out)))
      clear hd4 he4 hck
      have hck : w4.cell? (ad.add k) = some (.string (bs l)) := by
        rw [HD4.out.2.cell (p := ad.add k) (by rw [add_block]; exact HC.out.2)]
        exact HC.out.1
      go_wp2_with fail
      refine (padded_ok (bs l) (by rw [bs_size]; exact hls) _).mono ?_
      rintro e w5 ⟨rfl, hb5⟩
      rw [pad_bs]
      have hpl : (pad (bs l)).length = 512 := pad_length (by rw [bs_size]; exact hls)
      have HO5 := Lib.hid (own_below HO4.out hb5)
      have HD5 := Lib.hid (And.intro (HD4.out.1.new hb5) (HD4.out.2.trans (hb5.mono HD4.out.2.size)))
      have HP5 := Lib.hid hpl
      clear hb5 hck hpl
      go_wp2_with (at_builtin; refine Lib.wpList_append_own_string _ rfl _ _ 30 9 rfl w1.heap.size 5 i5 Try.underlying30 Try.underlying9 HI.out.1 HI.out.2.1 HI.out.2.2.1 HI.out.2.2.2 u11 (k * 512) (byteCells (firstD was k)) rfl HO5.out (bs (pad (bs l))) rfl (by rw [bs_size, HP5.out]; unfold maxLen; omega) (by rw [bs_size, HP5.out]; omega) HD5.out.1.base ?_; intro v6 w6 hown hgrow _; rw [bs_size, HP5.out, strCells_bs, ← byteCells_append, ← HL.out, ← firstD_succ] at hown; have HE6 := Lib.hid (show Elses (fun j => u11.ownBlock = some j) w5 w6 from (Elses.refl _ w5).grown hgrow fun j hj => .inl hj); have HO6 := Lib.hid hown; clear hown hgrow)
      go_wp2
      have hfar5 := own_far HD5.out.1 HO5.out (by decide) (by decide) (by decide)
      have hl6 : ∀ j, u11.ownBlock = some j → w.heap.size ≤ j := fun j hj => Nat.le_trans HS1.out (HO5.out.lt j hj).1
      go_roundw
      case rel => exact ⟨k + 1, v4, by omega, by go_num, show DiskAt _ _ _ _ _ _ _ _ from HD5.out.1.kept HE6.out (fun j hj e => hfar5 j e hj), show World.ownsRow _ _ _ _ _ _ _ by rw [show (k + 1) * 512 = k * 512 + 512 by omega]; exact HO6.out, show Below _ _ _ from HD5.out.2.trans ⟨HE6.out.os, HE6.out.tape, HE6.out.output, HE6.out.size, fun j hj => HE6.out.block j (fun e => by have := hl6 j e; omega) (by have := HD5.out.2.size; omega)⟩⟩
      case measure => simp [intOf]; omega
    · have hk' : ¬ (k : Int) < 4 := by omega
      obtain rfl : k = 4 := by omega
      obtain ⟨gw, cw, rfl, hgw, _⟩ := HO.out.form (by omega)
      have HGW := Lib.hid hgw
      clear hgw
      go_wp2_with fail
      refine (sync_ok _ _ _ _ _ _ _ _ HD.out).mono ?_
      rintro e w7 ⟨rfl, ⟨v7, hd7, _⟩, he7⟩
      rw [firstP_syncs was HZ.out.1 4] at hd7
      obtain ⟨D0, hD0⟩ : ∃ D0, D0 = firstD was 4 := ⟨_, rfl⟩
      have HO7 := Lib.hid (ownsRow_kept HO.out he7 (own_far HD.out HO.out (by decide) (by decide) (by decide)))
      rw [← hD0] at hd7 HO7
      have HD7 := Lib.hid (And.intro hd7 (HW.out.trans ((HD.out.step he7).mono HS1.out)))
      have HDL := Lib.hid hd7.len
      clear hd7 he7 hD0
      go_wp2_with fail
      go_loopw [13] (fun iv wr => ∃ (k : Nat) (v : Value), k ≤ at_.length ∧ iv = .int .i64 (k : Int) ∧ Hid (DiskAt wr w1.heap.size (w1.heap.size + 1) w1.heap.size 4 v D0 (nextP at_ b k)) ∧ Hid (wr.ownsRow w1.heap.size 5 1 (.slice (some ⟨gw, 0, none⟩) 2048 cw) 2048 (byteCells (crashK D0 (nextP at_ b at_.length) (cutN cuts) k))) ∧ Hid (Below w.heap.size w wr)) (fun iv _ => at_.length - (intOf iv).toNat)
      case atStart => exact ⟨0, _, Nat.zero_le _, rfl, HD7.out.1, HO7.out, HD7.out.2⟩
      case round =>
        obtain ⟨k, v, hk, rfl, HD, HO, HW⟩ := hrel
        by_cases hlt : k < at_.length
        · obtain ⟨a1', c1', e1, hh1⟩ := H.out.2.1
          cases e1
          obtain ⟨ad1, rfl, hadl1, hc1⟩ := hh1 (by omega)
          obtain ⟨ad2, rfl, hadl2, hc2⟩ := H.out.2.2.1 (by have := HG.out.2.2.1; omega)
          have hkb : k < b.length := by have := HG.out.2.2.1; omega
          obtain ⟨l, hl⟩ : ∃ l, b.getD k ByteArray.empty = bs l := ⟨_, (bs_data _).symm⟩
          have hcw1 := hc1 k hlt
          have hcw2 : w.cell? (ad2.add k) = some (.string (bs l)) := by
            rw [hc2 k hkb, ← hl, List.getD_eq_getElem?_getD, List.getElem?_eq_getElem hkb]
            rfl
          obtain ⟨x, hx⟩ : ∃ x, x = at_[k] := ⟨_, rfl⟩
          rw [← hx] at hcw1
          have hxd : at_.getD k 0 = x := by rw [List.getD_eq_getElem?_getD, List.getElem?_eq_getElem hlt, hx]; rfl
          have hck1 : wr.cell? (ad1.add k) = some (.int .i64 x) := by
            rw [HW.out.cell (p := ad1.add k) (by rw [add_block]; exact hadl1)]
            exact hcw1
          have hls : l.length ≤ 512 := by
            have := HZ.out.2 k
            rw [hl, bs_size] at this
            exact this
          have HC := Lib.hid (And.intro hcw2 (And.intro hadl2 (And.intro hl hxd)))
          have hk' : (k : Int) < (at_.length : Int) := by omega
          have hkb' : (k : Int) < (b.length : Int) := by omega
          have hk0 : (0 : Int) ≤ (k : Int) := by omega
          clear hh1 hc1 hc2 hl hcw1 hcw2 hadl1 hadl2 hx hxd
          go_wp2_with fail
          refine (pick_4 x _).mono ?_
          rintro e w8 ⟨rfl, hb8⟩
          have hq4 : pickN x 4 < 4 := pickN_lt x (by decide)
          obtain ⟨q, hq⟩ : ∃ q, q = pickN x 4 := ⟨_, rfl⟩
          rw [← hq] at hq4 ⊢
          have HQ := Lib.hid hq
          have HD8 := Lib.hid (And.intro (HD.out.new hb8) (HW.out.trans (hb8.mono HW.out.size)))
          have HO8 := Lib.hid (own_below HO.out hb8)
          clear hq hb8 hck1
          have hck2 : w8.cell? (ad2.add k) = some (.string (bs l)) := by
            rw [HD8.out.2.cell (p := ad2.add k) (by rw [add_block]; exact HC.out.2.1)]
            exact HC.out.1
          go_wp2_with (refine wpList_bytes rfl _ rfl l (by omega) rfl ?_; intro cap w9 hcap hcm hcells hf9 hb9 hs9; have HB9 := Lib.hid (And.intro hcells hb9); clear hcap hcm hcells hf9 hb9 hs9)
          refine (write_ok _ _ _ _ _ _ _ _ (HD8.out.1.new HB9.out.2) q hq4 _ l ⟨_, cap, rfl, fun _ => ⟨_, rfl, fun j u hu => by rw [addr_add, Nat.zero_add]; exact HB9.out.1 j u hu⟩⟩ hls (by rw [nextP_length]; have := HG.out.2.1; omega)).mono ?_
          rintro e wa ⟨rfl, ⟨va, hda, _⟩, hea⟩
          rw [← pad_of, ← HC.out.2.2.1, HQ.out, ← HC.out.2.2.2, ← nextP_succ] at hda
          have HOa := Lib.hid (ownsRow_kept (own_below HO8.out HB9.out.2) hea (own_far (HD8.out.1.new HB9.out.2) (own_below HO8.out HB9.out.2) (by decide) (by decide) (by decide)))
          have HDa := Lib.hid (And.intro hda ((HD8.out.2.trans (HB9.out.2.mono HD8.out.2.size)).trans (((HD8.out.1.new HB9.out.2).step hea).mono HS1.out)))
          clear hda hea hck2
          obtain ⟨m, hm⟩ : ∃ m, cutN cuts k = m := ⟨_, rfl⟩
          have hm512 : m ≤ 512 := by rw [← hm]; exact cutN_le cuts k
          have HM := Lib.hid hm
          have hm0 : (0 : Int) ≤ (m : Int) := by omega
          have hm1 : (m : Int) ≤ 512 := by omega
          by_cases hkc : k < cuts.length
          · obtain ⟨a3', c3', e3, hh3⟩ := H.out.2.2.2.1
            cases e3
            obtain ⟨ad3, rfl, hadl3, hc3⟩ := hh3 (by omega)
            have hcw3 := hc3 k hkc
            have hmm := mm_eq2 cuts[k]
            have e : (if cuts[k] ≤ 0 then 0 else if 512 ≤ cuts[k] then 512 else cuts[k].toNat) = m := by
              rw [← hm]
              unfold cutN
              rw [List.getElem?_eq_getElem hkc]
            rw [e] at hmm
            obtain ⟨c, hc⟩ : ∃ c, c = cuts[k] := ⟨_, rfl⟩
            rw [← hc] at hcw3 hmm
            have hck3 : wa.cell? (ad3.add k) = some (.int .i64 c) := by
              rw [HDa.out.2.cell (p := ad3.add k) (by rw [add_block]; exact hadl3)]
              exact hcw3
            have hkc' : (k : Int) < (cuts.length : Int) := by omega
            clear e hc hcw3 hh3 hc3 hadl3 hm
            go_wp2_with fail
            all_goals
              have hpl : (pad (bs l)).length = 512 := pad_length (by rw [bs_size]; exact hls)
              have hps : (bs (pad (bs l))).size = 512 := by rw [bs_size, hpl]
              have hcut := bs_cut (pad (bs l)) m
              have HPL := Lib.hid (And.intro hpl (show ((pad (bs l)).take m).length = m by rw [List.length_take, hpl]; omega))
              clear hpl
              have hcS : wa.drew.cell? (ad2.add k) = some (.string (bs l)) := by
                show wa.cell? _ = _
                rw [HDa.out.2.cell (p := ad2.add k) (by rw [add_block]; exact HC.out.2.1)]
                exact HC.out.1
              obtain ⟨cur0, _, _, hcw0, hgw0, _⟩ := own_splice HOa.out 0 [] (by simp)
              have b0 : (0 : Int) ≤ (q : Int) * 512 := by omega
              have b1 : (q : Int) * 512 ≤ 2048 := by omega
              have b3 : (q : Int) * 512 ≤ (cw : Int) := by omega
              have b4 : IntKind.i64.wrap ((q : Int) * 512) = (q : Int) * 512 := by rw [IntKind.wrap_i64]; omega
              have b5 : ((q : Int) * 512).toNat = q * 512 := by omega
              have b6 : ¬ cw = q * 512 := by omega
              have hadne : ad2.block ≠ gw := by have := HC.out.2.1; have := HS1.out; omega
              have HB0 := Lib.hid (And.intro hgw0 hadne)
              clear hgw0 hadne
              go_region_held_law (fun w' => w'.cell? (ad2.add k) = some (.string (bs l))) (assumption) (first
                | (obtain ⟨cur, hcur, hcl, _, _, hown⟩ := own_splice HOb.out (q * 512) (byteCells ((pad (bs l)).take m)) (by rw [byteCells_length, HPL.out.2]; omega); refine step_copy_string rfl (.tmp 108) (.tmp 115) (by rfl) gw (q * 512) (2048 - q * 512) (cw - q * 512) ((pad (bs l)).take m) (by rfl) (by rfl) (by rw [HPL.out.2]; omega) cur 5 hcur (by rw [HPL.out.2]; omega) ?_; have hcSc := (cell_setRow_other wb gw (splice cur (q * 512) (byteCells ((pad (bs l)).take m))).toArray (ad2.add k) (by rw [add_block]; exact HB0.out.2)).trans hcSb; have HOc := Lib.hid hown; have HDc := Lib.hid (And.intro (HDb.out.1.kept ((Elses.refl (fun j => j = gw) wb).setRow (.inl rfl) (splice cur (q * 512) (byteCells ((pad (bs l)).take m))).toArray) (fun j hj e => not_own_type HDb.out.1 hcur (by decide) (by decide) (by decide) (e ▸ hj))) (below_setRow HDb.out.2 (Nat.le_trans HS1.out HB0.out.1) (splice cur (q * 512) (byteCells ((pad (bs l)).take m))).toArray)); clear hown hcur hcl)
                | (go_at_call 12; refine (padded_ok (bs l) (by rw [bs_size]; exact hls) _).mono ?_; rintro e wb ⟨rfl, hbb⟩; rw [pad_bs]; have hcSb : wb.cell? (ad2.add k) = some (.string (bs l)) := (hbb.cell (p := ad2.add k) (by rw [add_block]; have h9 := HDa.out.2.size; have h8 := HC.out.2.1; show _ < wa.heap.size; omega)).trans hcS; have HOb := Lib.hid (own_below (show wa.drew.ownsRow _ _ _ _ _ _ from HOa.out) hbb); have HDb := Lib.hid (And.intro (HDa.out.1.drew.new hbb) (HDa.out.2.drew.trans (hbb.mono HDa.out.2.size))); clear hbb))
              all_goals
                go_wp2
                go_roundw
                case rel => exact ⟨k + 1, va, by omega, by go_num, show DiskAt _ _ _ _ _ _ _ _ from HDc.out.1, show World.ownsRow _ _ _ _ _ _ _ by rw [nextP_step D0 at_ b (cutN cuts) at_.length k hlt, HC.out.2.2.2, HC.out.2.2.1, ← HQ.out, HM.out, byteCells_splice]; exact HOc.out, show Below _ _ _ from HDc.out.2⟩
                case measure => simp [intOf]; omega
          · have hkc' : ¬ (k : Int) < (cuts.length : Int) := by omega
            have hm0' : m = 0 := by
              rw [← hm]
              unfold cutN
              rw [List.getElem?_eq_none (by omega)]
            subst hm0'
            clear hm
            go_wp2_with fail
            have hpl : (pad (bs l)).length = 512 := pad_length (by rw [bs_size]; exact hls)
            have hps : (bs (pad (bs l))).size = 512 := by rw [bs_size, hpl]
            have hcut := bs_cut (pad (bs l)) 0
            have HPL := Lib.hid (And.intro hpl (show ((pad (bs l)).take 0).length = 0 by rw [List.length_take, hpl]; omega))
            clear hpl
            have hcS : wa.drew.cell? (ad2.add k) = some (.string (bs l)) := by
              show wa.cell? _ = _
              rw [HDa.out.2.cell (p := ad2.add k) (by rw [add_block]; exact HC.out.2.1)]
              exact HC.out.1
            obtain ⟨cur0, _, _, hcw0, hgw0, _⟩ := own_splice HOa.out 0 [] (by simp)
            have b0 : (0 : Int) ≤ (q : Int) * 512 := by omega
            have b1 : (q : Int) * 512 ≤ 2048 := by omega
            have b3 : (q : Int) * 512 ≤ (cw : Int) := by omega
            have b4 : IntKind.i64.wrap ((q : Int) * 512) = (q : Int) * 512 := by rw [IntKind.wrap_i64]; omega
            have b5 : ((q : Int) * 512).toNat = q * 512 := by omega
            have b6 : ¬ cw = q * 512 := by omega
            have hadne : ad2.block ≠ gw := by have := HC.out.2.1; have := HS1.out; omega
            have HB0 := Lib.hid (And.intro hgw0 hadne)
            clear hgw0 hadne
            go_region_held_law (fun w' => w'.cell? (ad2.add k) = some (.string (bs l))) (assumption) (first
              | (obtain ⟨cur, hcur, hcl, _, _, hown⟩ := own_splice HOb.out (q * 512) (byteCells ((pad (bs l)).take 0)) (by rw [byteCells_length, HPL.out.2]; omega); refine step_copy_string rfl (.tmp 108) (.tmp 115) (by rfl) gw (q * 512) (2048 - q * 512) (cw - q * 512) ((pad (bs l)).take 0) (by rfl) (by rfl) (by rw [HPL.out.2]; omega) cur 5 hcur (by rw [HPL.out.2]; omega) ?_; have hcSc := (cell_setRow_other wb gw (splice cur (q * 512) (byteCells ((pad (bs l)).take 0))).toArray (ad2.add k) (by rw [add_block]; exact HB0.out.2)).trans hcSb; have HOc := Lib.hid hown; have HDc := Lib.hid (And.intro (HDb.out.1.kept ((Elses.refl (fun j => j = gw) wb).setRow (.inl rfl) (splice cur (q * 512) (byteCells ((pad (bs l)).take 0))).toArray) (fun j hj e => not_own_type HDb.out.1 hcur (by decide) (by decide) (by decide) (e ▸ hj))) (below_setRow HDb.out.2 (Nat.le_trans HS1.out HB0.out.1) (splice cur (q * 512) (byteCells ((pad (bs l)).take 0))).toArray)); clear hown hcur hcl)
              | (go_at_call 12; refine (padded_ok (bs l) (by rw [bs_size]; exact hls) _).mono ?_; rintro e wb ⟨rfl, hbb⟩; rw [pad_bs]; have hcSb : wb.cell? (ad2.add k) = some (.string (bs l)) := (hbb.cell (p := ad2.add k) (by rw [add_block]; have h9 := HDa.out.2.size; have h8 := HC.out.2.1; show _ < wa.heap.size; omega)).trans hcS; have HOb := Lib.hid (own_below (show wa.drew.ownsRow _ _ _ _ _ _ from HOa.out) hbb); have HDb := Lib.hid (And.intro (HDa.out.1.drew.new hbb) (HDa.out.2.drew.trans (hbb.mono HDa.out.2.size))); clear hbb))
            all_goals
              go_wp2
              go_roundw
              case rel => exact ⟨k + 1, va, by omega, by go_num, show DiskAt _ _ _ _ _ _ _ _ from HDc.out.1, show World.ownsRow _ _ _ _ _ _ _ by rw [nextP_step D0 at_ b (cutN cuts) at_.length k hlt, HC.out.2.2.2, HC.out.2.2.1, ← HQ.out, HM.out, byteCells_splice]; exact HOc.out, show Below _ _ _ from HDc.out.2⟩
              case measure => simp [intOf]; omega
        · have hk' : ¬ (k : Int) < (at_.length : Int) := by omega
          obtain rfl : k = at_.length := by omega
          go_wp2_with fail
          have hpend := pending _ _ _ _ _ _ _ _ HD.out
          rw [nextP_length] at hpend
          refine hpend.mono ?_
          rintro e w' ⟨rfl, rfl⟩
          clear hpend
          go_wp2_with fail
          refine (own_ints a3 cuts c3 _ (H.out.2.2.2.1.below HW.out (Nat.le_refl _)) (by have := HG.out.2.2.2.2.2; omega) H.out.2.2.2.2).mono ?_
          rintro e wd ⟨vd, rfl, hod, hbd⟩
          have HDd := Lib.hid (And.intro (HD.out.new hbd) (HW.out.trans (hbd.mono HW.out.size)))
          have HOd := Lib.hid (own_below HO.out hbd)
          have hia : IntsAt wd vd cuts := by
            rcases hod.2 with ⟨rfl, e0⟩ | ⟨g, cap, cur, rfl, _, hg, _⟩
            · exact ⟨none, 0, by rw [e0], fun h => by omega⟩
            · exact ⟨_, cap, rfl, fun _ => ⟨_, rfl, (Array.getElem?_eq_some_iff.1 hg).1, fun j hj => hod.cells (g := g) rfl j _ (by rw [List.getElem?_map, List.getElem?_eq_getElem hj]; rfl)⟩⟩
          have hfd := own_far HDd.out.1 hod (by decide) (by decide) (by decide)
          go_wp2_with fail
          refine (crash_ok _ _ _ _ _ _ _ _ HDd.out.1 vd cuts hia (fun a n c e => hfd a.block (by rw [e]; rfl)) (by have := HG.out.2.2.2.2.2; omega)).mono ?_
          rintro e we ⟨rfl, ⟨ve, hde, _⟩, hee⟩
          have HOe := Lib.hid (ownsRow_kept HOd.out hee (own_far HDd.out.1 HOd.out (by decide) (by decide) (by decide)))
          rw [nextP_length] at hde
          obtain ⟨DC, hDC⟩ : ∃ DC, DC = crashK D0 (nextP at_ b at_.length) (cutN cuts) at_.length := ⟨_, rfl⟩
          rw [← hDC] at hde HOe
          have hDCl : DC.length = 2048 := hde.len
          have HDe := Lib.hid (And.intro hde (HDd.out.2.trans ((HDd.out.1.step hee).mono HS1.out)))
          clear hde hee hia hfd hod hbd hDC
          go_wp2_with fail
          refine (pending _ _ _ _ _ _ _ _ HDe.out.1).mono ?_
          rintro e w' ⟨rfl, rfl⟩
          go_wp2_with fail
          have HLc := Lib.hid hDCl
          have hcw0 : (ConvVia (.slice (some ⟨gw, 0, none⟩) 2048 cw)).run Try.prog we.drew = .ok (.value (.string (bs DC))) we.drew := conv_own (l := DC) (by rw [HLc.out]; exact HOe.out)
          clear hDCl
          go_region_held (fun _ => True) (trivial) (first
            | (go_at_call 18; refine (durable_ok _ _ _ _ _ _ _ _ HDe.out.1.drew).mono ?_; rintro e wf ⟨vf, rfl, hvf, hbf⟩; have hcv := conv_own hvf; have HOf := Lib.hid (own_below (show we.drew.ownsRow _ _ _ _ _ _ from HOe.out) hbf); have hcwf : (ConvVia (.slice (some ⟨gw, 0, none⟩) 2048 cw)).run Try.prog wf = .ok (.value (.string (bs DC))) wf := conv_own (l := DC) (by rw [HLc.out]; exact HOf.out); have HDf := Lib.hid (And.intro (HDe.out.1.drew.new hbf) (HDe.out.2.drew.trans (hbf.mono HDe.out.2.size))); clear hvf hbf)
            | (go_at_call 19; refine (image_ok _ _ _ _ _ _ _ _ HDf.out.1).mono ?_; rintro e wg ⟨vg, rfl, hvg, hbg⟩; have hcv2 := conv_own (l := DC) hvg; have HOg := Lib.hid (own_below HOf.out hbg); have hcwg : (ConvVia (.slice (some ⟨gw, 0, none⟩) 2048 cw)).run Try.prog wg = .ok (.value (.string (bs DC))) wg := conv_own (l := DC) (by rw [HLc.out]; exact HOg.out); have HDg := Lib.hid (HDf.out.2.trans (hbg.mono HDf.out.2.size)); clear hvg hbg))
          all_goals
            go_wp2
            go_ret
            exact ⟨rfl, HDg.out⟩
theorem diskCrash_walk (a0 : Option Addr) (was : List ByteArray) (c0 : Nat) (a1 : Option Addr) (at_ : List Int) (c1 : Nat) (a2 : Option Addr) (b : List ByteArray) (c2 : Nat) (a3 : Option Addr) (cuts : List Int) (c3 : Nat) (w : World)
    (g0 : StrsAt w a0 was) (_ : a0 = none → c0 = 0) (y0 : was.length ≤ 140737488351232) (g1 : IntsAt w (.slice a1 at_.length c1) at_) (_ : a1 = none → c1 = 0) (y1 : at_.length ≤ 140737488351232) (g2 : StrsAt w a2 b) (_ : a2 = none → c2 = 0) (y2 : b.length ≤ 140737488351232) (g3 : IntsAt w (.slice a3 cuts.length c3) cuts) (n3 : a3 = none → c3 = 0) (y3 : cuts.length ≤ 140737488351232) :
    Calls Try.prog 3 #[.slice a0 was.length c0, .slice a1 at_.length c1, .slice a2 b.length c2, .slice a3 cuts.length c3] w fun e w' => e = .returned (.bool true) ∧ Below w.heap.size w w' :=
  diskCrash a0 a1 a2 a3 c0 c1 c2 c3 was at_ b cuts w g0 g1 g2 g3 n3 y0 y1 y2 y3
end Go.Proofs.YthienjmkagediaaM
