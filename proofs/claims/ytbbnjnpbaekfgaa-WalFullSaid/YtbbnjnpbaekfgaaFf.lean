/- The law WalFull, walked: it says yes. -/
import Derived.Test.YtbbnjnpbaekfgaaEy
set_option linter.unusedVariables false
set_option linter.unusedSimpArgs false
namespace Go.Proofs.YtbbnjnpbaekfgaaM
open Go.RowKit
theorem lights_30 (a : Option Addr) (l : List ByteArray) (c : Nat) (w : World) (h : StrsAt w a l) (hl : l.length ≤ 140737488351232) :
    Calls Try.prog 20 #[.slice a l.length c, .int .i64 30, .int .i64 2000] w fun e w' => e = .returned (.bool (lightB l 30 2000)) ∧ w = w' := lights a l c 30 2000 w h hl
theorem pick_20 (a : Int) (w : World) : Calls Try.prog 11 #[.int .i64 a, .int .i64 20] w fun e w' => e = .returned (.int .i64 (pickN a 20 : Int)) ∧ Below w.heap.size w w' := pick_ok a 20 (by decide) (by decide) w
theorem frames_len (R : List (List UInt8)) (a : Nat) : (framesF a R).flatten.length = spanN R * 512 := by
  have : ∀ l : List (List UInt8), (∀ x ∈ l, x.length = 512) → l.flatten.length = l.length * 512 := by
    intro l
    induction l with
    | nil => intro _; rfl
    | cons x l ih =>
      intro h
      rw [List.flatten_cons, List.length_append, ih fun y hy => h y (List.mem_cons_of_mem _ hy), h x List.mem_cons_self, List.length_cons]
      omega
  rw [this, framesF_length]
  intro x hx
  obtain ⟨i, hi, rfl⟩ := List.mem_iff_getElem.1 hx
  obtain ⟨l, p, e, hp⟩ := framesF_get R a i _ (List.getElem?_eq_getElem hi)
  rw [e]
  exact secF_length _ _ _ hp
theorem frame_part (e : Nat) (r : List UInt8) : ∀ k, k ≤ needN r.length → ((frameS e r).take k).flatten.length = k * 512 := by
  have hl := frameS_length e r
  intro k hk
  induction k with
  | zero => simp
  | succ k ih =>
    rw [List.take_succ_eq_append_getElem (by omega), List.flatten_append, List.length_append, ih (by omega)]
    simp [frameS, frameI_length]
    omega
theorem secs_take (L : List UInt8) (t : Nat → List UInt8) (k : Nat) : (∀ i, i < k → sec L i = t i) → ((List.range k).map t).flatten = L.take (k * 512) := by
  induction k with
  | zero => intro _; rw [Nat.zero_mul]; rfl
  | succ k ih =>
    intro h
    rw [List.range_succ, List.map_append, List.flatten_append, ih fun i hi => h i (by omega), show (k + 1) * 512 = k * 512 + 512 by omega, List.take_add]
    simp only [List.map_cons, List.map_nil, List.flatten_cons, List.flatten_nil, List.append_nil]
    rw [← h k (by omega)]
    unfold sec
    rfl
theorem far_lies {w : World} {B q p g n : Nat} {v vr : Value} {D : List UInt8} {P : List (Nat × List UInt8)} {R : List (List UInt8)} {s e : Nat} (h : LogAt w B q p g n v vr D P R s e) {u : Value} (hN : ∀ b, u.ownBlock = some b → ¬ LOwn q p g v vr b) {gg m c : Nat} (hat : u.ownBlock = some gg ∨ gg = w.heap.size + 1) :
    ∀ b, (Value.slice (some ⟨gg, 0, none⟩) m c).ownBlock = some b → ¬ LOwn q p g v vr b := by
  intro b hb
  simp only [Value.ownBlock, Option.some.injEq] at hb
  subst hb
  rcases hat with e1 | e1
  · exact hN _ e1
  · intro hk
    have h1 := (h.lt _ hk).2
    omega
theorem bs_toList (l : List UInt8) : (bs l).toList = l := by
  rw [Lib.toList_data]
  rfl
theorem good_image {n : Nat} {D : List UInt8} {P : List (Nat × List UInt8)} {R : List (List UInt8)} {s : Nat} (h : Good n D P R s) : (framesF 0 R).flatten = (syncD D P).take (spanN R * 512) := by
  rw [framesF_tgt]
  exact secs_take _ _ _ fun i hi => h.sync_at i (by have := h.le; omega)
attribute [local go_sem] Go.Proofs.YtbbnjnpbaekfgaaW.PrintMore.min2_int Go.Proofs.YtbbnjnpbaekfgaaW.PrintMore.min_two
attribute [local go_sem ↓] exec_conv
set_option maxRecDepth 100000 in
set_option maxHeartbeats 8000000 in
theorem walFull_walk (x0 : Int) (a0 : Option Addr) (l : List ByteArray) (c0 : Nat) (w : World) (h0 : StrsAt w a0 l) (hnil : a0 = none → c0 = 0) (l0 : l.length ≤ 140737488351232) :
    Calls Try.prog 5 #[.int .i64 x0, .slice a0 l.length c0] w fun e w' => e = .returned (.bool true) ∧ Below w.heap.size w w' := by
  have H := Lib.hid h0
  clear h0
  go_enter Try.func5, Try.ntmps5
  go_wp2_with fail
  refine (lives_ok _).mono ?_
  rintro e w1 ⟨rfl, hb1⟩
  have HB1 := Lib.hid hb1
  clear hb1
  by_cases hlit : lightB l 30 2000 = true
  · have h30 : l.length ≤ 30 := by
      unfold lightB at hlit
      rw [Bool.and_eq_true] at hlit
      simpa using hlit.2
    have h2000 : ∀ j (h : j < l.length), l[j].size ≤ 2000 := fun j hj => by
      unfold lightB at hlit
      rw [Bool.and_eq_true, List.all_eq_true] at hlit
      simpa using hlit.1 _ (List.getElem_mem hj)
    have HLT := Lib.hid h2000
    clear h2000
    go_wp2_with (go_at_call 20; refine (lights_30 _ _ _ _ (H.out.below HB1.out (Nat.le_refl _)) l0).mono ?_; rintro e w' ⟨rfl, rfl⟩)
    clear hlit
    refine (pick_20 x0 _).mono ?_
    rintro e w2 ⟨rfl, hb2⟩
    have HB2 := Lib.hid (HB1.out.trans (hb2.mono HB1.out.size))
    clear hb2
    obtain ⟨n, hn⟩ : ∃ n, n = 1 + pickN x0 20 := ⟨_, rfl⟩
    have hpn := pickN_lt x0 (m := 20) (by decide)
    have hn1 : 0 < n := by omega
    have hn2 : n ≤ 20 := by omega
    have hne : (1 : Int) + (pickN x0 20 : Int) = (n : Int) := by omega
    have hp0 : (pickN x0 20 : Int) ≤ 19 := by omega
    clear hn
    go_wp2_with fail
    refine (new_ok n hn1 (by omega) _).mono ?_
    rintro e w3 ⟨rfl, hd3, hb3⟩
    have HB3 := Lib.hid (HB2.out.trans (hb3.mono HB2.out.size))
    have HD3 := Lib.hid hd3
    have hs2 := HB2.out.size
    clear hd3 hb3
    go_wp2_with fail
    refine (open_new _ _ _ _ _ _ HD3.out).mono ?_
    rintro e w4 ⟨rfl, ⟨vr4, v4, hl4, _, hf4⟩, he4⟩
    have HB4 := Lib.hid (HB3.out.trans ((HD3.out.step he4).mono hs2))
    have HL4 := Lib.hid hl4
    clear hl4 he4 hf4
    go_wp2_with fail
    go_loopw [9, 10, 11, 12] (fun uv bv av iv wr => ∃ (k : Nat) (v vr : Value) (P : List (Nat × List UInt8)) (R : List (List UInt8)), k ≤ l.length ∧ R.length ≤ k ∧ iv = .int .i64 (k : Int) ∧ uv = .int .i64 (spanN R : Int) ∧ bv = .string (bs (framesF 0 R).flatten) ∧
      Hid (LogGood wr w2.heap.size w3.heap.size (w2.heap.size + 1) w2.heap.size n v vr (zeros (n * 512)) P R 0) ∧ Hid (wr.ownsRow w2.heap.size 9 1 av R.length (strs R)) ∧ Hid (∀ b, av.ownBlock = some b → ¬ LOwn w3.heap.size (w2.heap.size + 1) w2.heap.size v vr b) ∧ Hid (Below w.heap.size w wr)) (fun _ _ _ iv _ => l.length - (intOf iv).toNat)
    case atStart => exact ⟨0, _, _, _, [], Nat.zero_le _, Nat.le_refl _, rfl, rfl, rfl, HL4.out, World.ownsRow_nil _ _ _ _, (fun b hb => absurd hb (by simp [Value.ownBlock])), HB4.out⟩
    case round =>
      obtain ⟨k, v, vr, P, R, hk, hRk, rfl, rfl, rfl, HL, HO, HN, HW⟩ := hrel
      obtain ⟨wi, rfl⟩ : ∃ wi, wi = wr := ⟨wr, rfl⟩
      obtain ⟨aa, ac, rfl⟩ := len_of_own HO.out
      have hPl : P.length ≤ n ∧ R.length ≤ n := HL.out.few
      have hsp := HL.out.g.le
      by_cases hlt : k < l.length
      · obtain ⟨ad, rfl, hbl, hc⟩ := H.out (by omega)
        have hk' : (k : Int) < (l.length : Int) := by omega
        have hk0 : (0 : Int) ≤ (k : Int) := by omega
        obtain ⟨r, hr⟩ : ∃ r, l[k] = bs r := ⟨_, (bs_data _).symm⟩
        have hrl : r.length ≤ 2000 := by
          have := HLT.out k hlt
          rw [hr, bs_size] at this
          exact this
        have HCB := Lib.hid (show ∀ w' : World, Below w.heap.size w w' → w'.cell? (ad.add k) = some (.string (bs r)) from fun w' hb => (hb.cell (p := ad.add k) (by rw [add_block]; exact hbl)).trans ((hc k hlt).trans (by rw [hr])))
        have hcw := HCB.out _ HW.out
        have hsz : (bs r).size = r.length := bs_size r
        have hsi : (r.length : Int) ≤ 2000 := by omega
        clear hc hr
        by_cases hz : r.length = 0
        · obtain ⟨m, hm⟩ : ∃ m, m = needN r.length := ⟨_, rfl⟩
          have hm1 : m = 1 := by rw [hm, hz]; rfl
          have hmi : (m : Int) = 1 := by omega
          have hzi : (r.length : Int) = 0 := by omega
          have hq : (bs r).toList.isEmpty = true := by rw [bs_toList, List.isEmpty_iff]; exact List.eq_nil_of_length_eq_zero hz
          have hmn : needN r.length = m := hm.symm
          clear hm
          have HQ1 := Lib.hid (show ∀ j, Calls Try.prog 24 #[.pointer (some ⟨w2.heap.size + 1, 0, none⟩)] (wi.drewN j) fun e w' => e = .returned (.int .i64 (P.length : Int)) ∧ ∃ m, w' = (wi.drewN j).drewN m from fun j => (pending _ _ _ _ _ _ _ _ (HL.out.l.d.new (below_drewN (Below.refl _ _) j))).mono fun e w' ⟨h1, h2⟩ => ⟨h1, 0, h2.symm⟩)
          go_wp2_with fail
          go_quiet ((first | (go_at_call 24; exact Calls.quiet_of (HQ1.out _))))
          have HL5 := Lib.hid (HL.out.new (below_drewN (Below.refl _ _) nq))
          have HO5 := Lib.hid (own_below HO.out (below_drewN (Below.refl _ _) nq))
          have HB5 := Lib.hid (below_drewN HW.out nq)
          obtain ⟨w5, rfl⟩ : ∃ w5, w5 = wi.drewN nq := ⟨_, rfl⟩
          have hc5 := HCB.out _ HB5.out
          clear hcw HL HO HW
          by_cases hfit : spanN R + m ≤ n
          · have hgt : ¬ (n : Int) < (spanN R : Int) + 1 := by omega
            go_wp2_with fail
            refine (good_append _ _ _ _ _ _ _ _ _ _ _ _ HL5.out r (by omega) (by omega)).mono ?_
            rintro e w6 ⟨rfl, ⟨v6, vr6, hl6, hf6, hg6⟩, he6⟩
            have HB6 := Lib.hid (HB5.out.trans ((HL5.out.step he6).mono hs2))
            have HL6 := Lib.hid hl6
            have HO6 := Lib.hid (ownsRow_kept HO5.out he6 HN.out)
            have HN6 := Lib.hid (far_fresh HL5.out.l HO5.out HN.out hf6 hg6)
            have hb6 := HCB.out _ HB6.out
            clear hl6 he6 hf6 hg6 hc5
            obtain ⟨i9, hi0, hz0, hz1, hz2⟩ := info_parts info9
            have HI := Lib.hid (And.intro hi0 (And.intro hz0 (And.intro hz1 hz2)))
            clear hi0 hz0 hz1 hz2
            have HN1 := Lib.hid (show ∀ j u, ([.string (bs r)] : List Value)[j]? = some u → (w6.alloc (.cells [Value.string (bs r)].toArray 9)).cell? ((⟨w6.heap.size, 0, none⟩ : Addr).add j) = some u from cell_one_new _ _ _)
            go_wp2_with (at_builtin; refine wpList_append_lies _ rfl _ _ 34 rfl w2.heap.size 9 i9 (.string ⟨#[]⟩) 1 16 Try.underlying34 HI.out.1 HI.out.2.1 HI.out.2.2.1 HI.out.2.2.2 rfl (by decide) (.slice aa R.length ac) R.length (strs R) rfl (HO6.out.alloc _) ⟨w6.heap.size, 0, none⟩ 1 1 [.string (bs r)] rfl rfl HN1.out (by intro u hu; rw [List.mem_singleton.1 hu]; rfl) (by omega) (by unfold maxLen; omega) (by omega) (by have := HL6.out.l.base; simp; omega) (w6.heap.size + 1) (by simp) ?_; intro gg cc wx hown hgrow hat1 hlt1; obtain ⟨R', hR'⟩ : ∃ R', R' = R ++ [r] := ⟨_, rfl⟩; have hRl : R'.length = R.length + 1 := (by rw [hR']; simp); have hE : Elses (fun q => (Value.slice aa R.length ac).ownBlock = some q) w6 wx := ((Elses.refl _ w6).alloc _).grown hgrow (fun q hq => .inl hq); have HLx := Lib.hid (show LogGood wx w2.heap.size w3.heap.size (w2.heap.size + 1) w2.heap.size n v6 vr6 (zeros (n * 512)) (P ++ fwL (spanN R) r) R' 0 from (by rw [hR']; exact ⟨HL6.out.l.kept hE fun b hb e => HN6.out b e hb, HL6.out.g⟩)); have HOx := Lib.hid (show wx.ownsRow w2.heap.size 9 1 (.slice (some ⟨gg, 0, none⟩) (R.length + 1) cc) R'.length (strs R') from (by rw [hRl, hR', strs_append]; exact hown)); have HNx := Lib.hid (show ∀ b, (Value.slice (some ⟨gg, 0, none⟩) (R.length + 1) cc).ownBlock = some b → ¬ LOwn w3.heap.size (w2.heap.size + 1) w2.heap.size v6 vr6 b from far_lies HL6.out.l HN6.out hat1); have HBx := Lib.hid (show Below w.heap.size w wx from HB6.out.trans ((hE.below (n := w2.heap.size) HL6.out.l.base fun i hi => (HO6.out.lt i hi).1).mono hs2)); have hcx := HCB.out _ HBx.out; have HRX := Lib.hid (And.intro hR' hRl); clear hown hgrow hat1 hlt1 hE hR' hRl hb6)
            refine (frame_ok (spanN R) r (by omega) (by omega) _).mono ?_
            rintro e w7 ⟨fv, rfl, hfv, hb7⟩
            rw [frameS_length, hmn] at hfv
            obtain ⟨gf, cf, rfl⟩ := ownsRow_pos hfv (by omega)
            have HFV := Lib.hid hfv
            have HB7 := Lib.hid (HBx.out.trans (hb7.mono HBx.out.size))
            have HL7 := Lib.hid (HLx.out.new hb7)
            have HO7 := Lib.hid (own_below HOx.out hb7)
            clear hfv hb7 hcx
            go_wp2_with fail
            go_loopw [10, 17] (fun bv jv wr => ∃ j : Nat, j ≤ m ∧ jv = .int .i64 (j : Int) ∧ bv = .string (bs ((framesF 0 R).flatten ++ ((frameS (spanN R) r).take j).flatten)) ∧ wr = w7) (fun _ jv _ => m - (intOf jv).toNat)
            case atStart => exact ⟨0, Nat.zero_le _, rfl, by simp, rfl⟩
            case round =>
              obtain ⟨j, hj, rfl, rfl, rfl⟩ := hrel
              have hfl := frames_len R 0
              have hfp := frame_part (spanN R) r j (by omega)
              obtain ⟨X, hX⟩ : ∃ X, X = (framesF 0 R).flatten ++ ((frameS (spanN R) r).take j).flatten := ⟨_, rfl⟩
              have hXl : X.length = spanN R * 512 + j * 512 := by rw [hX, List.length_append, hfl, hfp]
              rw [← hX]
              have HX := Lib.hid hX
              clear hX hfl hfp
              by_cases hjm : j < m
              · have hjm' : (j : Int) < (m : Int) := by omega
                have hj0 : (0 : Int) ≤ (j : Int) := by omega
                obtain ⟨F, hF⟩ : ∃ F, F = frameI (spanN R) r j := ⟨_, rfl⟩
                have hFl : F.length = 512 := by rw [hF]; exact frameI_length _ r j
                have hcf : wr.cell? ⟨gf, j, none⟩ = some (.string (bs F)) := by
                  have := HFV.out.cells (g := gf) rfl j (.string (bs F)) (by rw [strs_get _ j (by rw [frameS_length, hmn]; exact hjm), hF]; simp [frameS])
                  rw [addr_add, Nat.zero_add] at this
                  exact this
                have hcat : bs X ++ bs F = bs (X ++ F) := bs_append _ _
                have hsum : (9223372036854775807 < (bs X).size + (bs F).size) = False := eq_false (by rw [bs_size, bs_size]; omega)
                have HXF := Lib.hid (show X ++ F = (framesF 0 R).flatten ++ ((frameS (spanN R) r).take (j + 1)).flatten from by
                  rw [HX.out, hF, List.take_succ_eq_append_getElem (by rw [frameS_length, hmn]; exact hjm), List.flatten_append, List.append_assoc]
                  simp [frameS])
                clear hF hFl hXl
                go_wp2_with fail
                go_roundw
                case rel => exact ⟨j + 1, by omega, by go_num, by rw [HXF.out], by first | rfl | trivial⟩
                case measure => simp [intOf]; omega
              · have hjm' : ¬ (j : Int) < (m : Int) := by omega
                obtain rfl : j = m := by omega
                have HXR := Lib.hid (show X = (framesF 0 R').flatten from by
                  rw [HX.out, HRX.out.1, framesF_append, List.flatten_append, Nat.zero_add, framesF_one, List.take_of_length_le (by rw [frameS_length, hmn]; exact Nat.le_refl _)])
                have hspR : spanN R' = spanN R + j := by rw [HRX.out.1, spanN_append]; simp [spanN, hmn]
                have hend : ((spanN R' : Nat) : Int) = (spanN R : Int) + 1 := by omega
                have hlef : ((n - spanN R' : Nat) : Int) = (n : Int) - ((spanN R : Int) + 1) := by omega
                have HEN := Lib.hid (And.intro hend (And.intro hlef (show R'.length ≤ k + 1 from by rw [HRX.out.2]; omega)))
                clear hXl hjm hspR hend hlef
                go_wp2_with fail
                have hlend := lend_ok _ _ _ _ _ _ HL7.out.blk
                rw [HEN.out.1] at hlend
                refine hlend.mono ?_
                rintro e w' ⟨rfl, rfl⟩
                clear hlend
                go_wp2_with fail
                have hll := lleft_ok _ _ _ _ _ _ _ _ _ _ _ _ _ HL7.out.l
                rw [HEN.out.2.1] at hll
                refine hll.mono ?_
                rintro e w8 ⟨rfl, hb8⟩
                have HB8 := Lib.hid (HB7.out.trans (hb8.mono HB7.out.size))
                have HL8 := Lib.hid (HL7.out.new hb8)
                have HO8 := Lib.hid (own_below HO7.out hb8)
                clear hb8 hll
                go_wp2_with fail
                go_roundw
                case rel => exact ⟨k + 1, _, _, _, R', by omega, HEN.out.2.2, by go_num, by rw [HEN.out.1], by rw [HXR.out], HL8.out, HO8.out, HNx.out, HB8.out⟩
                case measure => simp [intOf]; omega
          · have hgt : (n : Int) < (spanN R : Int) + 1 := by omega
            go_wp2_with fail
            refine (lappend_full _ _ _ _ _ _ _ _ _ _ _ _ _ HL5.out.l r (by omega) (by omega)).mono ?_
            rintro e w6 ⟨rfl, hb6⟩
            have HBx := Lib.hid (HB5.out.trans (hb6.mono HB5.out.size))
            have HLx := Lib.hid (HL5.out.new hb6)
            have HOx := Lib.hid (own_below HO5.out hb6)
            clear hb6 hc5
            go_wp2_with fail
            refine (pending _ _ _ _ _ _ _ _ HLx.out.l.d).mono ?_
            rintro e w' ⟨rfl, rfl⟩
            go_wp2_with fail
            go_roundw
            case rel => exact ⟨k + 1, _, _, _, R, by omega, by omega, by go_num, rfl, rfl, HLx.out, HOx.out, HN.out, HBx.out⟩
            case measure => simp [intOf]; omega
        · obtain ⟨m, hm⟩ : ∃ m, m = needN r.length := ⟨_, rfl⟩
          have hm1 : 1 ≤ m ∧ m ≤ 5 := by rw [hm]; unfold needN; omega
          have hdv : ((r.length : Int) + 493 - 1) / 493 = (m : Int) := by rw [hm]; unfold needN; omega
          have hq : (bs r).toList.isEmpty = false := by rw [bs_toList, ← Bool.not_eq_true, List.isEmpty_iff]; exact fun e => hz (by rw [e]; rfl)
          have hmn : needN r.length = m := hm.symm
          clear hm
          have HQ1 := Lib.hid (show ∀ j, Calls Try.prog 24 #[.pointer (some ⟨w2.heap.size + 1, 0, none⟩)] (wi.drewN j) fun e w' => e = .returned (.int .i64 (P.length : Int)) ∧ ∃ m, w' = (wi.drewN j).drewN m from fun j => (pending _ _ _ _ _ _ _ _ (HL.out.l.d.new (below_drewN (Below.refl _ _) j))).mono fun e w' ⟨h1, h2⟩ => ⟨h1, 0, h2.symm⟩)
          go_wp2_with fail
          go_quiet ((first | (go_at_call 24; exact Calls.quiet_of (HQ1.out _))))
          have HL5 := Lib.hid (HL.out.new (below_drewN (Below.refl _ _) nq))
          have HO5 := Lib.hid (own_below HO.out (below_drewN (Below.refl _ _) nq))
          have HB5 := Lib.hid (below_drewN HW.out nq)
          obtain ⟨w5, rfl⟩ : ∃ w5, w5 = wi.drewN nq := ⟨_, rfl⟩
          have hc5 := HCB.out _ HB5.out
          clear hcw HL HO HW
          by_cases hfit : spanN R + m ≤ n
          · have hgt : ¬ (n : Int) < (spanN R : Int) + (m : Int) := by omega
            go_wp2_with fail
            refine (good_append _ _ _ _ _ _ _ _ _ _ _ _ HL5.out r (by omega) (by omega)).mono ?_
            rintro e w6 ⟨rfl, ⟨v6, vr6, hl6, hf6, hg6⟩, he6⟩
            have HB6 := Lib.hid (HB5.out.trans ((HL5.out.step he6).mono hs2))
            have HL6 := Lib.hid hl6
            have HO6 := Lib.hid (ownsRow_kept HO5.out he6 HN.out)
            have HN6 := Lib.hid (far_fresh HL5.out.l HO5.out HN.out hf6 hg6)
            have hb6 := HCB.out _ HB6.out
            clear hl6 he6 hf6 hg6 hc5
            obtain ⟨i9, hi0, hz0, hz1, hz2⟩ := info_parts info9
            have HI := Lib.hid (And.intro hi0 (And.intro hz0 (And.intro hz1 hz2)))
            clear hi0 hz0 hz1 hz2
            have HN1 := Lib.hid (show ∀ j u, ([.string (bs r)] : List Value)[j]? = some u → (w6.alloc (.cells [Value.string (bs r)].toArray 9)).cell? ((⟨w6.heap.size, 0, none⟩ : Addr).add j) = some u from cell_one_new _ _ _)
            go_wp2_with (at_builtin; refine wpList_append_lies _ rfl _ _ 34 rfl w2.heap.size 9 i9 (.string ⟨#[]⟩) 1 16 Try.underlying34 HI.out.1 HI.out.2.1 HI.out.2.2.1 HI.out.2.2.2 rfl (by decide) (.slice aa R.length ac) R.length (strs R) rfl (HO6.out.alloc _) ⟨w6.heap.size, 0, none⟩ 1 1 [.string (bs r)] rfl rfl HN1.out (by intro u hu; rw [List.mem_singleton.1 hu]; rfl) (by omega) (by unfold maxLen; omega) (by omega) (by have := HL6.out.l.base; simp; omega) (w6.heap.size + 1) (by simp) ?_; intro gg cc wx hown hgrow hat1 hlt1; obtain ⟨R', hR'⟩ : ∃ R', R' = R ++ [r] := ⟨_, rfl⟩; have hRl : R'.length = R.length + 1 := (by rw [hR']; simp); have hE : Elses (fun q => (Value.slice aa R.length ac).ownBlock = some q) w6 wx := ((Elses.refl _ w6).alloc _).grown hgrow (fun q hq => .inl hq); have HLx := Lib.hid (show LogGood wx w2.heap.size w3.heap.size (w2.heap.size + 1) w2.heap.size n v6 vr6 (zeros (n * 512)) (P ++ fwL (spanN R) r) R' 0 from (by rw [hR']; exact ⟨HL6.out.l.kept hE fun b hb e => HN6.out b e hb, HL6.out.g⟩)); have HOx := Lib.hid (show wx.ownsRow w2.heap.size 9 1 (.slice (some ⟨gg, 0, none⟩) (R.length + 1) cc) R'.length (strs R') from (by rw [hRl, hR', strs_append]; exact hown)); have HNx := Lib.hid (show ∀ b, (Value.slice (some ⟨gg, 0, none⟩) (R.length + 1) cc).ownBlock = some b → ¬ LOwn w3.heap.size (w2.heap.size + 1) w2.heap.size v6 vr6 b from far_lies HL6.out.l HN6.out hat1); have HBx := Lib.hid (show Below w.heap.size w wx from HB6.out.trans ((hE.below (n := w2.heap.size) HL6.out.l.base fun i hi => (HO6.out.lt i hi).1).mono hs2)); have hcx := HCB.out _ HBx.out; have HRX := Lib.hid (And.intro hR' hRl); clear hown hgrow hat1 hlt1 hE hR' hRl hb6)
            refine (frame_ok (spanN R) r (by omega) (by omega) _).mono ?_
            rintro e w7 ⟨fv, rfl, hfv, hb7⟩
            rw [frameS_length, hmn] at hfv
            obtain ⟨gf, cf, rfl⟩ := ownsRow_pos hfv (by omega)
            have HFV := Lib.hid hfv
            have HB7 := Lib.hid (HBx.out.trans (hb7.mono HBx.out.size))
            have HL7 := Lib.hid (HLx.out.new hb7)
            have HO7 := Lib.hid (own_below HOx.out hb7)
            clear hfv hb7 hcx
            go_wp2_with fail
            go_loopw [10, 17] (fun bv jv wr => ∃ j : Nat, j ≤ m ∧ jv = .int .i64 (j : Int) ∧ bv = .string (bs ((framesF 0 R).flatten ++ ((frameS (spanN R) r).take j).flatten)) ∧ wr = w7) (fun _ jv _ => m - (intOf jv).toNat)
            case atStart => exact ⟨0, Nat.zero_le _, rfl, by simp, rfl⟩
            case round =>
              obtain ⟨j, hj, rfl, rfl, rfl⟩ := hrel
              have hfl := frames_len R 0
              have hfp := frame_part (spanN R) r j (by omega)
              obtain ⟨X, hX⟩ : ∃ X, X = (framesF 0 R).flatten ++ ((frameS (spanN R) r).take j).flatten := ⟨_, rfl⟩
              have hXl : X.length = spanN R * 512 + j * 512 := by rw [hX, List.length_append, hfl, hfp]
              rw [← hX]
              have HX := Lib.hid hX
              clear hX hfl hfp
              by_cases hjm : j < m
              · have hjm' : (j : Int) < (m : Int) := by omega
                have hj0 : (0 : Int) ≤ (j : Int) := by omega
                obtain ⟨F, hF⟩ : ∃ F, F = frameI (spanN R) r j := ⟨_, rfl⟩
                have hFl : F.length = 512 := by rw [hF]; exact frameI_length _ r j
                have hcf : wr.cell? ⟨gf, j, none⟩ = some (.string (bs F)) := by
                  have := HFV.out.cells (g := gf) rfl j (.string (bs F)) (by rw [strs_get _ j (by rw [frameS_length, hmn]; exact hjm), hF]; simp [frameS])
                  rw [addr_add, Nat.zero_add] at this
                  exact this
                have hcat : bs X ++ bs F = bs (X ++ F) := bs_append _ _
                have hsum : (9223372036854775807 < (bs X).size + (bs F).size) = False := eq_false (by rw [bs_size, bs_size]; omega)
                have HXF := Lib.hid (show X ++ F = (framesF 0 R).flatten ++ ((frameS (spanN R) r).take (j + 1)).flatten from by
                  rw [HX.out, hF, List.take_succ_eq_append_getElem (by rw [frameS_length, hmn]; exact hjm), List.flatten_append, List.append_assoc]
                  simp [frameS])
                clear hF hFl hXl
                go_wp2_with fail
                go_roundw
                case rel => exact ⟨j + 1, by omega, by go_num, by rw [HXF.out], by first | rfl | trivial⟩
                case measure => simp [intOf]; omega
              · have hjm' : ¬ (j : Int) < (m : Int) := by omega
                obtain rfl : j = m := by omega
                have HXR := Lib.hid (show X = (framesF 0 R').flatten from by
                  rw [HX.out, HRX.out.1, framesF_append, List.flatten_append, Nat.zero_add, framesF_one, List.take_of_length_le (by rw [frameS_length, hmn]; exact Nat.le_refl _)])
                have hspR : spanN R' = spanN R + j := by rw [HRX.out.1, spanN_append]; simp [spanN, hmn]
                have hend : ((spanN R' : Nat) : Int) = (spanN R : Int) + (j : Int) := by omega
                have hlef : ((n - spanN R' : Nat) : Int) = (n : Int) - ((spanN R : Int) + (j : Int)) := by omega
                have HEN := Lib.hid (And.intro hend (And.intro hlef (show R'.length ≤ k + 1 from by rw [HRX.out.2]; omega)))
                clear hXl hjm hspR hend hlef
                go_wp2_with fail
                have hlend := lend_ok _ _ _ _ _ _ HL7.out.blk
                rw [HEN.out.1] at hlend
                refine hlend.mono ?_
                rintro e w' ⟨rfl, rfl⟩
                clear hlend
                go_wp2_with fail
                have hll := lleft_ok _ _ _ _ _ _ _ _ _ _ _ _ _ HL7.out.l
                rw [HEN.out.2.1] at hll
                refine hll.mono ?_
                rintro e w8 ⟨rfl, hb8⟩
                have HB8 := Lib.hid (HB7.out.trans (hb8.mono HB7.out.size))
                have HL8 := Lib.hid (HL7.out.new hb8)
                have HO8 := Lib.hid (own_below HO7.out hb8)
                clear hb8 hll
                go_wp2_with fail
                go_roundw
                case rel => exact ⟨k + 1, _, _, _, R', by omega, HEN.out.2.2, by go_num, by rw [HEN.out.1], by rw [HXR.out], HL8.out, HO8.out, HNx.out, HB8.out⟩
                case measure => simp [intOf]; omega
          · have hgt : (n : Int) < (spanN R : Int) + (m : Int) := by omega
            go_wp2_with fail
            refine (lappend_full _ _ _ _ _ _ _ _ _ _ _ _ _ HL5.out.l r (by omega) (by omega)).mono ?_
            rintro e w6 ⟨rfl, hb6⟩
            have HBx := Lib.hid (HB5.out.trans (hb6.mono HB5.out.size))
            have HLx := Lib.hid (HL5.out.new hb6)
            have HOx := Lib.hid (own_below HO5.out hb6)
            clear hb6 hc5
            go_wp2_with fail
            refine (pending _ _ _ _ _ _ _ _ HLx.out.l.d).mono ?_
            rintro e w' ⟨rfl, rfl⟩
            go_wp2_with fail
            go_roundw
            case rel => exact ⟨k + 1, _, _, _, R, by omega, by omega, by go_num, rfl, rfl, HLx.out, HOx.out, HN.out, HBx.out⟩
            case measure => simp [intOf]; omega
      · have hk' : ¬ (k : Int) < (l.length : Int) := by omega
        obtain rfl : k = l.length := by omega
        have hRf : R.length ≤ 1000000 := by omega
        obtain ⟨I, hI⟩ : ∃ I, I = syncD (zeros (n * 512)) P := ⟨_, rfl⟩
        have HFD := Lib.hid (show (found I).recs = R ∧ (found I).fin = spanN R from by rw [hI]; exact HL.out.g.finds)
        have hIl : I.length = n * 512 := by rw [hI]; exact syncD_length P HL.out.g.len HL.out.g.ok
        have hIX : (framesF 0 R).flatten = I.take (spanN R * 512) := by rw [hI]; exact good_image HL.out.g
        obtain ⟨X, hX⟩ : ∃ X, X = (framesF 0 R).flatten := ⟨_, rfl⟩
        have hXl : X.length = spanN R * 512 := by rw [hX, frames_len]
        rw [← hX] at hIX ⊢
        have HIX := Lib.hid (And.intro hIX hXl)
        have HIl := Lib.hid hIl
        have HI0 := Lib.hid hI
        clear hIX hX hXl hIl hI
        go_wp2_with fail
        refine (image_ok _ _ _ _ _ _ _ _ HL.out.l.d).mono ?_
        rintro e w5 ⟨iv, rfl, hov, hb5⟩
        rw [← HI0.out] at hov
        have HSC := Lib.hid (scan_own _ iv I w5 hov (by rw [HIl.out]; omega) (by rw [HIl.out]; omega))
        have HB5 := Lib.hid (HW.out.trans (hb5.mono HW.out.size))
        have HL5 := Lib.hid (HL.out.new hb5)
        have HO5 := Lib.hid (own_below HO.out hb5)
        obtain ⟨gi, ci, rfl⟩ := ownsRow_pos hov (by rw [HIl.out]; omega)
        obtain ⟨il, hil⟩ : ∃ il, il = I.length := ⟨_, rfl⟩
        rw [← hil]
        rw [← hil] at HSC
        have HIL := Lib.hid hil
        clear hov hb5 hil
        go_wp2_with fail
        refine HSC.out.mono ?_
        rintro e w6 ⟨rv, rfl, hrow, hb6⟩
        rw [HFD.out.1] at hrow
        rw [HFD.out.2]
        have HB6 := Lib.hid (HB5.out.trans (hb6.mono HB5.out.size))
        have HL6 := Lib.hid (HL5.out.new hb6)
        have HO6 := Lib.hid (own_below HO5.out hb6)
        have HT6 := Lib.hid (Texts.own hrow)
        obtain ⟨xa, xc, rfl⟩ := len_of_own hrow
        clear hrow hb6
        go_wp2_with fail
        refine (image_ok _ _ _ _ _ _ _ _ HL6.out.l.d).mono ?_
        rintro e w7 ⟨jv, rfl, hjv, hb7⟩
        rw [← HI0.out] at hjv
        have hcv := conv_own hjv
        have HB7 := Lib.hid (HB6.out.trans (hb7.mono HB6.out.size))
        have HO7 := Lib.hid (own_below HO6.out hb7)
        have HT7 := Lib.hid (HT6.out.new hb7)
        clear hjv hb7
        go_wp2_with fail
        refine (same_ok _ _ R R _ HT7.out (Texts.own HO7.out) hRf hRf).mono ?_
        rintro e w8 ⟨rfl, hb8⟩
        have HB8 := Lib.hid (HB7.out.trans (hb8.mono HB7.out.size))
        rw [decide_eq_true (rfl : R = R)]
        clear hb8
        have hbx : (bs X).size = X.length := bs_size X
        have hbi : (bs I).size = I.length := bs_size I
        obtain ⟨xl, hxl⟩ : ∃ xl, xl = X.length := ⟨_, rfl⟩
        have hxi : xl ≤ il := by rw [hxl, HIL.out, HIX.out.2, HIl.out]; omega
        rw [← hxl] at hbx
        rw [← HIL.out] at hbi
        have hmin : (if (il : Int) < (xl : Int) then (il : Int) else (xl : Int)) = (xl : Int) := by rw [if_neg (by omega)]
        have hxi' : (xl : Int) ≤ (il : Int) := by omega
        have HXI := Lib.hid hxl
        clear hxl
        have HQE := Lib.hid (show (((bs I).extract 0 xl).toList == (bs X).toList) = true from by
          rw [bs_toList, Lib.toList_data, HIX.out.1, ← HIX.out.2, ← HXI.out, beq_iff_eq]
          simp [bs])
        go_wp2_with fail
        go_ret
        refine ⟨?_, HB8.out⟩
        show Ending.returned (.bool (((bs I).extract 0 xl).toList == (bs X).toList)) = _
        rw [HQE.out]
  · go_wp2_with (go_at_call 20; refine (lights_30 _ _ _ _ (H.out.below HB1.out (Nat.le_refl _)) l0).mono ?_; rintro e w' ⟨rfl, rfl⟩)
    go_ret
    exact ⟨rfl, HB1.out⟩
theorem walFull_row (x0 : Int) (a0 : Option Addr) (l : List ByteArray) (c0 : Nat) (w : World) (_ : (Lit.int .i64 x0).wf = true) (h0 : StrsAt w a0 l) (hnil : a0 = none → c0 = 0) (l0 : l.length ≤ 140737488351232) :
    Calls Try.prog 5 #[.int .i64 x0, .slice a0 l.length c0] w fun e w' => e = .returned (.bool true) ∧ Below w.heap.size w w' := walFull_walk x0 a0 l c0 w h0 hnil l0
end Go.Proofs.YtbbnjnpbaekfgaaM
