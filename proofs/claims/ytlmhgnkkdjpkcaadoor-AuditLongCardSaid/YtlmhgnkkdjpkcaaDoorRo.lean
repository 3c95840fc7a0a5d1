/- The contracts of outlawref23.over and outlawref23.Open. -/
import Derived.Test.YtlmhgnkkdjpkcaaDoorWm
import Derived.Test.YtlmhgnkkdjpkcaaDoorRc
import Derived.Deep.RegionHeld3
import Derived.Deep.CutBlock
import Derived.Deep.RegionHeldLaw
set_option linter.unusedVariables false
set_option linter.unusedSimpArgs false
namespace Go.Proofs.YtlmhgnkkdjpkcaaDoorG
open Go.RowKit Go.Proofs.YtlmhgnkkdjpkcaaDoor.PA Go.Proofs.YtlmhgnkkdjpkcaaDoorW.PrintWords Go.Proofs.YtlmhgnkkdjpkcaaDoorW.PrintLast Go.Proofs.YtlmhgnkkdjpkcaaDoorW.PrintMore Go.Proofs.YtlmhgnkkdjpkcaaDoorM
set_option maxHeartbeats 2000000 in
set_option maxRecDepth 100000 in
theorem over_any (A : Option Addr) (c : Nat) (l : List S30) (t : Int) (w : World) (hC : Kd.C k30 w A l.length l) (hl : l.length ≤ 1000000000) :
    Calls Tryd.prog 46 #[.slice A l.length c, .int .i64 t] w fun e w' => e = .returned (.bool (endedIn l t)) ∧ ∃ q, w' = w.drewN q := by
  have HC := Lib.hid hC
  clear hC
  go_enter Tryd.func46, Tryd.ntmps46
  go_wp2_with fail
  go_loopw [5] (fun v wr => ∃ (i : Int), v = .int .i64 i ∧ 0 ≤ i ∧ i ≤ l.length ∧ Hid (endedIn (l.take i.toNat) t = false ∧ ∃ q, wr = w.drewN q)) (fun v _ => l.length - (intOf v).toNat)
  case atStart => exact ⟨0, rfl, by omega, by omega, ⟨rfl, 0, rfl⟩⟩
  case round =>
    obtain ⟨i, rfl, h0, hi, HX⟩ := hrel
    obtain ⟨w1, rfl⟩ : ∃ w1, w1 = wr := ⟨wr, rfl⟩
    by_cases hlt : i < (l.length : Int)
    · have HD := Lib.hid (take_snoc l i h0 hlt)
      have HCr : Kd.C k30 w1 A l.length l := by obtain ⟨_, q, rfl⟩ := HX.out; exact Kd.C_drewN HC.out q
      obtain ⟨ad, e184, hx0, hx1, _, _, _, _, _, _, _⟩ := at_T30 HCr i h0 hlt
      subst e184
      obtain ⟨n, hn⟩ : ∃ n, n = rd_T30 l i := ⟨_, rfl⟩
      rw [← hn] at hx0 hx1 HD
      clear hn HCr
      by_cases hk : n.f1 = t
      · have hkb : (n.f1 == t) = true := by simpa using hk
        have HE := Lib.hid (ends_any n.f0)
        cases he : endedB n.f0
        · rw [he] at HE
          have HN := Lib.hid (show endedIn (l.take (i + 1).toNat) t = false from by rw [HD.out, ended_snoc, HX.out.1, he]; rfl)
          go_wp2_with fail
          refine (HE.out _).mono ?_
          rintro e w' ⟨rfl, hq⟩
          have HQ := Lib.hid hq
          clear hq
          go_wp2_with fail
          go_roundw
          case rel => exact ⟨i + 1, rfl, by omega, by omega, ⟨HN.out, by obtain ⟨_, q, rfl⟩ := HX.out; obtain ⟨q2, rfl⟩ := HQ.out; exact (Drawn0.step ⟨⟨q, rfl⟩⟩ q2).out⟩⟩
          case measure => simp [intOf]; omega
        · rw [he] at HE
          have HT := Lib.hid (show endedIn l t = true from by
            have h1 : endedIn (l.take (i + 1).toNat) t = true := by rw [HD.out, ended_snoc, he, hkb]; simp
            unfold endedIn at h1 ⊢
            rw [List.any_eq_true] at h1 ⊢
            obtain ⟨x, hx, h2⟩ := h1
            exact ⟨x, List.mem_of_mem_take hx, h2⟩)
          go_wp2_with fail
          refine (HE.out _).mono ?_
          rintro e w' ⟨rfl, hq⟩
          have HQ := Lib.hid hq
          clear hq
          go_wp2_with fail
          go_ret
          exact ⟨by rw [HT.out]; rfl, by obtain ⟨_, q, rfl⟩ := HX.out; obtain ⟨q2, rfl⟩ := HQ.out; exact (Drawn0.step ⟨⟨q, rfl⟩⟩ q2).out⟩
      · have hkb : (n.f1 == t) = false := by simpa using hk
        have HN := Lib.hid (show endedIn (l.take (i + 1).toNat) t = false from by rw [HD.out, ended_snoc, HX.out.1, hkb]; simp)
        clear hk
        go_wp2_with fail
        go_roundw
        case rel => exact ⟨i + 1, rfl, by omega, by omega, ⟨HN.out, HX.out.2⟩⟩
        case measure => simp [intOf]; omega
    · obtain rfl : i = l.length := by omega
      have hX := HX.out.1
      rw [show ((l.length : Int)).toNat = l.length from rfl, List.take_length] at hX
      have HT := Lib.hid hX
      clear hX
      go_wp2_with fail
      go_ret
      exact ⟨by rw [HT.out]; rfl, HX.out.2⟩
def openK (l : List S30) (m : List S30) : List Int := (m.filter fun n => n.f0 == 3 && !endedIn l n.f1).foldl (fun acc n => insR n.f1 acc) []
theorem openK_snoc (l m : List S30) (n : S30) : openK l (m ++ [n]) = if (n.f0 == 3 && !endedIn l n.f1) = true then insR n.f1 (openK l m) else openK l m := by
  unfold openK
  rw [List.filter_append, List.foldl_append]
  by_cases h : (n.f0 == 3 && !endedIn l n.f1) = true
  · rw [if_pos h, List.filter_cons_of_pos (by simpa using h)]
    rfl
  · rw [if_neg h, List.filter_cons_of_neg (by simpa using h)]
    rfl
theorem ins_own {out : List Int} {x : Int} {W : World} {B : Nat} {v : Value} (hb : hasI x out = false) (h : OwnI W B v ((([] ++ out.take (posI x out)) ++ [x]) ++ out.drop (posI x out))) : OwnI W B v (insR x out) := by
  rw [insR_pos, if_neg (by rw [hb]; decide)]
  simpa using h
set_option maxHeartbeats 8000000 in
set_option maxRecDepth 100000 in
theorem ropen_any (A : Option Addr) (c : Nat) (l : List S30) (w : World) (hC : Kd.C k30 w A l.length l) (hl : l.length ≤ 1000000000) :
    Calls Tryd.prog 26 #[.slice A l.length c] w fun e w' => ∃ v, e = .returned v ∧ OwnI w' w.heap.size v (openP l) ∧ Below w.heap.size w w' := by
  have HC := Lib.hid hC
  have HLEN := Lib.hid hl
  clear hC
  go_enter Tryd.func26, Tryd.ntmps26
  go_wp2_with fail
  go_loopw [3, 4] (fun v v4 wr => ∃ (i : Int) (out : List Int), v4 = .int .i64 i ∧ 0 ≤ i ∧ i ≤ l.length ∧ Hid (OwnI wr w.heap.size v out ∧ Below w.heap.size w wr ∧ out = openK l (l.take i.toNat) ∧ out.length ≤ i.toNat))
    (fun _ v4 _ => l.length - (intOf v4).toNat)
  case atStart => exact ⟨0, [], rfl, by omega, by omega, Lib.hid ⟨World.ownsRow_nil _ _ _ _, Below.refl _ _, rfl, by simp⟩⟩
  case round =>
    obtain ⟨i, out, rfl, h0, hi, HX⟩ := hrel
    obtain ⟨oa, cap, rfl⟩ := oi_form HX.out.1
    obtain ⟨w1, rfl⟩ : ∃ w1, w1 = wr := ⟨wr, rfl⟩
    by_cases hlt : i < (l.length : Int)
    · have HD := Lib.hid (take_snoc l i h0 hlt)
      have HCr := Lib.hid (Kd.C_below HC.out HX.out.2.1)
      obtain ⟨ad, e184, hx0, hx1, _, _, _, _, _, _, _⟩ := at_T30 HCr.out i h0 hlt
      subst e184
      have hll := HLEN.out
      have hw := wrap_i (i := i) h0 hlt hll
      obtain ⟨n, hn⟩ : ∃ n, n = rd_T30 l i := ⟨_, rfl⟩
      rw [← hn] at hx0 hx1 HD
      clear hn
      obtain ⟨x, hx⟩ : ∃ x, n.f1 = x := ⟨_, rfl⟩
      rw [hx] at hx1
      have HXX := Lib.hid hx
      clear hx
      by_cases hk : n.f0 = 3
      rotate_left
      · have hkb : (n.f0 == 3) = false := by simpa using hk
        have HN := Lib.hid (show openK l (l.take (i + 1).toNat) = out from by rw [HD.out, openK_snoc, hkb, ← HX.out.2.2.1]; rfl)
        have hkb2 : (n.f0 != 3) = true := by simpa using hk
        clear hk
        go_wp2_with fail
        go_roundw
        case rel => exact ⟨i + 1, out, by first | rfl | rw [hw], by omega, by omega, Lib.hid ⟨HX.out.1, HX.out.2.1, HN.out.symm, by have := HX.out.2.2.2; omega⟩⟩
        case measure => simp [intOf]; omega
      have hkb : (n.f0 == 3) = true := by simpa using hk
      rw [hk] at hx0
      clear hk
      have HOV := Lib.hid (over_any (some ad) c l x w1 HCr.out hll)
      cases hov : endedIn l x
      rotate_left
      · rw [hov] at HOV
        have HN := Lib.hid (show openK l (l.take (i + 1).toNat) = out from by rw [HD.out, openK_snoc, hkb, HXX.out, hov, ← HX.out.2.2.1]; rfl)
        go_wp2_with fail
        refine HOV.out.mono ?_
        rintro e w' ⟨rfl, hq⟩
        have HQ := Lib.hid hq
        clear hq
        go_wp2_with fail
        go_roundw
        case rel => exact ⟨i + 1, out, by first | rfl | rw [hw], by omega, by omega, Lib.hid (by obtain ⟨q, rfl⟩ := HQ.out; exact ⟨oi_drewN HX.out.1 q, pw_below_drewN HX.out.2.1 q, HN.out.symm, by have := HX.out.2.2.2; omega⟩)⟩
        case measure => simp [intOf]; omega
      rw [hov] at HOV
      have HN := Lib.hid (show openK l (l.take (i + 1).toNat) = insR x out from by rw [HD.out, openK_snoc, hkb, HXX.out, hov, ← HX.out.2.2.1]; rfl)
      go_wp2_with fail
      refine HOV.out.mono ?_
      rintro e w2 ⟨rfl, hq0⟩
      have HQ0 := Lib.hid hq0
      clear hq0
      go_upto_block 2 with fail
      go_cut [5] (fun t5 wx => t5 = .int .i64 (posI x out : Nat) ∧ Hid (∃ q, wx = w1.drewN q))
      case first =>
        go_wp2_with fail
        go_loopw [5] (fun v5 wr' => ∃ (j : Nat), v5 = .int .i64 j ∧ j ≤ posI x out ∧ Hid (∃ q, wr' = w1.drewN q))
          (fun v5 _ => (posI x out + 1) - (intOf v5).toNat)
        case atStart => exact ⟨0, rfl, Nat.zero_le _, HQ0⟩
        case round =>
          obtain ⟨j, rfl, hj, HQ⟩ := hrel
          have hpl := posI_le x out
          have hol := HX.out.2.2.2
          by_cases hjl : j < out.length
          · obtain ⟨g, cap', hv, hg⟩ := oi_read HX.out.1 hjl
            cases hv
            have cx : wr.cell? ⟨(ad.add (i.toNat * 9)).block, (ad.add (i.toNat * 9)).off + 1, none⟩ = some (Value.int .i64 x) := by obtain ⟨q, rfl⟩ := HQ.out; exact hx1
            have cg : wr.cell? ⟨g, j, none⟩ = some (Value.int .i64 out[j]) := by obtain ⟨q, rfl⟩ := HQ.out; exact hg
            have j1 : (j : Int) < (out.length : Int) := by omega
            have j0 : (0 : Int) ≤ (j : Int) := by omega
            obtain ⟨y, hy⟩ : ∃ y, out[j] = y := ⟨_, rfl⟩
            rw [hy] at cg
            by_cases hp : j < posI x out
            · have hless : y < x := by rw [← hy]; exact posI_low hp hjl
              clear hy
              have hwj := wrap_nat hjl (by omega)
              go_wp2_with fail
              go_region_held3 (fun w' => w'.cell? ⟨(ad.add (i.toNat * 9)).block, (ad.add (i.toNat * 9)).off + 1, none⟩ = some (Value.int .i64 x) ∧ w'.cell? ⟨g, j, none⟩ = some (Value.int .i64 y)) (first | assumption | exact ⟨cx, cg⟩) (fail)
              all_goals
                go_wp2
                go_roundw
                case rel => exact ⟨j + 1, by first | rfl | rw [hwj], by omega, Lib.hid (by obtain ⟨q, rfl⟩ := HQ.out; exact ⟨q + 1, rfl⟩)⟩
                case measure => simp [intOf]; omega
            · obtain rfl : j = posI x out := by omega
              have hless : ¬ y < x := by rw [← hy]; exact posI_at hjl
              clear hy
              go_wp2_with fail
              go_region_held3 (fun w' => w'.cell? ⟨(ad.add (i.toNat * 9)).block, (ad.add (i.toNat * 9)).off + 1, none⟩ = some (Value.int .i64 x) ∧ w'.cell? ⟨g, posI x out, none⟩ = some (Value.int .i64 y)) (first | assumption | exact ⟨cx, cg⟩) (fail)
              all_goals
                go_wp2_with fail
                go_meet
                exact ⟨rfl, Lib.hid (by obtain ⟨q, rfl⟩ := HQ.out; exact ⟨q + 1, rfl⟩)⟩
          · obtain rfl : j = posI x out := by omega
            have hnl : ¬ ((posI x out : Int) < (out.length : Int)) := by omega
            have hnl2 : decide ((posI x out : Int) < (out.length : Int)) = false := decide_eq_false hnl
            go_wp2_with fail
            refine start_ (n := 16) (S := fun _ => True) (ds := []) #[false, false, false, false, false, false, false, false, false, false, false, false, false, false, false, false] (by as_aux_lemma => kernel_rfl) rfl rfl (trivial) (fun hHeld => ?_)
            refine pq_ 0 27 (mb_ 16 1) rfl ?_
            refine pq_ 1 28 (mb_ 16 3) rfl ?_
            refine pq_ 2 29 (mb_ 16 7) rfl ?_
            refine pq_ 3 30 (mb_ 16 15) rfl ?_
            refine pq_ 4 31 (mb_ 16 31) rfl ?_
            refine pu_ 5 32 (mb_ 16 63) rfl ?_
            refine pu_ 6 33 (mb_ 16 127) rfl ?_
            refine pu_ 7 34 (mb_ 16 255) rfl ?_
            refine pu_ 8 35 (mb_ 16 511) rfl ?_
            refine pu_ 9 36 (mb_ 16 1023) rfl ?_
            refine pu_ 10 37 (mb_ 16 2047) rfl ?_
            refine pu_ 11 38 (mb_ 16 4095) rfl ?_
            refine pu_ 12 39 (mb_ 16 8191) rfl ?_
            refine pu_ 13 40 (mb_ 16 16383) rfl ?_
            refine pu_ 14 41 (mb_ 16 32767) rfl ?_
            refine pq_ 15 42 (mb_ 16 65535) rfl ?_
            refine done_ (by as_aux_lemma => kernel_rfl) ?_
            go_wp2_with fail
            go_meet
            exact ⟨rfl, Lib.hid (by obtain ⟨q, rfl⟩ := HQ.out; exact ⟨q + 1, rfl⟩)⟩
      case rest =>
        obtain ⟨rfl, HQ⟩ := hcut
        have hpl := posI_le x out
        have hol := HX.out.2.2.2
        have cx : wc.cell? ⟨(ad.add (i.toNat * 9)).block, (ad.add (i.toNat * 9)).off + 1, none⟩ = some (Value.int .i64 x) := by obtain ⟨q, rfl⟩ := HQ.out; exact hx1
        obtain ⟨hb, hhb⟩ : ∃ b, hasI x out = b := ⟨_, rfl⟩
        have HHB := Lib.hid hhb
        clear hhb
        go_upto_region 9 with fail
        go_cut [60] (fun t60 wx => t60 = .bool (!hb) ∧ Hid (∃ q, wx = w1.drewN q))
        case first =>
          by_cases hjl : posI x out < out.length
          · obtain ⟨g, cap', hv, hg⟩ := oi_read HX.out.1 hjl
            cases hv
            have cg : wc.cell? ⟨g, posI x out, none⟩ = some (Value.int .i64 out[posI x out]) := by obtain ⟨q, rfl⟩ := HQ.out; exact hg
            have j1 : ((posI x out : Nat) : Int) < (out.length : Int) := by omega
            have j0 : (0 : Int) ≤ ((posI x out : Nat) : Int) := by omega
            have j2 : (((posI x out : Nat) : Int) == (out.length : Int)) = false := by rw [beq_eq_false_iff_ne]; omega
            obtain ⟨y, hy⟩ : ∃ y, out[posI x out] = y := ⟨_, rfl⟩
            rw [hy] at cg
            have he : (y == x) = hb := by
              rw [← HHB.out, ← hy]
              unfold hasI
              rw [List.getElem?_eq_getElem hjl, Bool.eq_iff_iff]
              simp
            clear hy
            go_wp2_with fail
            go_region_held3 (fun w' => w'.cell? ⟨(ad.add (i.toNat * 9)).block, (ad.add (i.toNat * 9)).off + 1, none⟩ = some (Value.int .i64 x) ∧ w'.cell? ⟨g, posI x out, none⟩ = some (Value.int .i64 y)) (first | assumption | exact ⟨cx, cg⟩) (fail)
            all_goals
              go_wp2_with fail
              go_meet
              exact ⟨by first | rfl | (rw [← he]; rfl), Lib.hid (by obtain ⟨q, rfl⟩ := HQ.out; exact ⟨q + 1, rfl⟩)⟩
          · have he : false = hb := by
              rw [← HHB.out]
              unfold hasI
              rw [List.getElem?_eq_none (by omega)]
              simp
            subst he
            have hpe : posI x out = out.length := by omega
            have j2 : (((posI x out : Nat) : Int) == (out.length : Int)) = true := by rw [beq_iff_eq]; omega
            go_wp2_with fail
            refine start_ (n := 16) (S := fun _ => True) (ds := []) #[false, false, false, false, false, false, false, false, false, false, false, false, false, false, false, false] (by as_aux_lemma => kernel_rfl) rfl rfl (trivial) (fun hHeld => ?_)
            refine pq_ 0 45 (mb_ 16 1) rfl ?_
            refine pq_ 1 46 (mb_ 16 3) rfl ?_
            refine pq_ 2 47 (mb_ 16 7) rfl ?_
            refine pq_ 3 48 (mb_ 16 15) rfl ?_
            refine pq_ 4 49 (mb_ 16 31) rfl ?_
            refine pu_ 5 50 (mb_ 16 63) rfl ?_
            refine pu_ 6 51 (mb_ 16 127) rfl ?_
            refine pu_ 7 52 (mb_ 16 255) rfl ?_
            refine pu_ 8 53 (mb_ 16 511) rfl ?_
            refine pu_ 9 54 (mb_ 16 1023) rfl ?_
            refine pu_ 10 55 (mb_ 16 2047) rfl ?_
            refine pu_ 11 56 (mb_ 16 4095) rfl ?_
            refine pu_ 12 57 (mb_ 16 8191) rfl ?_
            refine pu_ 13 58 (mb_ 16 16383) rfl ?_
            refine pu_ 14 59 (mb_ 16 32767) rfl ?_
            refine pq_ 15 60 (mb_ 16 65535) rfl ?_
            refine done_ (by as_aux_lemma => kernel_rfl) ?_
            go_wp2_with fail
            go_meet
            exact ⟨rfl, Lib.hid (by obtain ⟨q, rfl⟩ := HQ.out; exact ⟨q + 1, rfl⟩)⟩
        case rest =>
          obtain ⟨rfl, HQ2⟩ := hcut
          cases hb with
          | true =>
            go_wp2_with fail
            go_roundw
            case rel => exact ⟨i + 1, out, by first | rfl | rw [hw], by omega, by omega, Lib.hid (by
              obtain ⟨q, rfl⟩ := HQ2.out
              exact ⟨oi_drewN HX.out.1 q, pw_below_drewN HX.out.2.1 q, by rw [HN.out, insR_pos, if_pos HHB.out], by omega⟩)⟩
            case measure => simp [intOf]; omega
          | false =>
            have cxd : wc.cell? ⟨(ad.add (i.toNat * 9)).block, (ad.add (i.toNat * 9)).off + 1, none⟩ = some (Value.int .i64 x) := by obtain ⟨q, rfl⟩ := HQ2.out; exact hx1
            have HO := Lib.hid (show OwnI wc w.heap.size (.slice oa out.length cap) out by obtain ⟨q, rfl⟩ := HQ2.out; exact oi_drewN HX.out.1 q)
            have HBd := Lib.hid (show Below w.heap.size w wc by obtain ⟨q, rfl⟩ := HQ2.out; exact pw_below_drewN HX.out.2.1 q)
            have p0 : (0 : Int) ≤ ((posI x out : Nat) : Int) := by omega
            have p1 : ((posI x out : Nat) : Int) ≤ (out.length : Int) := by omega
            have p2 : ((posI x out : Nat) : Int) ≤ (cap : Int) := by
              rcases HO.out.2 with ⟨hv, h0⟩ | ⟨g, cap', cur, hv, _, _, hn, _⟩
              · injection hv with ha hn hc; omega
              · injection hv with ha hn' hc; omega
            have p3 : (out.length : Int) ≤ (cap : Int) := by
              rcases HO.out.2 with ⟨hv, h0⟩ | ⟨g, cap', cur, hv, _, _, hn, _⟩
              · injection hv with ha hn hc; omega
              · injection hv with ha hn' hc; omega
            go_wp2_with fail
            have HAD := Lib.hid (World.block_lt_of_cell? wc _ cxd)
            have HLO := Lib.hid (show ∀ k, (Value.slice oa out.length cap).ownBlock = some k → k < wc.heap.size from fun k hk => (HO.out.lt k hk).2)
            have HB9 := Lib.hid (show w.heap.size ≤ wc.heap.size from HBd.out.size)
            have HS0 := Lib.hid (show St8 w wc wc.drew w.heap.size out.length cap oa out (.slice none 0 0) [] ⟨(ad.add (i.toNat * 9)).block, (ad.add (i.toNat * 9)).off + 1, none⟩ x from ⟨oi_drewN HO.out 1, World.ownsRow_nil _ _ _ _, fun k hk => by simp [Value.ownBlock] at hk, below_drew HBd.out, Nat.le_refl _, cxd⟩)
            have hlen1 : (out.take (posI x out)).length ≤ 1000000000 := by rw [List.length_take]; omega
            have hlen2 : (out.drop (posI x out)).length ≤ out.length := by rw [List.length_drop]; omega
            have hlen3 : (out.take (posI x out)).length + (out.drop (posI x out)).length ≤ 1000000000 := by rw [List.length_take, List.length_drop]; omega
            refine start_ (n := 17) (S := (fun w' => w'.cell? ⟨(ad.add (i.toNat * 9)).block, (ad.add (i.toNat * 9)).off + 1, none⟩ = some (Value.int .i64 x))) (ds := []) #[false, false, false, false, false, false, false, false, false, false, false, false, false, false, false, false, false] (by as_aux_lemma => kernel_rfl) rfl rfl (cxd) (fun hHeld => ?_)
            refine pq_ 1 62 (mb_ 17 2) rfl ?_
            refine pq_ 2 63 (mb_ 17 6) rfl ?_
            refine pq_ 3 64 (mb_ 17 14) rfl ?_
            refine pq_ 5 66 (mb_ 17 46) rfl ?_
            refine pq_ 6 67 (mb_ 17 110) rfl ?_
            refine pq_ 7 68 (mb_ 17 238) rfl ?_
            refine pq_ 8 69 (mb_ 17 494) rfl ?_
            refine take_ (i := 9) (N := some 70) (v := ?_) (a' := ?_) #[false, true, true, true, false, true, true, true, true, true, false, false, false, false, false, false, false] rfl rfl (by as_aux_lemma => kernel_rfl) (fun _ _ _ h => h) (Or.inl ⟨by rfl, ?_⟩) hHeld ?_ ?_
            rotate_left
            ·intro w' s2
             go_simp
             with_reducible rfl
            rotate_left
            ·simp only [Act.put, List.setIfInBounds_toArray, List.set_cons_zero, List.set_cons_succ, i64_w, i32_w]
             rfl
            refine pq_ 12 73 (mb_ 17 5102) rfl ?_
            refine pq_ 13 74 (mb_ 17 13294) rfl ?_
            refine pq_ 14 75 (mb_ 17 29678) rfl ?_
            refine two_ (i := 0) (j := 10) (Ni := some 61) (Nj := some 71) (mb_ 17 29679) (mb_ 17 30702) rfl rfl rfl rfl (by as_aux_lemma => kernel_rfl) (by decide) (by decide) (fun K hK => ?_) (fun K hK => ?_)
            ·skip
             refine value_ (v := .slice (some ⟨(wc.drew).heap.size, 0, none⟩) 0 0) (w1 := (wc.drew).alloc (.cells #[] 2)) (by rfl) rfl ?_ ?_
             ·first | (go_simp; done) | (go_simp; rfl)
             have HS1 := Lib.hid (HS0.out.new HB9.out)
             refine hK.out _ _ (HS1.out.c) (fun hHeld2 => ?_)
             clear hK K hHeld
             have hHeld := hHeld2
             clear hHeld2
             refine norm_ (a' := ?_) ?_ ?_
             rotate_left
             ·show Act.put _ (some 61) _ = _
              simp only [Act.put, List.setIfInBounds_toArray, List.set_cons_zero, List.set_cons_succ, i64_w, i32_w]
              rfl
             refine two_ (i := 4) (j := 10) (Ni := some 65) (Nj := some 71) (mb_ 17 29695) (mb_ 17 30703) rfl rfl rfl rfl (by as_aux_lemma => kernel_rfl) (by decide) (by decide) (fun K hK => ?_) (fun K hK => ?_)
             ·skip
              refine i_app_step rfl (.tmp 61) (.tmp 64) rfl rfl w.heap.size (.slice (some ⟨(wc.drew).heap.size, 0, none⟩) 0 0) _ [] (out.take (posI x out)) rfl rfl HS1.out.vv (i_src_front (B := w.heap.size) (n := out.length) HS1.out.o _ hpl) (Nat.le_trans HB9.out HS1.out.sz) (by simp only [List.length_append, List.length_nil, List.length_cons]; omega) ?_
              intro v2 W2 h2 g2 a2
              have HS2 := Lib.hid (HS1.out.app HB9.out HLO.out HAD.out h2 g2 a2)
              clear h2 g2 a2
              refine hK.out _ _ (HS2.out.c) (fun hHeld2 => ?_)
              clear hK K hHeld
              have hHeld := hHeld2
              clear hHeld2
              refine norm_ (a' := ?_) ?_ ?_
              rotate_left
              ·show Act.put _ (some 65) _ = _
               simp only [Act.put, List.setIfInBounds_toArray, List.set_cons_zero, List.set_cons_succ, i64_w, i32_w]
               rfl
              refine one_ (i := 10) (N := some 71) (mb_ 17 30719) rfl rfl (by as_aux_lemma => kernel_rfl) (by decide) (fun K hK => ?_)
              refine value_ (v := .slice (some ⟨(W2).heap.size, 0, none⟩) 1 1) (w1 := (W2).alloc (.cells #[.int .i64 x] 2)) (by rfl) rfl ?_ ?_
              ·first | (go_simp; done) | (go_simp; rfl)
              have HS3 := Lib.hid (HS2.out.alloc HB9.out (.cells #[.int .i64 x] 2))
              have HC3 := Lib.hid (i_cell_new (W2) x)
              refine hK.out _ _ (HS3.out.c) (fun hHeld2 => ?_)
              clear hK K hHeld
              have hHeld := hHeld2
              clear hHeld2
              refine norm_ (a' := ?_) ?_ ?_
              rotate_left
              ·show Act.put _ (some 71) _ = _
               simp only [Act.put, List.setIfInBounds_toArray, List.set_cons_zero, List.set_cons_succ, i64_w, i32_w]
               rfl
              refine one_ (i := 11) (N := some 72) (mb_ 17 32767) rfl rfl (by as_aux_lemma => kernel_rfl) (by decide) (fun K hK => ?_)
              refine i_app_step rfl (.tmp 65) (.tmp 71) rfl rfl w.heap.size (v2) _ ([] ++ (out.take (posI x out))) [x] rfl rfl HS3.out.vv (i_src_one HC3.out) (Nat.le_trans HB9.out HS3.out.sz) (by simp only [List.length_append, List.length_nil, List.length_cons]; omega) ?_
              intro v4 W4 h4 g4 a4
              have HS4 := Lib.hid (HS3.out.app HB9.out HLO.out HAD.out h4 g4 a4)
              clear h4 g4 a4
              refine hK.out _ _ (HS4.out.c) (fun hHeld2 => ?_)
              clear hK K hHeld
              have hHeld := hHeld2
              clear hHeld2
              refine norm_ (a' := ?_) ?_ ?_
              rotate_left
              ·show Act.put _ (some 72) _ = _
               simp only [Act.put, List.setIfInBounds_toArray, List.set_cons_zero, List.set_cons_succ, i64_w, i32_w]
               rfl
              refine one_ (i := 15) (N := some 76) (mb_ 17 65535) rfl rfl (by as_aux_lemma => kernel_rfl) (by decide) (fun K hK => ?_)
              refine i_app_step rfl (.tmp 72) (.tmp 75) rfl rfl w.heap.size (v4) _ (([] ++ (out.take (posI x out))) ++ [x]) (out.drop (posI x out)) rfl rfl HS4.out.vv (i_src_back (B := w.heap.size) (n := out.length) HS4.out.o rfl _ hpl) (Nat.le_trans HB9.out HS4.out.sz) (by simp only [List.length_append, List.length_nil, List.length_cons]; omega) ?_
              intro v5 W5 h5 g5 a5
              have HS5 := Lib.hid (HS4.out.app HB9.out HLO.out HAD.out h5 g5 a5)
              clear h5 g5 a5
              refine hK.out _ _ (HS5.out.c) (fun hHeld2 => ?_)
              clear hK K hHeld
              have hHeld := hHeld2
              clear hHeld2
              refine norm_ (a' := ?_) ?_ ?_
              rotate_left
              ·show Act.put _ (some 76) _ = _
               simp only [Act.put, List.setIfInBounds_toArray, List.set_cons_zero, List.set_cons_succ, i64_w, i32_w]
               rfl
              refine pq_ 16 3 (mb_ 17 131071) rfl ?_
              refine done_ (by as_aux_lemma => kernel_rfl) ?_
              go_wp2
              go_roundw
              case rel => exact ⟨i + 1, insR x out, by first | rfl | rw [hw], by omega, by omega, Lib.hid ⟨ins_own HHB.out HS5.out.vv, HS5.out.b, HN.out.symm, by have := insR_len x out; omega⟩⟩
              case measure => simp [intOf]; omega
             ·skip
              refine value_ (v := .slice (some ⟨((wc.drew).alloc (.cells #[] 2)).heap.size, 0, none⟩) 1 1) (w1 := ((wc.drew).alloc (.cells #[] 2)).alloc (.cells #[.int .i64 x] 2)) (by rfl) rfl ?_ ?_
              ·first | (go_simp; done) | (go_simp; rfl)
              have HS2 := Lib.hid (HS1.out.alloc HB9.out (.cells #[.int .i64 x] 2))
              have HC2 := Lib.hid (i_cell_new ((wc.drew).alloc (.cells #[] 2)) x)
              refine hK.out _ _ (HS2.out.c) (fun hHeld2 => ?_)
              clear hK K hHeld
              have hHeld := hHeld2
              clear hHeld2
              refine norm_ (a' := ?_) ?_ ?_
              rotate_left
              ·show Act.put _ (some 71) _ = _
               simp only [Act.put, List.setIfInBounds_toArray, List.set_cons_zero, List.set_cons_succ, i64_w, i32_w]
               rfl
              refine one_ (i := 4) (N := some 65) (mb_ 17 30719) rfl rfl (by as_aux_lemma => kernel_rfl) (by decide) (fun K hK => ?_)
              refine i_app_step rfl (.tmp 61) (.tmp 64) rfl rfl w.heap.size (.slice (some ⟨(wc.drew).heap.size, 0, none⟩) 0 0) _ [] (out.take (posI x out)) rfl rfl HS2.out.vv (i_src_front (B := w.heap.size) (n := out.length) HS2.out.o _ hpl) (Nat.le_trans HB9.out HS2.out.sz) (by simp only [List.length_append, List.length_nil, List.length_cons]; omega) ?_
              intro v3 W3 h3 g3 a3
              have HS3 := Lib.hid (HS2.out.app HB9.out HLO.out HAD.out h3 g3 a3)
              have HC3 := Lib.hid (i_cell_app HC2.out g3 (by simp [Value.ownBlock, World.size_alloc]))
              clear h3 g3 a3
              refine hK.out _ _ (HS3.out.c) (fun hHeld2 => ?_)
              clear hK K hHeld
              have hHeld := hHeld2
              clear hHeld2
              refine norm_ (a' := ?_) ?_ ?_
              rotate_left
              ·show Act.put _ (some 65) _ = _
               simp only [Act.put, List.setIfInBounds_toArray, List.set_cons_zero, List.set_cons_succ, i64_w, i32_w]
               rfl
              refine one_ (i := 11) (N := some 72) (mb_ 17 32767) rfl rfl (by as_aux_lemma => kernel_rfl) (by decide) (fun K hK => ?_)
              refine i_app_step rfl (.tmp 65) (.tmp 71) rfl rfl w.heap.size (v3) _ ([] ++ (out.take (posI x out))) [x] rfl rfl HS3.out.vv (i_src_one HC3.out) (Nat.le_trans HB9.out HS3.out.sz) (by simp only [List.length_append, List.length_nil, List.length_cons]; omega) ?_
              intro v4 W4 h4 g4 a4
              have HS4 := Lib.hid (HS3.out.app HB9.out HLO.out HAD.out h4 g4 a4)
              clear h4 g4 a4
              refine hK.out _ _ (HS4.out.c) (fun hHeld2 => ?_)
              clear hK K hHeld
              have hHeld := hHeld2
              clear hHeld2
              refine norm_ (a' := ?_) ?_ ?_
              rotate_left
              ·show Act.put _ (some 72) _ = _
               simp only [Act.put, List.setIfInBounds_toArray, List.set_cons_zero, List.set_cons_succ, i64_w, i32_w]
               rfl
              refine one_ (i := 15) (N := some 76) (mb_ 17 65535) rfl rfl (by as_aux_lemma => kernel_rfl) (by decide) (fun K hK => ?_)
              refine i_app_step rfl (.tmp 72) (.tmp 75) rfl rfl w.heap.size (v4) _ (([] ++ (out.take (posI x out))) ++ [x]) (out.drop (posI x out)) rfl rfl HS4.out.vv (i_src_back (B := w.heap.size) (n := out.length) HS4.out.o rfl _ hpl) (Nat.le_trans HB9.out HS4.out.sz) (by simp only [List.length_append, List.length_nil, List.length_cons]; omega) ?_
              intro v5 W5 h5 g5 a5
              have HS5 := Lib.hid (HS4.out.app HB9.out HLO.out HAD.out h5 g5 a5)
              clear h5 g5 a5
              refine hK.out _ _ (HS5.out.c) (fun hHeld2 => ?_)
              clear hK K hHeld
              have hHeld := hHeld2
              clear hHeld2
              refine norm_ (a' := ?_) ?_ ?_
              rotate_left
              ·show Act.put _ (some 76) _ = _
               simp only [Act.put, List.setIfInBounds_toArray, List.set_cons_zero, List.set_cons_succ, i64_w, i32_w]
               rfl
              refine pq_ 16 3 (mb_ 17 131071) rfl ?_
              refine done_ (by as_aux_lemma => kernel_rfl) ?_
              go_wp2
              go_roundw
              case rel => exact ⟨i + 1, insR x out, by first | rfl | rw [hw], by omega, by omega, Lib.hid ⟨ins_own HHB.out HS5.out.vv, HS5.out.b, HN.out.symm, by have := insR_len x out; omega⟩⟩
              case measure => simp [intOf]; omega
            ·skip
             refine value_ (v := .slice (some ⟨(wc.drew).heap.size, 0, none⟩) 1 1) (w1 := (wc.drew).alloc (.cells #[.int .i64 x] 2)) (by rfl) rfl ?_ ?_
             ·first | (go_simp; done) | (go_simp; rfl)
             have HS1 := Lib.hid (HS0.out.alloc HB9.out (.cells #[.int .i64 x] 2))
             have HC1 := Lib.hid (i_cell_new (wc.drew) x)
             refine hK.out _ _ (HS1.out.c) (fun hHeld2 => ?_)
             clear hK K hHeld
             have hHeld := hHeld2
             clear hHeld2
             refine norm_ (a' := ?_) ?_ ?_
             rotate_left
             ·show Act.put _ (some 71) _ = _
              simp only [Act.put, List.setIfInBounds_toArray, List.set_cons_zero, List.set_cons_succ, i64_w, i32_w]
              rfl
             refine one_ (i := 0) (N := some 61) (mb_ 17 30703) rfl rfl (by as_aux_lemma => kernel_rfl) (by decide) (fun K hK => ?_)
             refine value_ (v := .slice (some ⟨((wc.drew).alloc (.cells #[.int .i64 x] 2)).heap.size, 0, none⟩) 0 0) (w1 := ((wc.drew).alloc (.cells #[.int .i64 x] 2)).alloc (.cells #[] 2)) (by rfl) rfl ?_ ?_
             ·first | (go_simp; done) | (go_simp; rfl)
             have HS2 := Lib.hid (HS1.out.new HB9.out)
             have HC2 := Lib.hid (i_cell_al HC1.out (.cells #[] 2))
             refine hK.out _ _ (HS2.out.c) (fun hHeld2 => ?_)
             clear hK K hHeld
             have hHeld := hHeld2
             clear hHeld2
             refine norm_ (a' := ?_) ?_ ?_
             rotate_left
             ·show Act.put _ (some 61) _ = _
              simp only [Act.put, List.setIfInBounds_toArray, List.set_cons_zero, List.set_cons_succ, i64_w, i32_w]
              rfl
             refine one_ (i := 4) (N := some 65) (mb_ 17 30719) rfl rfl (by as_aux_lemma => kernel_rfl) (by decide) (fun K hK => ?_)
             refine i_app_step rfl (.tmp 61) (.tmp 64) rfl rfl w.heap.size (.slice (some ⟨((wc.drew).alloc (.cells #[.int .i64 x] 2)).heap.size, 0, none⟩) 0 0) _ [] (out.take (posI x out)) rfl rfl HS2.out.vv (i_src_front (B := w.heap.size) (n := out.length) HS2.out.o _ hpl) (Nat.le_trans HB9.out HS2.out.sz) (by simp only [List.length_append, List.length_nil, List.length_cons]; omega) ?_
             intro v3 W3 h3 g3 a3
             have HS3 := Lib.hid (HS2.out.app HB9.out HLO.out HAD.out h3 g3 a3)
             have HC3 := Lib.hid (i_cell_app HC2.out g3 (by simp [Value.ownBlock, World.size_alloc]))
             clear h3 g3 a3
             refine hK.out _ _ (HS3.out.c) (fun hHeld2 => ?_)
             clear hK K hHeld
             have hHeld := hHeld2
             clear hHeld2
             refine norm_ (a' := ?_) ?_ ?_
             rotate_left
             ·show Act.put _ (some 65) _ = _
              simp only [Act.put, List.setIfInBounds_toArray, List.set_cons_zero, List.set_cons_succ, i64_w, i32_w]
              rfl
             refine one_ (i := 11) (N := some 72) (mb_ 17 32767) rfl rfl (by as_aux_lemma => kernel_rfl) (by decide) (fun K hK => ?_)
             refine i_app_step rfl (.tmp 65) (.tmp 71) rfl rfl w.heap.size (v3) _ ([] ++ (out.take (posI x out))) [x] rfl rfl HS3.out.vv (i_src_one HC3.out) (Nat.le_trans HB9.out HS3.out.sz) (by simp only [List.length_append, List.length_nil, List.length_cons]; omega) ?_
             intro v4 W4 h4 g4 a4
             have HS4 := Lib.hid (HS3.out.app HB9.out HLO.out HAD.out h4 g4 a4)
             clear h4 g4 a4
             refine hK.out _ _ (HS4.out.c) (fun hHeld2 => ?_)
             clear hK K hHeld
             have hHeld := hHeld2
             clear hHeld2
             refine norm_ (a' := ?_) ?_ ?_
             rotate_left
             ·show Act.put _ (some 72) _ = _
              simp only [Act.put, List.setIfInBounds_toArray, List.set_cons_zero, List.set_cons_succ, i64_w, i32_w]
              rfl
             refine one_ (i := 15) (N := some 76) (mb_ 17 65535) rfl rfl (by as_aux_lemma => kernel_rfl) (by decide) (fun K hK => ?_)
             refine i_app_step rfl (.tmp 72) (.tmp 75) rfl rfl w.heap.size (v4) _ (([] ++ (out.take (posI x out))) ++ [x]) (out.drop (posI x out)) rfl rfl HS4.out.vv (i_src_back (B := w.heap.size) (n := out.length) HS4.out.o rfl _ hpl) (Nat.le_trans HB9.out HS4.out.sz) (by simp only [List.length_append, List.length_nil, List.length_cons]; omega) ?_
             intro v5 W5 h5 g5 a5
             have HS5 := Lib.hid (HS4.out.app HB9.out HLO.out HAD.out h5 g5 a5)
             clear h5 g5 a5
             refine hK.out _ _ (HS5.out.c) (fun hHeld2 => ?_)
             clear hK K hHeld
             have hHeld := hHeld2
             clear hHeld2
             refine norm_ (a' := ?_) ?_ ?_
             rotate_left
             ·show Act.put _ (some 76) _ = _
              simp only [Act.put, List.setIfInBounds_toArray, List.set_cons_zero, List.set_cons_succ, i64_w, i32_w]
              rfl
             refine pq_ 16 3 (mb_ 17 131071) rfl ?_
             refine done_ (by as_aux_lemma => kernel_rfl) ?_
             go_wp2
             go_roundw
             case rel => exact ⟨i + 1, insR x out, by first | rfl | rw [hw], by omega, by omega, Lib.hid ⟨ins_own HHB.out HS5.out.vv, HS5.out.b, HN.out.symm, by have := insR_len x out; omega⟩⟩
             case measure => simp [intOf]; omega
    · obtain rfl : i = l.length := by omega
      have hX := HX.out.2.2.1
      rw [show ((l.length : Int)).toNat = l.length from rfl, List.take_length] at hX
      have HH := Lib.hid hX
      clear hX
      go_wp2_with fail
      go_ret
      refine ⟨_, rfl, ?_, HX.out.2.1⟩
      rw [← show out = openP l from HH.out]
      exact HX.out.1
def outlawref23_Open.f (l : List S30) : Option (List Int) := if l.length ≤ 1000000000 then some (openP l) else none
theorem outlawref23_Open.calls (A0 : Option Addr) (c0 : Nat) (l0 : List S30) (r : List Int) (w : World) (hr0 : Kd.C k30 w A0 l0.length l0) (hc0 : l0.length ≤ c0) (h : outlawref23_Open.f l0 = some r) :
    Calls Tryd.prog 26 #[.slice A0 l0.length c0] w fun e w' => ∃ v0_ : Value, e = .returned (v0_) ∧ Kd.R (Kd.int .i64) 2 w' w.heap.size (fun _ => True) v0_ r ∧ Below w.heap.size w w' := by
  unfold outlawref23_Open.f at h
  by_cases hk : l0.length ≤ 1000000000
  · rw [if_pos hk] at h
    obtain rfl := Option.some.inj h
    refine (ropen_any A0 c0 l0 w hr0 hk).mono ?_
    rintro e w' ⟨v, rfl, ho, hb⟩
    exact ⟨v, rfl, Kd.R_of_own ho (fun _ _ => trivial), hb⟩
  · rw [if_neg hk] at h
    cases h
end Go.Proofs.YtlmhgnkkdjpkcaaDoorG
