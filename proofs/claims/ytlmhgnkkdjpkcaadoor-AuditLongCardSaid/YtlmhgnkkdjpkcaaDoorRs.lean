/- The contract of outlawref18.Rising: each word once, rising. -/
import Derived.Test.YtlmhgnkkdjpkcaaDoorWm
import Derived.Test.YtlmhgnkkdjpkcaaDoorRa
import Derived.Deep.RegionHeld3
import Derived.Deep.RegionHeldLaw
import Derived.Deep.CutBlock
set_option linter.unusedVariables false
set_option linter.unusedSimpArgs false
namespace Go.Proofs.YtlmhgnkkdjpkcaaDoorG
open Go.RowKit Go.Proofs.YtlmhgnkkdjpkcaaDoor.PA Go.Proofs.YtlmhgnkkdjpkcaaDoorW.PrintWords Go.Proofs.YtlmhgnkkdjpkcaaDoorW.PrintLast Go.Proofs.YtlmhgnkkdjpkcaaDoorW.PrintMore Go.Proofs.YtlmhgnkkdjpkcaaDoorM
def riseStep (out : List ByteArray) (x : ByteArray) : List ByteArray := if hasS x out = true then out else insAt x out
def riseP (l : List ByteArray) : List ByteArray := l.foldl riseStep []
theorem riseStep_length {out : List ByteArray} {x : ByteArray} : (riseStep out x).length ≤ out.length + 1 := by
  unfold riseStep
  split
  · omega
  · rw [insAt_length]; omega
theorem riseP_snoc (l : List ByteArray) (x : ByteArray) : riseP (l ++ [x]) = riseStep (riseP l) x := by unfold riseP; rw [List.foldl_append]; rfl
theorem eq_decide (a b : ByteArray) : (a.toList == b.toList) = decide (a = b) := by
  by_cases h : a = b
  · subst h; simp
  · rw [decide_eq_false h]
    simpa using fun e => h (toList_inj e)
theorem take_snocS (l : List ByteArray) (i : Int) (h0 : 0 ≤ i) (hi : i < (l.length : Int)) : l.take (i + 1).toNat = l.take i.toNat ++ [rdOf ByteArray.empty l i] := by
  have hlt : i.toNat < l.length := by omega
  rw [show (i + 1).toNat = i.toNat + 1 by omega, List.take_succ_eq_append_getElem hlt]
  congr 2
  unfold rdOf
  rw [List.getD_eq_getElem?_getD, List.getElem?_eq_getElem hlt]
  rfl
theorem own_read {w : World} {B : Nat} {v : Value} {l : List ByteArray} (h : OwnS w B v l) {j : Nat} (hj : j < l.length) : ∃ g cap, v = .slice (some ⟨g, 0, none⟩) l.length cap ∧ w.cell? ⟨g, j, none⟩ = some (.string l[j]) := by
  rcases h.2 with ⟨_, h0⟩ | ⟨g, cap, cur, hv, hb, hg, hc⟩
  · omega
  · refine ⟨g, cap, hv, ?_⟩
    have := own_cells (hv ▸ h) j (.string l[j]) (by rw [List.getElem?_map, List.getElem?_eq_getElem hj]; rfl)
    rw [Nat.zero_add] at this; exact this
theorem own_form {w : World} {B : Nat} {v : Value} {l : List ByteArray} (h : OwnS w B v l) : ∃ a cap, v = .slice a l.length cap := by
  rcases h.2 with ⟨hv, h0⟩ | ⟨g, cap, cur, hv, _⟩
  · exact ⟨none, 0, by rw [hv, h0]⟩
  · exact ⟨_, cap, hv⟩
theorem rise_own {out : List ByteArray} {x : ByteArray} {W : World} {B : Nat} {v : Value} (hb : hasS x out = false) (h : OwnS W B v ((([] ++ out.take (posS x out)) ++ [x]) ++ out.drop (posS x out))) : OwnS W B v (riseStep out x) := by
  unfold riseStep
  rw [if_neg (by rw [hb]; decide)]
  unfold insAt
  simpa using h
theorem rise_rising {out : List ByteArray} {x : ByteArray} (hb : hasS x out = false) (h : Rising out) : Rising (riseStep out x) := by
  unfold riseStep
  rw [if_neg (by rw [hb]; decide)]
  exact rising_ins h hb
/-- The state between the makings and appends of Rising: the row that was, the new one, the word. -/
structure St9 (w wc W : World) (B n cap : Nat) (oa : Option Addr) (out : List ByteArray) (v : Value) (l : List ByteArray) (p : Addr) (x : ByteArray) : Prop where
  o : OwnS W B (.slice oa n cap) out
  vv : OwnS W B v l
  far : ∀ k, v.ownBlock = some k → wc.heap.size ≤ k
  b : Below B w W
  sz : wc.heap.size ≤ W.heap.size
  c : W.cell? p = some (.string x)
section
variable {w wc W W' : World} {B n cap : Nat} {oa : Option Addr} {out : List ByteArray} {v v' : Value} {l l' : List ByteArray} {p : Addr} {x : ByteArray}
theorem St9.alloc (h : St9 w wc W B n cap oa out v l p x) (hB : B ≤ wc.heap.size) (o : Obj) : St9 w wc (W.alloc o) B n cap oa out v l p x :=
  ⟨own_alloc h.o o, own_alloc h.vv o, h.far, h.b.alloc (Nat.le_trans hB h.sz) o, by rw [World.size_alloc]; have := h.sz; omega, cell_al h.c o⟩
theorem St9.new (h : St9 w wc W B n cap oa out v l p x) (hB : B ≤ wc.heap.size) : St9 w wc (W.alloc (.cells #[] 9)) B n cap oa out (.slice (some ⟨W.heap.size, 0, none⟩) 0 0) [] p x :=
  ⟨own_alloc h.o _, own_empty W B (Nat.le_trans hB h.sz), fun k hk => by simp [Value.ownBlock] at hk; have := h.sz; omega, h.b.alloc (Nat.le_trans hB h.sz) _, by rw [World.size_alloc]; have := h.sz; omega, cell_al h.c _⟩
theorem St9.app (h : St9 w wc W B n cap oa out v l p x) (hB : B ≤ wc.heap.size) (hlt : ∀ k, (Value.slice oa n cap).ownBlock = some k → k < wc.heap.size) (hp : p.block < wc.heap.size)
    (ho : OwnS W' B v' l') (g : W.grownBy W' v.ownBlock) (a : v'.ownBlock = v.ownBlock ∨ v'.ownBlock = some W.heap.size) : St9 w wc W' B n cap oa out v' l' p x := by
  refine ⟨own_grown (l0 := []) h.o g ?_, ho, ?_, h.b.grown g (Nat.le_trans hB h.sz) fun k hk => Nat.le_trans hB (h.far k hk), Nat.le_trans h.sz g.size, ?_⟩
  · cases e : (Value.slice oa n cap).ownBlock with
    | none => exact .inl rfl
    | some k =>
      right
      intro e2
      have h1 := hlt k e
      have h2 := h.far k e2.symm
      omega
  · intro k hk
    rcases a with a | a
    · exact h.far k (a ▸ hk)
    · rw [a] at hk
      cases hk
      exact h.sz
  · refine (g.cell_far p (World.block_lt_of_cell? W _ h.c) ?_).trans h.c
    intro e
    have := h.far _ e.symm
    omega
theorem src_one {b : Nat} (h : W.cell? ⟨b, 0, none⟩ = some (.string x)) : SrcS W (.slice (some ⟨b, 0, none⟩) 1 1) [x] := by
  refine .inr ⟨⟨b, 0, none⟩, 1, rfl, fun j u hu => ?_⟩
  cases j with
  | zero =>
    cases hu
    rw [addr_add]
    exact h
  | succ j => simp at hu
theorem cell_new (W : World) (x : ByteArray) : (W.alloc (.cells #[.string x] 9)).cell? ⟨W.heap.size, 0, none⟩ = some (.string x) := (Blk.new W [.string x] 9).cell 0
theorem cell_app {b : Nat} (h : W.cell? ⟨b, 0, none⟩ = some (.string x)) (g : W.grownBy W' v.ownBlock) (hne : v.ownBlock ≠ some b) : W'.cell? ⟨b, 0, none⟩ = some (.string x) :=
  (g.cell_far ⟨b, 0, none⟩ (World.block_lt_of_cell? W _ h) (fun e => hne e.symm)).trans h
end
set_option maxHeartbeats 4000000 in
set_option maxRecDepth 100000 in
theorem rise_any (A : Option Addr) (c : Nat) (l : List ByteArray) (w : World) (hC : Kd.C Kd.string w A l.length l) (hl : l.length ≤ 1000000000) :
    Calls Tryd.prog 43 #[.slice A l.length c] w fun e w' => ∃ v, e = .returned v ∧ OwnS w' w.heap.size v (riseP l) ∧ Below w.heap.size w w' := by
  have HC := Lib.hid hC
  have HLEN := Lib.hid hl
  clear hC
  go_enter Tryd.func43, Tryd.ntmps43
  go_wp2_with fail
  go_loopw [3, 4] (fun v v4 wr => ∃ (i : Int) (out : List ByteArray), v4 = .int .i64 i ∧ 0 ≤ i ∧ i ≤ l.length ∧ Hid (OwnS wr w.heap.size v out ∧ Below w.heap.size w wr ∧ out = riseP (l.take i.toNat) ∧ Rising out ∧ out.length ≤ i.toNat))
    (fun _ v4 _ => l.length - (intOf v4).toNat)
  case atStart => exact ⟨0, [], rfl, by omega, by omega, Lib.hid ⟨World.ownsRow_nil _ _ _ _, Below.refl _ _, rfl, List.Pairwise.nil, by simp⟩⟩
  case round =>
    obtain ⟨i, out, rfl, h0, hi, HX⟩ := hrel
    obtain ⟨oa, cap, rfl⟩ := own_form HX.out.1
    obtain ⟨w1, rfl⟩ : ∃ w1, w1 = wr := ⟨wr, rfl⟩
    by_cases hlt : i < (l.length : Int)
    · have HD := Lib.hid (take_snocS l i h0 hlt)
      have HCr := Lib.hid (Kd.C_below HC.out HX.out.2.1)
      obtain ⟨ad, e184, hx0⟩ := Kd.at_string HCr.out i h0 hlt
      subst e184
      obtain ⟨x, hx⟩ : ∃ x, rdOf ByteArray.empty l i = x := ⟨_, rfl⟩
      rw [hx] at hx0
      rw [hx] at HD
      clear hx
      go_upto_block 2 with fail
      go_cut [5] (fun t5 wx => t5 = .int .i64 (posS x out : Nat) ∧ Hid (∃ q, wx = w1.drewN q))
      case first =>
        go_wp2_with fail
        go_loopw [5] (fun v5 wr' => ∃ (j : Nat), v5 = .int .i64 j ∧ j ≤ posS x out ∧ Hid (∃ q, wr' = w1.drewN q))
          (fun v5 _ => (posS x out + 1) - (intOf v5).toNat)
        case atStart => exact ⟨0, rfl, Nat.zero_le _, Lib.hid ⟨0, rfl⟩⟩
        case round =>
          obtain ⟨j, rfl, hj, HQ⟩ := hrel
          have hpl := posS_le x out
          have hol := HX.out.2.2.2.2
          have hll := HLEN.out
          by_cases hjl : j < out.length
          · obtain ⟨g, cap', hv, hg⟩ := own_read HX.out.1 hjl
            cases hv
            have cx : wr.cell? (ad.add i.toNat) = some (Value.string x) := by obtain ⟨q, rfl⟩ := HQ.out; exact hx0
            have cg : wr.cell? ⟨g, j, none⟩ = some (Value.string out[j]) := by obtain ⟨q, rfl⟩ := HQ.out; exact hg
            have j1 : (j : Int) < (out.length : Int) := by omega
            have j0 : (0 : Int) ≤ (j : Int) := by omega
            by_cases hp : j < posS x out
            · have hless : Op.bytesLess out[j].toList x.toList = true := posS_low hp hjl
              have hw := wrap_nat hjl (by omega)
              go_wp2_with fail
              go_region_held3 (fun w' => w'.cell? (ad.add i.toNat) = some (Value.string x) ∧ w'.cell? ⟨g, j, none⟩ = some (Value.string out[j])) (first | assumption | exact ⟨cx, cg⟩) (fail)
              all_goals
                go_wp2
                go_roundw
                case rel => exact ⟨j + 1, by first | rfl | rw [hw], by omega, Lib.hid (by obtain ⟨q, rfl⟩ := HQ.out; exact ⟨q + 1, rfl⟩)⟩
                case measure => simp [intOf]; omega
            · obtain rfl : j = posS x out := by omega
              have hless : Op.bytesLess out[posS x out].toList x.toList = false := posS_at hjl
              go_wp2_with fail
              go_region_held3 (fun w' => w'.cell? (ad.add i.toNat) = some (Value.string x) ∧ w'.cell? ⟨g, posS x out, none⟩ = some (Value.string out[posS x out])) (first | assumption | exact ⟨cx, cg⟩) (fail)
              all_goals
                go_wp2_with fail
                go_meet
                exact ⟨rfl, Lib.hid (by obtain ⟨q, rfl⟩ := HQ.out; exact ⟨q + 1, rfl⟩)⟩
          · obtain rfl : j = posS x out := by omega
            have hnl : ¬ ((posS x out : Int) < (out.length : Int)) := by omega
            have hnl2 : decide ((posS x out : Int) < (out.length : Int)) = false := decide_eq_false hnl
            go_wp2_with fail
            refine start_ (n := 15) (S := fun _ => True) (ds := []) #[false, false, false, false, false, false, false, false, false, false, false, false, false, false, false] (by kernel_rfl) rfl rfl (trivial) (fun hHeld => ?_)
            refine pq_ 0 12 (mb_ 15 1) rfl ?_
            refine pq_ 1 13 (mb_ 15 3) rfl ?_
            refine pq_ 2 14 (mb_ 15 7) rfl ?_
            refine pq_ 3 15 (mb_ 15 15) rfl ?_
            refine pq_ 4 16 (mb_ 15 31) rfl ?_
            refine pu_ 5 17 (mb_ 15 63) rfl ?_
            refine pu_ 6 18 (mb_ 15 127) rfl ?_
            refine pu_ 7 19 (mb_ 15 255) rfl ?_
            refine pu_ 8 20 (mb_ 15 511) rfl ?_
            refine pu_ 9 21 (mb_ 15 1023) rfl ?_
            refine pu_ 10 22 (mb_ 15 2047) rfl ?_
            refine pu_ 11 23 (mb_ 15 4095) rfl ?_
            refine pu_ 12 24 (mb_ 15 8191) rfl ?_
            refine pu_ 13 25 (mb_ 15 16383) rfl ?_
            refine pq_ 14 26 (mb_ 15 32767) rfl ?_
            refine done_ (by kernel_rfl) ?_
            go_wp2_with fail
            go_meet
            exact ⟨rfl, Lib.hid (by obtain ⟨q, rfl⟩ := HQ.out; exact ⟨q + 1, rfl⟩)⟩
      case rest =>
        obtain ⟨rfl, HQ⟩ := hcut
        have hpl := posS_le x out
        have hol := HX.out.2.2.2.2
        have hll := HLEN.out
        have cx : wc.cell? (ad.add i.toNat) = some (Value.string x) := by obtain ⟨q, rfl⟩ := HQ.out; exact hx0
        obtain ⟨hb, hhb⟩ : ∃ b, hasS x out = b := ⟨_, rfl⟩
        have HHB := Lib.hid hhb
        clear hhb
        go_upto_region 8 with fail
        go_cut [43] (fun t43 wx => t43 = .bool hb ∧ Hid (∃ q, wx = w1.drewN q))
        case first =>
          by_cases hjl : posS x out < out.length
          · obtain ⟨g, cap', hv, hg⟩ := own_read HX.out.1 hjl
            cases hv
            have cg : wc.cell? ⟨g, posS x out, none⟩ = some (Value.string out[posS x out]) := by obtain ⟨q, rfl⟩ := HQ.out; exact hg
            have j1 : ((posS x out : Nat) : Int) < (out.length : Int) := by omega
            have j0 : (0 : Int) ≤ ((posS x out : Nat) : Int) := by omega
            have he : (out[posS x out].toList == x.toList) = hb := by
              rw [← HHB.out, eq_decide]
              unfold hasS
              rw [List.getElem?_eq_getElem hjl]
              simp
            go_wp2_with fail
            go_region_held3 (fun w' => w'.cell? (ad.add i.toNat) = some (Value.string x) ∧ w'.cell? ⟨g, posS x out, none⟩ = some (Value.string out[posS x out])) (first | assumption | exact ⟨cx, cg⟩) (fail)
            all_goals
              go_wp2_with fail
              go_meet
              exact ⟨rfl, Lib.hid (by obtain ⟨q, rfl⟩ := HQ.out; exact ⟨q + 1, rfl⟩)⟩
          · have hnl : ¬ ((posS x out : Int) < (out.length : Int)) := by omega
            have hnl2 : decide ((posS x out : Int) < (out.length : Int)) = false := decide_eq_false hnl
            have he : false = hb := by
              rw [← HHB.out]
              unfold hasS
              rw [List.getElem?_eq_none (by omega)]
              simp
            subst he
            go_wp2_with fail
            refine start_ (n := 15) (S := fun _ => True) (ds := []) #[false, false, false, false, false, false, false, false, false, false, false, false, false, false, false] (by kernel_rfl) rfl rfl (trivial) (fun hHeld => ?_)
            refine pq_ 0 29 (mb_ 15 1) rfl ?_
            refine pq_ 1 30 (mb_ 15 3) rfl ?_
            refine pq_ 2 31 (mb_ 15 7) rfl ?_
            refine pq_ 3 32 (mb_ 15 15) rfl ?_
            refine pq_ 4 33 (mb_ 15 31) rfl ?_
            refine pu_ 5 34 (mb_ 15 63) rfl ?_
            refine pu_ 6 35 (mb_ 15 127) rfl ?_
            refine pu_ 7 36 (mb_ 15 255) rfl ?_
            refine pu_ 8 37 (mb_ 15 511) rfl ?_
            refine pu_ 9 38 (mb_ 15 1023) rfl ?_
            refine pu_ 10 39 (mb_ 15 2047) rfl ?_
            refine pu_ 11 40 (mb_ 15 4095) rfl ?_
            refine pu_ 12 41 (mb_ 15 8191) rfl ?_
            refine pu_ 13 42 (mb_ 15 16383) rfl ?_
            refine pq_ 14 43 (mb_ 15 32767) rfl ?_
            refine done_ (by kernel_rfl) ?_
            go_wp2_with fail
            go_meet
            exact ⟨rfl, Lib.hid (by obtain ⟨q, rfl⟩ := HQ.out; exact ⟨q + 1, rfl⟩)⟩
        case rest =>
          obtain ⟨rfl, HQ2⟩ := hcut
          have HN := Lib.hid (show riseP (l.take (i + 1).toNat) = riseStep out x by rw [HD.out, riseP_snoc, ← HX.out.2.2.1])
          have hw := wrap_i (i := i) h0 hlt hll
          cases hb with
          | true =>
            go_wp2_with fail
            go_roundw
            case rel => exact ⟨i + 1, out, by first | rfl | rw [hw], by omega, by omega, Lib.hid (by
              obtain ⟨q, rfl⟩ := HQ2.out
              exact ⟨own_drewN HX.out.1 q, pw_below_drewN HX.out.2.1 q, by rw [HN.out]; unfold riseStep; rw [if_pos HHB.out], HX.out.2.2.2.1, by omega⟩)⟩
            case measure => simp [intOf]; omega
          | false =>
            have cxd : wc.cell? (ad.add i.toNat) = some (Value.string x) := by obtain ⟨q, rfl⟩ := HQ2.out; exact hx0
            have HO := Lib.hid (show OwnS wc w.heap.size (.slice oa out.length cap) out by obtain ⟨q, rfl⟩ := HQ2.out; exact own_drewN HX.out.1 q)
            have HBd := Lib.hid (show Below w.heap.size w wc by obtain ⟨q, rfl⟩ := HQ2.out; exact pw_below_drewN HX.out.2.1 q)
            have p0 : (0 : Int) ≤ ((posS x out : Nat) : Int) := by omega
            have p1 : ((posS x out : Nat) : Int) ≤ (out.length : Int) := by omega
            have p2 : ((posS x out : Nat) : Int) ≤ (cap : Int) := by
              rcases HO.out.2 with ⟨hv, h0⟩ | ⟨g, cap', cur, hv, _, _, hn, _⟩
              · injection hv with ha hn hc; omega
              · injection hv with ha hn' hc; omega
            have p3 : (out.length : Int) ≤ (cap : Int) := by
              rcases HO.out.2 with ⟨hv, h0⟩ | ⟨g, cap', cur, hv, _, _, hn, _⟩
              · injection hv with ha hn hc; omega
              · injection hv with ha hn' hc; omega
            go_wp2_with fail
            have HAD := Lib.hid (World.block_lt_of_cell? wc _ cxd)
            have HLO := Lib.hid (show ∀ k, (Value.slice oa out.length cap).ownBlock = some k → k < wc.heap.size from fun k hk => (HO.out.lt k hk).2)
            have HB9 := Lib.hid (show w.heap.size ≤ wc.heap.size from HBd.out.size)
            have HS0 := Lib.hid (show St9 w wc wc.drew w.heap.size out.length cap oa out (.slice none 0 0) [] (ad.add i.toNat) x from ⟨own_drew' HO.out, World.ownsRow_nil _ _ _ _, fun k hk => by simp [Value.ownBlock] at hk, below_drew HBd.out, Nat.le_refl _, cxd⟩)
            have hlen1 : (out.take (posS x out)).length ≤ 1000000000 := by rw [List.length_take]; omega
            have hlen2 : (out.drop (posS x out)).length ≤ out.length := by rw [List.length_drop]; omega
            have hlen3 : (out.take (posS x out)).length + (out.drop (posS x out)).length ≤ 1000000000 := by rw [List.length_take, List.length_drop]; omega
            refine start_ (n := 16) (S := (fun w' => w'.cell? (ad.add i.toNat) = some (Value.string x))) (ds := []) #[false, false, false, false, false, false, false, false, false, false, false, false, false, false, false, false] (by as_aux_lemma => kernel_rfl) rfl rfl (cxd) (fun hHeld => ?_)
            refine pq_ 1 45 (mb_ 16 2) rfl ?_
            refine pq_ 2 46 (mb_ 16 6) rfl ?_
            refine pq_ 3 47 (mb_ 16 14) rfl ?_
            refine pq_ 5 49 (mb_ 16 46) rfl ?_
            refine pq_ 6 50 (mb_ 16 110) rfl ?_
            refine pq_ 7 51 (mb_ 16 238) rfl ?_
            refine take_ (i := 8) (N := some 52) (v := ?_) (a' := ?_) #[false, true, true, true, false, true, true, true, true, false, false, false, false, false, false, false] rfl rfl (by as_aux_lemma => kernel_rfl) (fun _ _ _ h => h) (Or.inl ⟨by rfl, ?_⟩) hHeld ?_ ?_
            rotate_left
            ·intro w' s2
             go_simp
             with_reducible rfl
            rotate_left
            ·simp only [Act.put, List.setIfInBounds_toArray, List.set_cons_zero, List.set_cons_succ, i64_w, i32_w]
             rfl
            refine pq_ 11 55 (mb_ 16 2542) rfl ?_
            refine pq_ 12 56 (mb_ 16 6638) rfl ?_
            refine pq_ 13 57 (mb_ 16 14830) rfl ?_
            refine two_ (i := 0) (j := 9) (Ni := some 44) (Nj := some 53) (mb_ 16 14831) (mb_ 16 15342) rfl rfl rfl rfl (by as_aux_lemma => kernel_rfl) (by decide) (by decide) (fun K hK => ?_) (fun K hK => ?_)
            ·skip
             refine value_ (v := .slice (some ⟨(wc.drew).heap.size, 0, none⟩) 0 0) (w1 := (wc.drew).alloc (.cells #[] 9)) (by rfl) rfl ?_ ?_
             ·first | (go_simp; done) | (go_simp; rfl)
             have HS1 := Lib.hid (HS0.out.new HB9.out)
             refine hK.out _ _ (HS1.out.c) (fun hHeld2 => ?_)
             clear hK K hHeld
             have hHeld := hHeld2
             clear hHeld2
             refine norm_ (a' := ?_) ?_ ?_
             rotate_left
             ·show Act.put _ (some 44) _ = _
              simp only [Act.put, List.setIfInBounds_toArray, List.set_cons_zero, List.set_cons_succ, i64_w, i32_w]
              rfl
             refine two_ (i := 4) (j := 9) (Ni := some 48) (Nj := some 53) (mb_ 16 14847) (mb_ 16 15343) rfl rfl rfl rfl (by as_aux_lemma => kernel_rfl) (by decide) (by decide) (fun K hK => ?_) (fun K hK => ?_)
             ·skip
              refine app_step rfl (.tmp 44) (.tmp 47) rfl rfl w.heap.size (.slice (some ⟨(wc.drew).heap.size, 0, none⟩) 0 0) _ [] (out.take (posS x out)) rfl rfl HS1.out.vv (src_front (B := w.heap.size) (n := out.length) HS1.out.o _ hpl) (Nat.le_trans HB9.out HS1.out.sz) (by simp only [List.length_append, List.length_nil, List.length_cons]; omega) ?_
              intro v2 W2 h2 g2 a2
              have HS2 := Lib.hid (HS1.out.app HB9.out HLO.out HAD.out h2 g2 a2)
              clear h2 g2 a2
              refine hK.out _ _ (HS2.out.c) (fun hHeld2 => ?_)
              clear hK K hHeld
              have hHeld := hHeld2
              clear hHeld2
              refine norm_ (a' := ?_) ?_ ?_
              rotate_left
              ·show Act.put _ (some 48) _ = _
               simp only [Act.put, List.setIfInBounds_toArray, List.set_cons_zero, List.set_cons_succ, i64_w, i32_w]
               rfl
              refine one_ (i := 9) (N := some 53) (mb_ 16 15359) rfl rfl (by as_aux_lemma => kernel_rfl) (by decide) (fun K hK => ?_)
              refine value_ (v := .slice (some ⟨(W2).heap.size, 0, none⟩) 1 1) (w1 := (W2).alloc (.cells #[.string x] 9)) (by rfl) rfl ?_ ?_
              ·first | (go_simp; done) | (go_simp; rfl)
              have HS3 := Lib.hid (HS2.out.alloc HB9.out (.cells #[.string x] 9))
              have HC3 := Lib.hid (cell_new (W2) x)
              refine hK.out _ _ (HS3.out.c) (fun hHeld2 => ?_)
              clear hK K hHeld
              have hHeld := hHeld2
              clear hHeld2
              refine norm_ (a' := ?_) ?_ ?_
              rotate_left
              ·show Act.put _ (some 53) _ = _
               simp only [Act.put, List.setIfInBounds_toArray, List.set_cons_zero, List.set_cons_succ, i64_w, i32_w]
               rfl
              refine one_ (i := 10) (N := some 54) (mb_ 16 16383) rfl rfl (by as_aux_lemma => kernel_rfl) (by decide) (fun K hK => ?_)
              refine app_step rfl (.tmp 48) (.tmp 53) rfl rfl w.heap.size (v2) _ ([] ++ (out.take (posS x out))) [x] rfl rfl HS3.out.vv (src_one HC3.out) (Nat.le_trans HB9.out HS3.out.sz) (by simp only [List.length_append, List.length_nil, List.length_cons]; omega) ?_
              intro v4 W4 h4 g4 a4
              have HS4 := Lib.hid (HS3.out.app HB9.out HLO.out HAD.out h4 g4 a4)
              clear h4 g4 a4
              refine hK.out _ _ (HS4.out.c) (fun hHeld2 => ?_)
              clear hK K hHeld
              have hHeld := hHeld2
              clear hHeld2
              refine norm_ (a' := ?_) ?_ ?_
              rotate_left
              ·show Act.put _ (some 54) _ = _
               simp only [Act.put, List.setIfInBounds_toArray, List.set_cons_zero, List.set_cons_succ, i64_w, i32_w]
               rfl
              refine one_ (i := 14) (N := some 58) (mb_ 16 32767) rfl rfl (by as_aux_lemma => kernel_rfl) (by decide) (fun K hK => ?_)
              refine app_step rfl (.tmp 54) (.tmp 57) rfl rfl w.heap.size (v4) _ (([] ++ (out.take (posS x out))) ++ [x]) (out.drop (posS x out)) rfl rfl HS4.out.vv (src_back (B := w.heap.size) (n := out.length) HS4.out.o rfl _ hpl) (Nat.le_trans HB9.out HS4.out.sz) (by simp only [List.length_append, List.length_nil, List.length_cons]; omega) ?_
              intro v5 W5 h5 g5 a5
              have HS5 := Lib.hid (HS4.out.app HB9.out HLO.out HAD.out h5 g5 a5)
              clear h5 g5 a5
              refine hK.out _ _ (HS5.out.c) (fun hHeld2 => ?_)
              clear hK K hHeld
              have hHeld := hHeld2
              clear hHeld2
              refine norm_ (a' := ?_) ?_ ?_
              rotate_left
              ·show Act.put _ (some 58) _ = _
               simp only [Act.put, List.setIfInBounds_toArray, List.set_cons_zero, List.set_cons_succ, i64_w, i32_w]
               rfl
              refine pq_ 15 3 (mb_ 16 65535) rfl ?_
              refine done_ (by as_aux_lemma => kernel_rfl) ?_
              go_wp2
              go_roundw
              case rel => exact ⟨i + 1, riseStep out x, by first | rfl | rw [hw], by omega, by omega, Lib.hid ⟨rise_own HHB.out HS5.out.vv, HS5.out.b, HN.out.symm, rise_rising HHB.out HX.out.2.2.2.1, by have := riseStep_length (out := out) (x := x); omega⟩⟩
              case measure => simp [intOf]; omega
             ·skip
              refine value_ (v := .slice (some ⟨((wc.drew).alloc (.cells #[] 9)).heap.size, 0, none⟩) 1 1) (w1 := ((wc.drew).alloc (.cells #[] 9)).alloc (.cells #[.string x] 9)) (by rfl) rfl ?_ ?_
              ·first | (go_simp; done) | (go_simp; rfl)
              have HS2 := Lib.hid (HS1.out.alloc HB9.out (.cells #[.string x] 9))
              have HC2 := Lib.hid (cell_new ((wc.drew).alloc (.cells #[] 9)) x)
              refine hK.out _ _ (HS2.out.c) (fun hHeld2 => ?_)
              clear hK K hHeld
              have hHeld := hHeld2
              clear hHeld2
              refine norm_ (a' := ?_) ?_ ?_
              rotate_left
              ·show Act.put _ (some 53) _ = _
               simp only [Act.put, List.setIfInBounds_toArray, List.set_cons_zero, List.set_cons_succ, i64_w, i32_w]
               rfl
              refine one_ (i := 4) (N := some 48) (mb_ 16 15359) rfl rfl (by as_aux_lemma => kernel_rfl) (by decide) (fun K hK => ?_)
              refine app_step rfl (.tmp 44) (.tmp 47) rfl rfl w.heap.size (.slice (some ⟨(wc.drew).heap.size, 0, none⟩) 0 0) _ [] (out.take (posS x out)) rfl rfl HS2.out.vv (src_front (B := w.heap.size) (n := out.length) HS2.out.o _ hpl) (Nat.le_trans HB9.out HS2.out.sz) (by simp only [List.length_append, List.length_nil, List.length_cons]; omega) ?_
              intro v3 W3 h3 g3 a3
              have HS3 := Lib.hid (HS2.out.app HB9.out HLO.out HAD.out h3 g3 a3)
              have HC3 := Lib.hid (cell_app HC2.out g3 (by simp [Value.ownBlock, World.size_alloc]))
              clear h3 g3 a3
              refine hK.out _ _ (HS3.out.c) (fun hHeld2 => ?_)
              clear hK K hHeld
              have hHeld := hHeld2
              clear hHeld2
              refine norm_ (a' := ?_) ?_ ?_
              rotate_left
              ·show Act.put _ (some 48) _ = _
               simp only [Act.put, List.setIfInBounds_toArray, List.set_cons_zero, List.set_cons_succ, i64_w, i32_w]
               rfl
              refine one_ (i := 10) (N := some 54) (mb_ 16 16383) rfl rfl (by as_aux_lemma => kernel_rfl) (by decide) (fun K hK => ?_)
              refine app_step rfl (.tmp 48) (.tmp 53) rfl rfl w.heap.size (v3) _ ([] ++ (out.take (posS x out))) [x] rfl rfl HS3.out.vv (src_one HC3.out) (Nat.le_trans HB9.out HS3.out.sz) (by simp only [List.length_append, List.length_nil, List.length_cons]; omega) ?_
              intro v4 W4 h4 g4 a4
              have HS4 := Lib.hid (HS3.out.app HB9.out HLO.out HAD.out h4 g4 a4)
              clear h4 g4 a4
              refine hK.out _ _ (HS4.out.c) (fun hHeld2 => ?_)
              clear hK K hHeld
              have hHeld := hHeld2
              clear hHeld2
              refine norm_ (a' := ?_) ?_ ?_
              rotate_left
              ·show Act.put _ (some 54) _ = _
               simp only [Act.put, List.setIfInBounds_toArray, List.set_cons_zero, List.set_cons_succ, i64_w, i32_w]
               rfl
              refine one_ (i := 14) (N := some 58) (mb_ 16 32767) rfl rfl (by as_aux_lemma => kernel_rfl) (by decide) (fun K hK => ?_)
              refine app_step rfl (.tmp 54) (.tmp 57) rfl rfl w.heap.size (v4) _ (([] ++ (out.take (posS x out))) ++ [x]) (out.drop (posS x out)) rfl rfl HS4.out.vv (src_back (B := w.heap.size) (n := out.length) HS4.out.o rfl _ hpl) (Nat.le_trans HB9.out HS4.out.sz) (by simp only [List.length_append, List.length_nil, List.length_cons]; omega) ?_
              intro v5 W5 h5 g5 a5
              have HS5 := Lib.hid (HS4.out.app HB9.out HLO.out HAD.out h5 g5 a5)
              clear h5 g5 a5
              refine hK.out _ _ (HS5.out.c) (fun hHeld2 => ?_)
              clear hK K hHeld
              have hHeld := hHeld2
              clear hHeld2
              refine norm_ (a' := ?_) ?_ ?_
              rotate_left
              ·show Act.put _ (some 58) _ = _
               simp only [Act.put, List.setIfInBounds_toArray, List.set_cons_zero, List.set_cons_succ, i64_w, i32_w]
               rfl
              refine pq_ 15 3 (mb_ 16 65535) rfl ?_
              refine done_ (by as_aux_lemma => kernel_rfl) ?_
              go_wp2
              go_roundw
              case rel => exact ⟨i + 1, riseStep out x, by first | rfl | rw [hw], by omega, by omega, Lib.hid ⟨rise_own HHB.out HS5.out.vv, HS5.out.b, HN.out.symm, rise_rising HHB.out HX.out.2.2.2.1, by have := riseStep_length (out := out) (x := x); omega⟩⟩
              case measure => simp [intOf]; omega
            ·skip
             refine value_ (v := .slice (some ⟨(wc.drew).heap.size, 0, none⟩) 1 1) (w1 := (wc.drew).alloc (.cells #[.string x] 9)) (by rfl) rfl ?_ ?_
             ·first | (go_simp; done) | (go_simp; rfl)
             have HS1 := Lib.hid (HS0.out.alloc HB9.out (.cells #[.string x] 9))
             have HC1 := Lib.hid (cell_new (wc.drew) x)
             refine hK.out _ _ (HS1.out.c) (fun hHeld2 => ?_)
             clear hK K hHeld
             have hHeld := hHeld2
             clear hHeld2
             refine norm_ (a' := ?_) ?_ ?_
             rotate_left
             ·show Act.put _ (some 53) _ = _
              simp only [Act.put, List.setIfInBounds_toArray, List.set_cons_zero, List.set_cons_succ, i64_w, i32_w]
              rfl
             refine one_ (i := 0) (N := some 44) (mb_ 16 15343) rfl rfl (by as_aux_lemma => kernel_rfl) (by decide) (fun K hK => ?_)
             refine value_ (v := .slice (some ⟨((wc.drew).alloc (.cells #[.string x] 9)).heap.size, 0, none⟩) 0 0) (w1 := ((wc.drew).alloc (.cells #[.string x] 9)).alloc (.cells #[] 9)) (by rfl) rfl ?_ ?_
             ·first | (go_simp; done) | (go_simp; rfl)
             have HS2 := Lib.hid (HS1.out.new HB9.out)
             have HC2 := Lib.hid (cell_al HC1.out (.cells #[] 9))
             refine hK.out _ _ (HS2.out.c) (fun hHeld2 => ?_)
             clear hK K hHeld
             have hHeld := hHeld2
             clear hHeld2
             refine norm_ (a' := ?_) ?_ ?_
             rotate_left
             ·show Act.put _ (some 44) _ = _
              simp only [Act.put, List.setIfInBounds_toArray, List.set_cons_zero, List.set_cons_succ, i64_w, i32_w]
              rfl
             refine one_ (i := 4) (N := some 48) (mb_ 16 15359) rfl rfl (by as_aux_lemma => kernel_rfl) (by decide) (fun K hK => ?_)
             refine app_step rfl (.tmp 44) (.tmp 47) rfl rfl w.heap.size (.slice (some ⟨((wc.drew).alloc (.cells #[.string x] 9)).heap.size, 0, none⟩) 0 0) _ [] (out.take (posS x out)) rfl rfl HS2.out.vv (src_front (B := w.heap.size) (n := out.length) HS2.out.o _ hpl) (Nat.le_trans HB9.out HS2.out.sz) (by simp only [List.length_append, List.length_nil, List.length_cons]; omega) ?_
             intro v3 W3 h3 g3 a3
             have HS3 := Lib.hid (HS2.out.app HB9.out HLO.out HAD.out h3 g3 a3)
             have HC3 := Lib.hid (cell_app HC2.out g3 (by simp [Value.ownBlock, World.size_alloc]))
             clear h3 g3 a3
             refine hK.out _ _ (HS3.out.c) (fun hHeld2 => ?_)
             clear hK K hHeld
             have hHeld := hHeld2
             clear hHeld2
             refine norm_ (a' := ?_) ?_ ?_
             rotate_left
             ·show Act.put _ (some 48) _ = _
              simp only [Act.put, List.setIfInBounds_toArray, List.set_cons_zero, List.set_cons_succ, i64_w, i32_w]
              rfl
             refine one_ (i := 10) (N := some 54) (mb_ 16 16383) rfl rfl (by as_aux_lemma => kernel_rfl) (by decide) (fun K hK => ?_)
             refine app_step rfl (.tmp 48) (.tmp 53) rfl rfl w.heap.size (v3) _ ([] ++ (out.take (posS x out))) [x] rfl rfl HS3.out.vv (src_one HC3.out) (Nat.le_trans HB9.out HS3.out.sz) (by simp only [List.length_append, List.length_nil, List.length_cons]; omega) ?_
             intro v4 W4 h4 g4 a4
             have HS4 := Lib.hid (HS3.out.app HB9.out HLO.out HAD.out h4 g4 a4)
             clear h4 g4 a4
             refine hK.out _ _ (HS4.out.c) (fun hHeld2 => ?_)
             clear hK K hHeld
             have hHeld := hHeld2
             clear hHeld2
             refine norm_ (a' := ?_) ?_ ?_
             rotate_left
             ·show Act.put _ (some 54) _ = _
              simp only [Act.put, List.setIfInBounds_toArray, List.set_cons_zero, List.set_cons_succ, i64_w, i32_w]
              rfl
             refine one_ (i := 14) (N := some 58) (mb_ 16 32767) rfl rfl (by as_aux_lemma => kernel_rfl) (by decide) (fun K hK => ?_)
             refine app_step rfl (.tmp 54) (.tmp 57) rfl rfl w.heap.size (v4) _ (([] ++ (out.take (posS x out))) ++ [x]) (out.drop (posS x out)) rfl rfl HS4.out.vv (src_back (B := w.heap.size) (n := out.length) HS4.out.o rfl _ hpl) (Nat.le_trans HB9.out HS4.out.sz) (by simp only [List.length_append, List.length_nil, List.length_cons]; omega) ?_
             intro v5 W5 h5 g5 a5
             have HS5 := Lib.hid (HS4.out.app HB9.out HLO.out HAD.out h5 g5 a5)
             clear h5 g5 a5
             refine hK.out _ _ (HS5.out.c) (fun hHeld2 => ?_)
             clear hK K hHeld
             have hHeld := hHeld2
             clear hHeld2
             refine norm_ (a' := ?_) ?_ ?_
             rotate_left
             ·show Act.put _ (some 58) _ = _
              simp only [Act.put, List.setIfInBounds_toArray, List.set_cons_zero, List.set_cons_succ, i64_w, i32_w]
              rfl
             refine pq_ 15 3 (mb_ 16 65535) rfl ?_
             refine done_ (by as_aux_lemma => kernel_rfl) ?_
             go_wp2
             go_roundw
             case rel => exact ⟨i + 1, riseStep out x, by first | rfl | rw [hw], by omega, by omega, Lib.hid ⟨rise_own HHB.out HS5.out.vv, HS5.out.b, HN.out.symm, rise_rising HHB.out HX.out.2.2.2.1, by have := riseStep_length (out := out) (x := x); omega⟩⟩
             case measure => simp [intOf]; omega
    · obtain rfl : i = l.length := by omega
      have hX := HX.out.2.2.1
      rw [show ((l.length : Int)).toNat = l.length from rfl, List.take_length] at hX
      go_wp2_with fail
      go_ret
      exact ⟨_, rfl, hX ▸ HX.out.1, HX.out.2.1⟩
def outlawref18_Rising.f (l : List ByteArray) : Option (List ByteArray) := if l.length ≤ 1000000000 then some (riseP l) else none
theorem outlawref18_Rising.calls (A0 : Option Addr) (c0 : Nat) (l0 : List ByteArray) (r : List ByteArray) (w : World) (hr0 : Kd.C Kd.string w A0 l0.length l0) (hc0 : l0.length ≤ c0) (h : outlawref18_Rising.f l0 = some r) :
    Calls Tryd.prog 43 #[.slice A0 l0.length c0] w fun e w' => ∃ v0_ : Value, e = .returned (v0_) ∧ Kd.R Kd.string 9 w' w.heap.size (fun _ => True) v0_ r ∧ Below w.heap.size w w' := by
  unfold outlawref18_Rising.f at h
  by_cases hk : l0.length ≤ 1000000000
  · rw [if_pos hk] at h
    obtain rfl := Option.some.inj h
    refine (rise_any A0 c0 l0 w hr0 hk).mono ?_
    rintro e w' ⟨v, rfl, ho, hb⟩
    exact ⟨v, rfl, Kd.R_of_own ho (fun _ _ => trivial), hb⟩
  · rw [if_neg hk] at h
    cases h
end Go.Proofs.YtlmhgnkkdjpkcaaDoorG
