/- The document's log (outlawref20.Log): how it lies, and the contracts of Open, Sync. -/
import Derived.Test.YtbbnjnpbaekfgaaRh
set_option linter.unusedVariables false
set_option linter.unusedSimpArgs false
namespace Go.Proofs.YtbbnjnpbaekfgaaM
open Go.RowKit Go.Proofs.YtbbnjnpbaekfgaaW.PrintMore
/-- The document's log at block q, over its disk at p; its records under vr. -/
structure RLogAt (w : World) (B q p n : Nat) (v u vr : Value) (D : List UInt8) (P : List (Nat × List UInt8)) (R : List (List UInt8)) (s e : Nat) : Prop where
  d : RefAt w B p n v u D P
  l : Blk w q [.pointer (some ⟨p, 0, none⟩), vr, .int .i64 (s : Int), .int .i64 (e : Int)] 65
  r : w.ownsRow B 9 1 vr R.length (strs R)
  bq : B ≤ q
  he : e ≤ n
  hs : s ≤ R.length
  few : R.length ≤ 100000
  ne : ∀ k, vr.ownBlock = some k → v.ownBlock ≠ some k
def RLOwn (q p : Nat) (v u vr : Value) (k : Nat) : Prop := ROwn p v u k ∨ k = q ∨ vr.ownBlock = some k
section
variable {w w' : World} {B q p n : Nat} {v u vr : Value} {D : List UInt8} {P : List (Nat × List UInt8)} {R : List (List UInt8)} {s e : Nat}
theorem blk_ne {I J : Nat} {c c' : List Value} {t t' : TypeId} (h : Blk w I c t) (k : Blk w J c' t') (hne : t ≠ t') : I ≠ J := by
  rintro rfl
  have := h.symm.trans k
  simp at this
  exact hne this.2
theorem RLogAt.lt (h : RLogAt w B q p n v u vr D P R s e) : ∀ k, RLOwn q p v u vr k → B ≤ k ∧ k < w.heap.size := by
  rintro k (hk | rfl | hk)
  · exact h.d.lt k hk
  · exact ⟨h.bq, h.l.lt⟩
  · exact h.r.lt k hk
theorem RLogAt.base (h : RLogAt w B q p n v u vr D P R s e) : B ≤ w.heap.size := by have := h.bq; have := h.l.lt; omega
theorem RLogAt.kept {S : Nat → Prop} (h : RLogAt w B q p n v u vr D P R s e) (hE : Elses S w w') (hS : ∀ k, RLOwn q p v u vr k → ¬ S k) : RLogAt w' B q p n v u vr D P R s e :=
  { h with d := h.d.kept hE fun k hk => hS k (.inl hk), l := h.l.kept hE (hS q (.inr (.inl rfl))), r := ownsRow_kept h.r hE fun k hk => hS k (.inr (.inr hk)) }
theorem RLogAt.new (h : RLogAt w B q p n v u vr D P R s e) (hb : Below w.heap.size w w') : RLogAt w' B q p n v u vr D P R s e :=
  h.kept (S := fun k => w.heap.size ≤ k) (.of_below' hb) fun k hk => by have := (h.lt k hk).2; omega
theorem RLogAt.step (h : RLogAt w B q p n v u vr D P R s e) (he : Elses (RLOwn q p v u vr) w w') : Below B w w' := he.below h.base fun i hi => (h.lt i hi).1
theorem RLogAt.q_far (h : RLogAt w B q p n v u vr D P R s e) : ¬ ROwn p v u q := by
  rintro (hk | hk | hk)
  · exact blk_ne h.l h.d.blk (by decide) hk
  · exact row_ne h.d.dur h.l (by decide) hk
  · exact row_ne h.d.pend h.l (by decide) hk
theorem RLogAt.q_ne (h : RLogAt w B q p n v u vr D P R s e) : vr.ownBlock ≠ some q := row_ne h.r h.l (by decide)
theorem RLogAt.r_far (h : RLogAt w B q p n v u vr D P R s e) : ∀ k, vr.ownBlock = some k → ¬ ROwn p v u k := by
  rintro k hk (e1 | e1 | e1)
  · exact row_ne h.r h.d.blk (by decide) (e1 ▸ hk)
  · exact h.ne k hk e1
  · exact rows_ne h.r h.d.pend (by decide) k hk e1
theorem RLogAt.disk {u' : Value} {D' : List UInt8} {P' : List (Nat × List UInt8)} (h : RLogAt w B q p n v u vr D P R s e) (hd : RefAt w' B p n v u' D' P') (he : Elses (ROwn p v u) w w') : RLogAt w' B q p n v u' vr D' P' R s e :=
  { h with d := hd, l := h.l.kept he h.q_far, r := ownsRow_kept h.r he h.r_far }
theorem RLogAt.field2 (h : RLogAt w B q p n v u vr D P R s e) {s' : Nat} (hs : s' ≤ R.length) : RLogAt (w.setCell ⟨q, 2, none⟩ (.int .i64 (s' : Int))) B q p n v u vr D P R s' e := by
  have hE : Elses (fun k => k = q) w (w.setCell ⟨q, 2, none⟩ (.int .i64 (s' : Int))) := (Elses.refl (fun k => k = q) w).set (p := ⟨q, 2, none⟩) (.inl rfl) _
  refine { h with d := h.d.kept hE fun k hk e => h.q_far (e ▸ hk), l := ?_, r := ownsRow_kept h.r hE fun k hk e => h.q_ne (e ▸ hk), hs := hs }
  have := h.l.set 2 (.int .i64 (s' : Int))
  simpa using this
/-- What is the log's is not the document's. -/
theorem rl_far {B' q' p' g' n' : Nat} {v' vr' : Value} {D' : List UInt8} {P' : List (Nat × List UInt8)} {R' : List (List UInt8)} {s' e' : Nat} (k : LogAt w B' q' p' g' n' v' vr' D' P' R' s' e') (h : RLogAt w B q p n v u vr D P R s e)
    (hf : ∀ b, vr'.ownBlock = some b → v.ownBlock ≠ some b ∧ vr.ownBlock ≠ some b) : ∀ b, RLOwn q p v u vr b → ¬ LOwn q' p' g' v' vr' b := by
  rintro b ((rfl | hb | hb) | rfl | hb) (h1 | h1 | h1)
  · exact not_own_type k.d h.d.blk (by decide) (by decide) (by decide) h1
  · exact blk_ne h.d.blk k.l (by decide) h1
  · exact row_ne k.r h.d.blk (by decide) h1
  · exact own_far k.d h.d.dur (by decide) (by decide) (by decide) b hb h1
  · exact row_ne h.d.dur k.l (by decide) (h1 ▸ hb)
  · exact (hf b h1).1 hb
  · exact own_far k.d h.d.pend (by decide) (by decide) (by decide) b hb h1
  · exact row_ne h.d.pend k.l (by decide) (h1 ▸ hb)
  · exact rows_ne h.d.pend k.r (by decide) b hb h1
  · exact not_own_type k.d h.l (by decide) (by decide) (by decide) h1
  · exact blk_ne h.l k.l (by decide) h1
  · exact row_ne k.r h.l (by decide) h1
  · exact own_far k.d h.r (by decide) (by decide) (by decide) b hb h1
  · exact row_ne h.r k.l (by decide) (h1 ▸ hb)
  · exact (hf b h1).2 hb
end
set_option maxHeartbeats 1000000 in
theorem rlsync_ok (B q p n : Nat) (v u vr : Value) (D : List UInt8) (P : List (Nat × List UInt8)) (R : List (List UInt8)) (s e : Nat) (w : World) (h : RLogAt w B q p n v u vr D P R s e) :
    Calls Try.prog 39 #[.pointer (some ⟨q, 0, none⟩)] w fun e' w' => e' = .returned (.tuple #[]) ∧ RLogAt w' B q p n v (.slice none 0 0) vr (syncD D P) [] R R.length e ∧ Elses (RLOwn q p v u vr) w w' := by
  have H := Lib.hid h
  have h0 := h.l.cell 0
  simp only [List.getElem?_cons_zero, List.getElem?_cons_succ] at h0
  obtain ⟨ra, rc, rfl⟩ := len_of_own h.r
  clear h
  go_enter Try.func39, Try.ntmps39
  go_wp2_with fail
  refine (refsync_ok _ _ _ _ _ _ _ _ H.out.d).mono ?_
  rintro e' w1 ⟨rfl, hd, he1⟩
  have H1 := Lib.hid (H.out.disk hd he1)
  have HE1 := Lib.hid (he1.mono (T := RLOwn q p v u (.slice ra R.length rc)) fun i hi => .inl hi)
  have h1 := H1.out.l.cell 1
  have h2 := H1.out.l.cell 2
  have f2 := H1.out.l.frozen 2
  simp only [List.getElem?_cons_zero, List.getElem?_cons_succ] at h1 h2
  clear hd he1 h0
  go_wp2_with fail
  go_end0
  exact ⟨rfl, H1.out.field2 (Nat.le_refl _), HE1.out.set (p := ⟨q, 2, none⟩) (.inl (.inr (.inl rfl))) _⟩
theorem nz_ne (l : List UInt8) (h : l.length = 512) : ((bs l).toList == (bs (zeros 512)).toList) = !anyNZ l := by
  cases hz : anyNZ l
  · have : l = zeros 512 := by
      by_cases e : l = zeros 512
      · exact e
      · rw [(anyNZ_iff l 512 h).2 e] at hz
        cases hz
    rw [this]
    simp
  · have := (anyNZ_iff l 512 h).1 hz
    rw [Bool.not_true, beq_eq_false_iff_ne]
    exact fun e => this (bs_toList_inj e)
/-- What the document's Open leaves. -/
def ROpened (w : World) (B p n : Nat) (v u : Value) (I : List UInt8) (e : Ending) (w' : World) : Prop :=
  ∃ q vr, e = .returned (.pointer (some ⟨q, 0, none⟩)) ∧ RLogAt w' B q p n v (.slice none 0 0) vr (openD I (found I).fin n) [] (found I).recs (found I).recs.length (found I).fin ∧ w.heap.size ≤ q ∧ (∀ k, vr.ownBlock = some k → w.heap.size ≤ k) ∧ Elses (ROwn p v u) w w'
set_option maxRecDepth 100000 in
set_option maxHeartbeats 4000000 in
theorem ropen_ok (B p n : Nat) (v u : Value) (D : List UInt8) (P : List (Nat × List UInt8)) (w : World) (h : RefAt w B p n v u D P) (hP : P.length ≤ 50000) :
    Calls Try.prog 37 #[.pointer (some ⟨p, 0, none⟩)] w (ROpened w B p n v u (syncD D P)) := by
  have hIl := syncD_length P h.len h.ok
  have hSO := fun e he => sync_open (e := e) P h.len h.ok he
  have hRO := fun e k => read_open (e := e) P h.len h.ok k
  obtain ⟨I, hI⟩ : ∃ I, I = syncD D P := ⟨_, rfl⟩
  rw [← hI] at hIl hSO hRO ⊢
  have hn := h.top
  have hn0 := h.pos
  have hfin : (found I).fin ≤ n := by have := found_fin_le I; omega
  have hrl : (found I).recs.length ≤ n := by have := found_recs_le I; omega
  obtain ⟨fi, hfi⟩ : ∃ fi, fi = (found I).fin := ⟨_, rfl⟩
  obtain ⟨rs, hrs⟩ : ∃ rs, rs = (found I).recs := ⟨_, rfl⟩
  rw [← hfi] at hfin
  rw [← hrs] at hrl
  have HI := Lib.hid (And.intro hIl (And.intro hSO (And.intro hRO (And.intro hI (And.intro hfi hrs)))))
  have H := Lib.hid h
  clear h hI hIl hSO hRO hfi hrs
  go_enter Try.func37, Try.ntmps37
  go_wp2_with fail
  refine (refimage_ok _ _ _ _ _ _ _ _ H.out).mono ?_
  rintro e w1 ⟨rfl, hb1⟩
  rw [← HI.out.2.2.2.1]
  have H1 := Lib.hid (H.out.new hb1)
  have HB1 := Lib.hid hb1
  clear hb1
  go_wp2_with fail
  refine (rscan_ok I (by rw [HI.out.1]; omega) _).mono ?_
  rintro e w2 ⟨vr, rfl, hrow, hb2⟩
  rw [← HI.out.2.2.2.2.1]
  rw [← HI.out.2.2.2.2.2] at hrow
  have H2 := Lib.hid (H1.out.new hb2)
  have HB2 := Lib.hid (HB1.out.trans (hb2.mono HB1.out.size))
  have HR2 := Lib.hid (row_mono hrow HB1.out.size)
  obtain ⟨ra, rc, rfl⟩ := len_of_own hrow
  clear hrow hb2
  go_wp2_with fail
  refine (nought_512 _).mono ?_
  rintro e w3 ⟨rfl, hb3⟩
  have H3 := Lib.hid (H2.out.new hb3)
  have HB3 := Lib.hid (HB2.out.trans (hb3.mono HB2.out.size))
  have HR3 := Lib.hid (own_below HR2.out hb3)
  obtain ⟨Z, hZ⟩ : ∃ Z, Z = zeros 512 := ⟨_, rfl⟩
  have HZ := Lib.hid hZ
  rw [← hZ]
  clear hb3 hZ
  go_wp2_with fail
  go_loopw [6] (fun iv wr => ∃ (k : Nat) (u' : Value), fi ≤ k ∧ k ≤ n ∧ iv = .int .i64 (k : Int) ∧ Hid (RefAt wr B p n v u' D (P ++ zwL I fi k)) ∧ Hid (Fresh w u u') ∧ Hid (Elses (ROwn p v u) w wr) ∧ Hid (wr.ownsRow w.heap.size 9 1 (.slice ra rs.length rc) rs.length (strs rs))) (fun iv _ => n - (intOf iv).toNat)
  case atStart => exact ⟨fi, u, Nat.le_refl _, hfin, rfl, show RefAt _ _ _ _ _ _ _ _ by rw [zwL_below fi (Nat.le_refl _), List.append_nil]; exact H3.out, Fresh.refl _ _, .of_below' HB3.out, HR3.out⟩
  case round =>
    obtain ⟨k, u', hk0, hk, rfl, HL, HV, HE, HO⟩ := hrel
    obtain ⟨wi, rfl⟩ : ∃ wi, wi = wr := ⟨wr, rfl⟩
    have c0 := HL.out.c0
    obtain ⟨gd, cd, rfl, _, _⟩ := HL.out.dur.form hn0
    by_cases hlt : k < n
    · have hk' : (k : Int) < (n : Int) := by omega
      have hz := zwL_length (I := I) (e := fi) k
      have hPZ : (P ++ zwL I fi k).length < 100000 := by rw [List.length_append]; omega
      have HPZ := Lib.hid hPZ
      have hsl : (sec I k).length = 512 := sec_length HI.out.1 hlt
      have hne := nz_ne (sec I k) hsl
      rw [← HZ.out] at hne
      have HCR := Lib.hid (refread_ok _ _ _ _ _ _ _ _ HL.out k hlt)
      rw [HI.out.2.2.1] at HCR
      obtain ⟨X, hX⟩ : ∃ X, X = sec I k := ⟨_, rfl⟩
      rw [← hX] at hne HCR
      have HX := Lib.hid hX
      clear hz hPZ hsl hX
      go_wp2_with fail
      refine HCR.out.mono ?_
      rintro e w' ⟨rfl, rfl⟩
      clear HCR
      cases hz : anyNZ X
      · rw [hz] at hne
        replace hne : ((bs X).toList == (bs Z).toList) = true := hne
        have HZ0 := Lib.hid hz
        clear hz
        go_wp2_with fail
        go_roundw
        case rel => exact ⟨k + 1, u', by omega, by omega, by go_num, show RefAt _ _ _ _ _ _ _ _ by rw [zwL_no (HX.out ▸ HZ0.out)]; exact HL.out, HV.out, HE.out, HO.out⟩
        case measure => simp [intOf]; omega
      · rw [hz] at hne
        replace hne : ((bs X).toList == (bs Z).toList) = false := hne
        have HZ0 := Lib.hid hz
        clear hz
        go_wp2_with fail
        refine (refwrite_ok _ _ _ _ _ _ _ _ HL.out k hlt [] (by simp) HPZ.out).mono ?_
        rintro e w4 ⟨rfl, ⟨u2, hd4, hu2⟩, he4⟩
        have HL4 := Lib.hid (show RefAt w4 B p n _ u2 D (P ++ zwL I fi (k + 1)) from by rw [zwL_yes hk0 (HX.out ▸ HZ0.out), ← List.append_assoc]; simpa using hd4)
        have HV4 := Lib.hid (HV.out.trans hu2 HE.out.size)
        have HO4 := Lib.hid (ownsRow_kept HO.out he4 fun b hb hk => by
          rcases hk with e1 | e1 | e1
          · exact row_ne HO.out HL.out.blk (by decide) (e1 ▸ hb)
          · have h1 := (HO.out.lt b hb).1
            have h2 := (H.out.dur.lt b e1).2
            omega
          · exact rows_ne HO.out HL.out.pend (by decide) b hb e1)
        have HE4 := Lib.hid (HE.out.trans' he4 fun i hi => by
          rcases hi with rfl | hi | hi
          · exact .inl (.inl rfl)
          · exact .inl (.inr (.inl hi))
          · rcases HV.out with e1 | ⟨k1, hk1, e1⟩
            · exact .inl (.inr (.inr (e1 ▸ hi)))
            · rw [e1] at hi
              cases hi
              exact .inr hk1)
        clear hd4 hu2 he4
        go_wp2_with fail
        go_roundw
        case rel => exact ⟨k + 1, u2, by omega, by omega, by go_num, HL4.out, HV4.out, HE4.out, HO4.out⟩
        case measure => simp [intOf]; omega
    · have hk' : ¬ (k : Int) < (n : Int) := by omega
      obtain rfl : k = n := by omega
      go_wp2_with fail
      refine (refsync_ok _ _ _ _ _ _ _ _ HL.out).mono ?_
      rintro e w5 ⟨rfl, hd5, he5⟩
      rw [HI.out.2.1 fi hfin] at hd5
      have HD5 := Lib.hid hd5
      have HO5 := Lib.hid (ownsRow_kept HO.out he5 fun b hb hk => by
          rcases hk with e1 | e1 | e1
          · exact row_ne HO.out HL.out.blk (by decide) (e1 ▸ hb)
          · have h1 := (HO.out.lt b hb).1
            have h2 := (H.out.dur.lt b e1).2
            omega
          · exact rows_ne HO.out HL.out.pend (by decide) b hb e1)
      have HE5 := Lib.hid (HE.out.trans' he5 fun i hi => by
          rcases hi with rfl | hi | hi
          · exact .inl (.inl rfl)
          · exact .inl (.inr (.inl hi))
          · rcases HV.out with e1 | ⟨k1, hk1, e1⟩
            · exact .inl (.inr (.inr (e1 ▸ hi)))
            · rw [e1] at hi
              cases hi
              exact .inr hk1)
      clear hd5 he5
      go_wp2_with fail
      go_ret
      have hBw := H.out.base
      have hw5 : w.heap.size ≤ w5.heap.size := HE5.out.size
      have hblk := Blk.new w5 [.pointer (some ⟨p, 0, none⟩), .slice ra rs.length rc, .int .i64 (rs.length : Int), .int .i64 (fi : Int)] 65
      have hne : ∀ b, (Value.slice ra rs.length rc).ownBlock = some b → (Value.slice (some ⟨gd, 0, none⟩) k cd).ownBlock ≠ some b := fun b hb e1 => by
        have h1 := (HO5.out.lt b hb).1
        have h2 := (H.out.dur.lt b e1).2
        omega
      refine ⟨w5.heap.size, .slice ra rs.length rc, rfl, ?_, hw5, fun b hb => (HO5.out.lt b hb).1, HE5.out.alloc _⟩
      rw [← HI.out.2.2.2.2.1, ← HI.out.2.2.2.2.2]
      exact { d := HD5.out.alloc _, l := hblk, r := own_alloc (row_mono HO5.out hBw) _, bq := by omega, he := hfin, hs := Nat.le_refl _, few := by omega, ne := hne }
end Go.Proofs.YtbbnjnpbaekfgaaM
