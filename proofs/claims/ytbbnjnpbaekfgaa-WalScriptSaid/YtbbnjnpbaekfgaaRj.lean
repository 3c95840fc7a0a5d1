/- The document's log: Append. -/
import Derived.Test.YtbbnjnpbaekfgaaRi
set_option linter.unusedVariables false
set_option linter.unusedSimpArgs false
namespace Go.Proofs.YtbbnjnpbaekfgaaM
open Go.RowKit Go.Proofs.YtbbnjnpbaekfgaaW.PrintWords Go.Proofs.YtbbnjnpbaekfgaaW.PrintLast Go.Proofs.YtbbnjnpbaekfgaaW.PrintMore
section
variable {w w' : World} {B q p n : Nat} {v u vr : Value} {D : List UInt8} {P : List (Nat × List UInt8)} {R : List (List UInt8)} {s e : Nat}
theorem RLogAt.field3 (h : RLogAt w B q p n v u vr D P R s e) {e' : Nat} (hs : e' ≤ n) : RLogAt (w.setCell ⟨q, 3, none⟩ (.int .i64 (e' : Int))) B q p n v u vr D P R s e' := by
  have hE : Elses (fun k => k = q) w (w.setCell ⟨q, 3, none⟩ (.int .i64 (e' : Int))) := (Elses.refl (fun k => k = q) w).set (p := ⟨q, 3, none⟩) (.inl rfl) _
  refine { h with d := h.d.kept hE fun k hk e => h.q_far (e ▸ hk), l := ?_, r := ownsRow_kept h.r hE fun k hk e => h.q_ne (e ▸ hk), he := hs }
  have := h.l.set 3 (.int .i64 (e' : Int))
  simpa using this
/-- What appending to the records leaves (the end's store, then the records'). -/
theorem RLogAt.push {w6 : World} (h : RLogAt w B q p n v u vr D P R s e) (r : List UInt8) (o : Obj) {gg cc : Nat} (hR : R.length + 1 ≤ 100000) {e' : Nat} (he : e' ≤ n)
    (hg : (w.alloc o).grownBy w6 vr.ownBlock) (hown : w6.ownsRow B 9 1 (.slice (some ⟨gg, 0, none⟩) (R.length + 1) cc) (R.length + 1) (strs R ++ [.string (bs r)])) (hat : vr.ownBlock = some gg ∨ gg = w.heap.size + 1) :
    RLogAt ((w6.setCell ⟨q, 3, none⟩ (.int .i64 (e' : Int))).setCell ⟨q, 1, none⟩ (.slice (some ⟨gg, 0, none⟩) (R.length + 1) cc)) B q p n v u (.slice (some ⟨gg, 0, none⟩) (R.length + 1) cc) D P (R ++ [r]) s e' ∧ Fresh w vr (.slice (some ⟨gg, 0, none⟩) (R.length + 1) cc) ∧
      Elses (RLOwn q p v u vr) w ((w6.setCell ⟨q, 3, none⟩ (.int .i64 (e' : Int))).setCell ⟨q, 1, none⟩ (.slice (some ⟨gg, 0, none⟩) (R.length + 1) cc)) := by
  have hE6 : Elses (fun k => vr.ownBlock = some k) w w6 := ((Elses.refl _ w).alloc o).grown hg fun k hk => .inl hk
  have hq6 : Elses (fun k => k = q) w6 ((w6.setCell ⟨q, 3, none⟩ (.int .i64 (e' : Int))).setCell ⟨q, 1, none⟩ (.slice (some ⟨gg, 0, none⟩) (R.length + 1) cc)) := ((Elses.refl (fun k => k = q) w6).set (p := ⟨q, 3, none⟩) (.inl rfl) _).set (p := ⟨q, 1, none⟩) (.inl rfl) _
  have hgq : gg ≠ q := by
    rcases hat with e | e
    · exact fun x => h.q_ne (x ▸ e)
    · have := h.l.lt; omega
  refine ⟨{ h with d := (h.d.kept hE6 fun k hk e => h.r_far k e hk).kept hq6 fun k hk e => h.q_far (e ▸ hk), l := ?_, r := ?_, hs := ?_, few := ?_, he := he, ne := ?_ }, ?_, (hE6.mono fun i hi => .inr (.inr hi)).trans (hq6.mono fun i hi => .inr (.inl hi))⟩
  · have := ((h.l.kept hE6 h.q_ne).set 3 (.int .i64 (e' : Int))).set 1 (.slice (some ⟨gg, 0, none⟩) (R.length + 1) cc)
    simpa using this
  · rw [List.length_append, strs_append]
    exact ownsRow_kept hown hq6 fun k hk e => hgq (by simp only [Value.ownBlock, Option.some.injEq] at hk; exact hk.trans e)
  · rw [List.length_append]
    have := h.hs
    omega
  · rw [List.length_append]
    exact hR
  · intro k hk e1
    simp only [Value.ownBlock, Option.some.injEq] at hk
    subst hk
    rcases hat with e | e
    · exact h.ne _ e e1
    · have := (h.d.dur.lt _ e1).2
      omega
  · rcases hat with e | e
    · exact .inl e.symm
    · exact .inr ⟨gg, by omega, rfl⟩
end
theorem rlappend_long (a : Value) (w : World) (s : ByteArray) (hs : 4400 < s.size) : Calls Try.prog 38 #[a, .string s] w fun e w' => e = .returned (.int .i64 4) ∧ w = w' := by
  have hs' : (4400 : Int) < (s.size : Int) := by omega
  have hd : decide ((4400 : Int) < (s.size : Int)) = true := decide_eq_true hs'
  go_enter Try.func38, Try.ntmps38
  go_wp2_with fail
  go_ret
  exact ⟨rfl, rfl⟩
set_option maxHeartbeats 1000000 in
theorem rlappend_full (B q p n : Nat) (v u vr : Value) (D : List UInt8) (P : List (Nat × List UInt8)) (R : List (List UInt8)) (s e : Nat) (w : World) (h : RLogAt w B q p n v u vr D P R s e) (r : List UInt8) (hr : r.length ≤ 4400) (hfit : n < e + needN r.length) :
    Calls Try.prog 38 #[.pointer (some ⟨q, 0, none⟩), .string (bs r)] w fun e' w' => e' = .returned (.int .i64 13) ∧ Below w.heap.size w w' := by
  have h0 := h.l.cell 0
  have h3 := h.l.cell 3
  have hd0 := h.d.c0
  simp only [List.getElem?_cons_zero, List.getElem?_cons_succ] at h0 h3
  obtain ⟨gd, cd, rfl, _, _⟩ := h.d.dur.form h.d.pos
  have hn := h.d.top
  have hen := h.he
  have hsz : (bs r).size = r.length := bs_size r
  have hd : decide ((4400 : Int) < (r.length : Int)) = false := by rw [decide_eq_false_iff_not]; omega
  obtain ⟨m, hm⟩ : ∃ m, m = needN r.length := ⟨_, rfl⟩
  have hm9 := needN_le r.length hr
  rw [← hm] at hfit hm9
  have hgt : (n : Int) < (e : Int) + (m : Int) := by omega
  have HQ1 := Lib.hid (show ∀ j, Calls Try.prog 33 #[.int .i64 (r.length : Int)] (w.drewN j) fun e w' => e = .returned (.int .i64 (m : Int)) ∧ ∃ k, w' = (w.drewN j).drewN k from fun j => (rneed_ok r.length hr _).mono fun e w' ⟨h1, h2⟩ => ⟨by rw [hm]; exact h1, 0, h2.symm⟩)
  clear h hm
  go_enter Try.func38, Try.ntmps38
  go_wp2_with fail
  go_quiet ((first | (go_at_call 33; exact Calls.quiet_of (HQ1.out _))))
  go_wp2_with fail
  go_ret
  exact ⟨rfl, below_drewN (Below.refl _ w) _⟩
set_option maxRecDepth 100000 in
set_option maxHeartbeats 4000000 in
theorem rlappend_ok (B q p n : Nat) (v u vr : Value) (D : List UInt8) (P : List (Nat × List UInt8)) (R : List (List UInt8)) (s e : Nat) (w : World) (h : RLogAt w B q p n v u vr D P R s e) (r : List UInt8) (hr : r.length ≤ 4400) (hfit : e + needN r.length ≤ n) (hP : P.length ≤ 90000) (hR : R.length ≤ 90000) :
    Calls Try.prog 38 #[.pointer (some ⟨q, 0, none⟩), .string (bs r)] w fun e' w' => e' = .returned (.int .i64 0) ∧ (∃ u' vr', RLogAt w' B q p n v u' vr' D (P ++ fwL e r) (R ++ [r]) s (e + needN r.length) ∧ Fresh w vr vr') ∧ Elses (RLOwn q p v u vr) w w' := by
  have h0 := h.l.cell 0
  have h3 := h.l.cell 3
  have hd0 := h.d.c0
  simp only [List.getElem?_cons_zero, List.getElem?_cons_succ] at h0 h3
  obtain ⟨gd, cd, rfl, _, _⟩ := h.d.dur.form h.d.pos
  have hn := h.d.top
  have hen := h.he
  have hsz : (bs r).size = r.length := bs_size r
  have hd : decide ((4400 : Int) < (r.length : Int)) = false := by rw [decide_eq_false_iff_not]; omega
  obtain ⟨m, hm⟩ : ∃ m, m = needN r.length := ⟨_, rfl⟩
  have HM := Lib.hid hm
  have hm9 := needN_le r.length hr
  have hm1 := needN_pos r.length
  rw [← hm] at hfit hm9 hm1 ⊢
  have hgt : ¬ (n : Int) < (e : Int) + (m : Int) := by omega
  have HQ1 := Lib.hid (show ∀ j, Calls Try.prog 33 #[.int .i64 (r.length : Int)] (w.drewN j) fun e w' => e = .returned (.int .i64 (m : Int)) ∧ ∃ k, w' = (w.drewN j).drewN k from fun j => (rneed_ok r.length hr _).mono fun e w' ⟨h1, h2⟩ => ⟨by rw [hm]; exact h1, 0, h2.symm⟩)
  have HFM := Lib.hid (rframe_ok (e : Int) e rfl (by omega) r hr)
  have H := Lib.hid h
  clear h hm
  go_enter Try.func38, Try.ntmps38
  go_wp2_with fail
  go_quiet ((first | (go_at_call 33; exact Calls.quiet_of (HQ1.out _))))
  have H0 := Lib.hid (H.out.new (below_drewN (Below.refl _ w) nq))
  have HB0 := Lib.hid (below_drewN (Below.refl w.heap.size w) nq)
  obtain ⟨w0, hw0⟩ : ∃ w0, w0 = w.drewN nq := ⟨_, rfl⟩
  have h30 := H0.out.l.cell 3
  simp only [List.getElem?_cons_zero, List.getElem?_cons_succ] at h30
  rw [← hw0] at H0 HB0 h30 ⊢
  clear hw0 h0 h3 hd0
  go_wp2_with fail
  refine (HFM.out _).mono ?_
  rintro e' w2 ⟨vf, rfl, hof, hb2⟩
  rw [frameS_length, ← HM.out] at hof
  obtain ⟨gf, cf, rfl⟩ := ownsRow_pos hof hm1
  have H2 := Lib.hid (H0.out.new hb2)
  have HB2 := Lib.hid (HB0.out.trans (hb2.mono HB0.out.size))
  have HOF := Lib.hid (row_mono hof HB0.out.size)
  clear hof hb2 h30
  go_wp2_with fail
  go_loopw [6] (fun iv wr => ∃ (k : Nat) (u' : Value), k ≤ m ∧ iv = .int .i64 (k : Int) ∧ Hid (RLogAt wr B q p n (.slice (some ⟨gd, 0, none⟩) n cd) u' vr D (P ++ (fwL e r).take k) R s e) ∧ Hid (Fresh w u u') ∧ Hid (Elses (RLOwn q p (.slice (some ⟨gd, 0, none⟩) n cd) u vr) w wr) ∧ Hid (wr.ownsRow w.heap.size 9 1 (.slice (some ⟨gf, 0, none⟩) m cf) m (strs (frameS e r)))) (fun iv _ => m - (intOf iv).toNat)
  case atStart => exact ⟨0, u, Nat.zero_le _, rfl, show RLogAt _ _ _ _ _ _ _ _ _ _ _ _ _ by simpa using H2.out, Fresh.refl _ _, .of_below' HB2.out, HOF.out⟩
  case round =>
    obtain ⟨k, u', hk, rfl, HL, HV, HE, HO⟩ := hrel
    obtain ⟨wi, rfl⟩ : ∃ wi, wi = wr := ⟨wr, rfl⟩
    by_cases hlt : k < m
    · have hk' : (k : Int) < (m : Int) := by omega
      have hk0 : (0 : Int) ≤ (k : Int) := by omega
      obtain ⟨F, hF⟩ : ∃ F, F = frameI e r k := ⟨_, rfl⟩
      have hFl : F.length = 512 := by rw [hF]; exact frameI_length e r k
      have hck : wi.cell? ⟨gf, k, none⟩ = some (.string (bs F)) := by
        have := HO.out.cells (g := gf) rfl k (.string (bs F)) (by rw [strs_get _ k (by rw [frameS_length, ← HM.out]; exact hlt), hF]; simp [frameS])
        rw [addr_add, Nat.zero_add] at this
        exact this
      have c0 := HL.out.l.cell 0
      have c3 := HL.out.l.cell 3
      simp only [List.getElem?_cons_zero, List.getElem?_cons_succ] at c0 c3
      have HF := Lib.hid (And.intro hF hFl)
      have hfew : (P ++ (fwL e r).take k).length < 100000 := by
        rw [List.length_append, List.length_take, fwL_length, ← HM.out]
        omega
      have HFW := Lib.hid hfew
      have hek : e + k < n := by omega
      have hwr : IntKind.i64.wrap ((e : Int) + (k : Int)) = ((e + k : Nat) : Int) := by rw [IntWalk.i64_in _ (by omega)]; omega
      have hS0 : wi.drew.cell? ⟨q, 0, none⟩ = some (.pointer (some ⟨p, 0, none⟩)) ∧ wi.drew.cell? ⟨q, 3, none⟩ = some (.int .i64 (e : Int)) ∧ wi.drew.cell? ⟨gf, k, none⟩ = some (.string (bs F)) := ⟨c0, c3, hck⟩
      have HW := Lib.hid ((refwrite_ok _ _ _ _ _ _ _ wi.drew HL.out.d.drew (e + k) hek F (by omega) HFW.out))
      clear hF hfew c0 c3 hck
      go_wp2_with fail
      refine start_ (n := 15) (S := (fun w' => w'.cell? ⟨q, 0, none⟩ = some (.pointer (some ⟨p, 0, none⟩)) ∧ w'.cell? ⟨q, 3, none⟩ = some (.int .i64 (e : Int)) ∧ w'.cell? ⟨gf, k, none⟩ = some (.string (bs F)))) (ds := [14]) #[false, false, false, false, false, false, false, false, false, false, false, false, false, false, false] (by as_aux_lemma => kernel_rfl) rfl rfl (hS0) (fun hHeld => ?_)
      refine pure_ (i := 0) (N := some 39) (v := ?_) (a' := ?_) #[true, false, false, false, false, false, false, false, false, false, false, false, false, false, false] rfl rfl (by as_aux_lemma => kernel_rfl) (fun _ _ _ h => h) (Or.inl ⟨by rfl, ?_⟩) ?_ ?_
      rotate_left
      ·intro w'
       go_simp
       with_reducible rfl
      rotate_left
      ·simp only [Act.put, List.setIfInBounds_toArray, List.set_cons_zero, List.set_cons_succ, i64_w, i32_w]
       rfl
      refine pure_ (i := 1) (N := some 40) (v := ?_) (a' := ?_) #[true, true, false, false, false, false, false, false, false, false, false, false, false, false, false] rfl rfl (by as_aux_lemma => kernel_rfl) (fun _ _ _ h => h) (Or.inl ⟨by rfl, ?_⟩) ?_ ?_
      rotate_left
      ·intro w'
       go_simp
       with_reducible rfl
      rotate_left
      ·simp only [Act.put, List.setIfInBounds_toArray, List.set_cons_zero, List.set_cons_succ, i64_w, i32_w]
       rfl
      refine pure_ (i := 2) (N := some 41) (v := ?_) (a' := ?_) #[true, true, true, false, false, false, false, false, false, false, false, false, false, false, false] rfl rfl (by as_aux_lemma => kernel_rfl) (fun _ _ _ h => h) (Or.inl ⟨by rfl, ?_⟩) ?_ ?_
      rotate_left
      ·intro w'
       go_simp
       with_reducible rfl
      rotate_left
      ·simp only [Act.put, List.setIfInBounds_toArray, List.set_cons_zero, List.set_cons_succ, i64_w, i32_w]
       rfl
      refine take_ (i := 3) (N := some 42) (v := ?_) (a' := ?_) #[true, true, true, true, false, false, false, false, false, false, false, false, false, false, false] rfl rfl (by as_aux_lemma => kernel_rfl) (fun _ _ _ h => h) (Or.inl ⟨by rfl, ?_⟩) hHeld ?_ ?_
      rotate_left
      ·rintro w' ⟨s0, s3, s9⟩
       go_simp
       with_reducible rfl
      rotate_left
      ·simp only [Act.put, List.setIfInBounds_toArray, List.set_cons_zero, List.set_cons_succ, i64_w, i32_w]
       rfl
      refine pure_ (i := 4) (N := some 43) (v := ?_) (a' := ?_) #[true, true, true, true, true, false, false, false, false, false, false, false, false, false, false] rfl rfl (by as_aux_lemma => kernel_rfl) (fun _ _ _ h => h) (Or.inl ⟨by rfl, ?_⟩) ?_ ?_
      rotate_left
      ·intro w'
       go_simp
       with_reducible rfl
      rotate_left
      ·simp only [Act.put, List.setIfInBounds_toArray, List.set_cons_zero, List.set_cons_succ, i64_w, i32_w]
       rfl
      refine pure_ (i := 5) (N := some 44) (v := ?_) (a' := ?_) #[true, true, true, true, true, true, false, false, false, false, false, false, false, false, false] rfl rfl (by as_aux_lemma => kernel_rfl) (fun _ _ _ h => h) (Or.inl ⟨by rfl, ?_⟩) ?_ ?_
      rotate_left
      ·intro w'
       go_simp
       with_reducible rfl
      rotate_left
      ·simp only [Act.put, List.setIfInBounds_toArray, List.set_cons_zero, List.set_cons_succ, i64_w, i32_w]
       rfl
      refine pure_ (i := 6) (N := some 45) (v := ?_) (a' := ?_) #[true, true, true, true, true, true, true, false, false, false, false, false, false, false, false] rfl rfl (by as_aux_lemma => kernel_rfl) (fun _ _ _ h => h) (Or.inl ⟨by rfl, ?_⟩) ?_ ?_
      rotate_left
      ·intro w'
       go_simp
       with_reducible rfl
      rotate_left
      ·simp only [Act.put, List.setIfInBounds_toArray, List.set_cons_zero, List.set_cons_succ, i64_w, i32_w]
       rfl
      refine take_ (i := 7) (N := some 46) (v := ?_) (a' := ?_) #[true, true, true, true, true, true, true, true, false, false, false, false, false, false, false] rfl rfl (by as_aux_lemma => kernel_rfl) (fun _ _ _ h => h) (Or.inl ⟨by rfl, ?_⟩) hHeld ?_ ?_
      rotate_left
      ·rintro w' ⟨s0, s3, s9⟩
       go_simp
       with_reducible rfl
      rotate_left
      ·simp only [Act.put, List.setIfInBounds_toArray, List.set_cons_zero, List.set_cons_succ, i64_w, i32_w]
       rfl
      refine pure_ (i := 8) (N := some 47) (v := ?_) (a' := ?_) #[true, true, true, true, true, true, true, true, true, false, false, false, false, false, false] rfl rfl (by as_aux_lemma => kernel_rfl) (fun _ _ _ h => h) (Or.inl ⟨by rfl, ?_⟩) ?_ ?_
      rotate_left
      ·intro w'
       go_simp
       with_reducible rfl
      rotate_left
      ·simp only [Act.put, List.setIfInBounds_toArray, List.set_cons_zero, List.set_cons_succ, i64_w, i32_w]
       rfl
      refine pure_ (i := 9) (N := some 48) (v := ?_) (a' := ?_) #[true, true, true, true, true, true, true, true, true, true, false, false, false, false, false] rfl rfl (by as_aux_lemma => kernel_rfl) (fun _ _ _ h => h) (Or.inl ⟨by rfl, ?_⟩) ?_ ?_
      rotate_left
      ·intro w'
       go_simp
       with_reducible rfl
      rotate_left
      ·simp only [Act.put, List.setIfInBounds_toArray, List.set_cons_zero, List.set_cons_succ, i64_w, i32_w]
       rfl
      refine pure_ (i := 10) (N := some 49) (v := ?_) (a' := ?_) #[true, true, true, true, true, true, true, true, true, true, true, false, false, false, false] rfl rfl (by as_aux_lemma => kernel_rfl) (fun _ _ _ h => h) (Or.inl ⟨by rfl, ?_⟩) ?_ ?_
      rotate_left
      ·intro w'
       go_simp
       with_reducible rfl
      rotate_left
      ·simp only [Act.put, List.setIfInBounds_toArray, List.set_cons_zero, List.set_cons_succ, i64_w, i32_w]
       rfl
      refine pure_ (i := 11) (N := some 50) (v := ?_) (a' := ?_) #[true, true, true, true, true, true, true, true, true, true, true, true, false, false, false] rfl rfl (by as_aux_lemma => kernel_rfl) (fun _ _ _ h => h) (Or.inl ⟨by rfl, ?_⟩) ?_ ?_
      rotate_left
      ·intro w'
       go_simp
       with_reducible rfl
      rotate_left
      ·simp only [Act.put, List.setIfInBounds_toArray, List.set_cons_zero, List.set_cons_succ, i64_w, i32_w]
       rfl
      refine pure_ (i := 12) (N := some 51) (v := ?_) (a' := ?_) #[true, true, true, true, true, true, true, true, true, true, true, true, true, false, false] rfl rfl (by as_aux_lemma => kernel_rfl) (fun _ _ _ h => h) (Or.inl ⟨by rfl, ?_⟩) ?_ ?_
      rotate_left
      ·intro w'
       go_simp
       with_reducible rfl
      rotate_left
      ·simp only [Act.put, List.setIfInBounds_toArray, List.set_cons_zero, List.set_cons_succ, i64_w, i32_w]
       rfl
      refine take_ (i := 13) (N := some 52) (v := ?_) (a' := ?_) #[true, true, true, true, true, true, true, true, true, true, true, true, true, true, false] rfl rfl (by as_aux_lemma => kernel_rfl) (fun _ _ _ h => h) (Or.inl ⟨by rfl, ?_⟩) hHeld ?_ ?_
      rotate_left
      ·rintro w' ⟨s0, s3, s9⟩
       go_simp
       with_reducible rfl
      rotate_left
      ·simp only [Act.put, List.setIfInBounds_toArray, List.set_cons_zero, List.set_cons_succ, i64_w, i32_w]
       rfl
      refine last_ (i := 14) (N := some 53) #[true, true, true, true, true, true, true, true, true, true, true, true, true, true, true] rfl rfl (by as_aux_lemma => kernel_rfl) (by decide) (fun K hK => ?_)
      refine goes_ Try.func60 (by as_aux_lemma => kernel_rfl) rfl #[.pointer (some ⟨p, 0, none⟩), .int .i64 ((e + k : Nat) : Int), .string (bs F)] (by rfl) rfl rfl (by (try simp only [List.map_toArray, List.map_cons, List.map_nil]); first | done | rfl) ?_
      refine (HW.out).mono ?_
      rintro e' wb ⟨rfl, ⟨u2, hdb, hub⟩, heb⟩
      have hLB := HL.out.new (Below.refl _ wi).drew
      rw [HF.out.2, Nat.sub_self] at hdb
      have HL2 := Lib.hid (show RLogAt wb B q p n (.slice (some ⟨gd, 0, none⟩) n cd) u2 vr D (P ++ (fwL e r).take (k + 1)) R s e from by
        rw [fwL_take e r k (by rw [← HM.out]; exact hlt), ← HF.out.1, ← List.append_assoc]
        have := hLB.disk hdb heb
        simpa [zeros] using this)
      have HV2 := Lib.hid (HV.out.trans hub HE.out.size)
      have HO2 := Lib.hid (ownsRow_kept (show wi.drew.ownsRow _ _ _ _ _ _ from HO.out) heb fun b hb hk2 => by
        rcases hk2 with e1 | e1 | e1
        · exact row_ne (show wi.drew.ownsRow _ _ _ _ _ _ from HO.out) HL.out.d.drew.blk (by decide) (e1 ▸ hb)
        · have h1 := (HO.out.lt b hb).1
          have h2 := (H.out.d.dur.lt b e1).2
          omega
        · exact rows_ne (show wi.drew.ownsRow _ _ _ _ _ _ from HO.out) HL.out.d.drew.pend (by decide) b hb e1)
      have HE2 := Lib.hid (HE.out.drew.trans' heb fun i hi => by
        rcases hi with rfl | hi | hi
        · exact .inl (.inl (.inl rfl))
        · exact .inl (.inl (.inr (.inl hi)))
        · rcases HV.out with e1 | ⟨k1, hk1, e1⟩
          · exact .inl (.inl (.inr (.inr (e1 ▸ hi))))
          · rw [e1] at hi
            cases hi
            exact .inr hk1)
      clear hdb hub heb hLB
      refine ⟨_, rfl, ?_⟩
      refine hK.out _ _ ?_
      clear hK K
      refine norm_ (a' := ?_) ?_ ?_
      rotate_left
      ·show Act.put _ (some 53) _ = _
       simp only [Act.put, List.setIfInBounds_toArray, List.set_cons_zero, List.set_cons_succ, i64_w, i32_w]
       rfl
      refine done_ (by as_aux_lemma => kernel_rfl) ?_
      go_wp2_with fail
      go_roundw
      case rel =>
        refine ⟨k + 1, u2, by omega, by go_num, HL2.out, HV2.out, HE2.out, HO2.out⟩
      case measure => simp [intOf]; omega
    · have hk' : ¬ (k : Int) < (m : Int) := by omega
      obtain rfl : k = m := by omega
      have HL2 := Lib.hid (show RLogAt wi.drew B q p n (.slice (some ⟨gd, 0, none⟩) n cd) u' vr D (P ++ fwL e r) R s e by
        have := HL.out.new (Below.refl _ wi).drew
        rw [List.take_of_length_le (by rw [fwL_length, ← HM.out]; exact Nat.le_refl _)] at this
        exact this)
      have c1 := HL2.out.l.cell 1
      have c3 := HL2.out.l.cell 3
      simp only [List.getElem?_cons_zero, List.getElem?_cons_succ] at c1 c3
      obtain ⟨i9, hi0, hz0, hz1, hz2⟩ := info_parts info9
      have HI := Lib.hid (And.intro hi0 (And.intro hz0 (And.intro hz1 hz2)))
      have hql := HL2.out.l.lt
      have hbase := HL2.out.base
      have hqr := HL2.out.q_ne
      have hek : (e : Int) + (k : Int) ≤ 1024 := by omega
      have HEK := Lib.hid (show e + k ≤ n by omega)
      have hwr : IntKind.i64.wrap ((e : Int) + (k : Int)) = ((e + k : Nat) : Int) := by rw [IntWalk.i64_in _ (by omega)]; omega
      clear hi0 hz0 hz1 hz2
      go_wp2_with fail
      have hS0 : wi.drew.drew.cell? ⟨q, 1, none⟩ = some vr ∧ wi.drew.drew.cell? ⟨q, 3, none⟩ = some (.int .i64 (e : Int)) := ⟨c1, c3⟩
      refine start_ (n := 22) (S := (fun w' => w'.cell? ⟨q, 1, none⟩ = some vr ∧ w'.cell? ⟨q, 3, none⟩ = some (.int .i64 (e : Int)))) (ds := [18, 21]) #[false, false, false, false, false, false, false, false, false, false, false, false, false, false, false, false, false, false, false, false, false, false] (by as_aux_lemma => kernel_rfl) rfl rfl (hS0) (fun hHeld => ?_)
      refine pure_ (i := 0) (N := some 54) (v := ?_) (a' := ?_) #[true, false, false, false, false, false, false, false, false, false, false, false, false, false, false, false, false, false, false, false, false, false] rfl rfl (by as_aux_lemma => kernel_rfl) (fun _ _ _ h => h) (Or.inl ⟨by rfl, ?_⟩) ?_ ?_
      rotate_left
      ·intro w'
       go_simp
       with_reducible rfl
      rotate_left
      ·simp only [Act.put, List.setIfInBounds_toArray, List.set_cons_zero, List.set_cons_succ, i64_w, i32_w]
       rfl
      refine pure_ (i := 1) (N := some 55) (v := ?_) (a' := ?_) #[true, true, false, false, false, false, false, false, false, false, false, false, false, false, false, false, false, false, false, false, false, false] rfl rfl (by as_aux_lemma => kernel_rfl) (fun _ _ _ h => h) (Or.inl ⟨by rfl, ?_⟩) ?_ ?_
      rotate_left
      ·intro w'
       go_simp
       with_reducible rfl
      rotate_left
      ·simp only [Act.put, List.setIfInBounds_toArray, List.set_cons_zero, List.set_cons_succ, i64_w, i32_w]
       rfl
      refine pure_ (i := 2) (N := some 56) (v := ?_) (a' := ?_) #[true, true, true, false, false, false, false, false, false, false, false, false, false, false, false, false, false, false, false, false, false, false] rfl rfl (by as_aux_lemma => kernel_rfl) (fun _ _ _ h => h) (Or.inl ⟨by rfl, ?_⟩) ?_ ?_
      rotate_left
      ·intro w'
       go_simp
       with_reducible rfl
      rotate_left
      ·simp only [Act.put, List.setIfInBounds_toArray, List.set_cons_zero, List.set_cons_succ, i64_w, i32_w]
       rfl
      refine pure_ (i := 3) (N := some 57) (v := ?_) (a' := ?_) #[true, true, true, true, false, false, false, false, false, false, false, false, false, false, false, false, false, false, false, false, false, false] rfl rfl (by as_aux_lemma => kernel_rfl) (fun _ _ _ h => h) (Or.inl ⟨by rfl, ?_⟩) ?_ ?_
      rotate_left
      ·intro w'
       go_simp
       with_reducible rfl
      rotate_left
      ·simp only [Act.put, List.setIfInBounds_toArray, List.set_cons_zero, List.set_cons_succ, i64_w, i32_w]
       rfl
      refine pure_ (i := 4) (N := some 58) (v := ?_) (a' := ?_) #[true, true, true, true, true, false, false, false, false, false, false, false, false, false, false, false, false, false, false, false, false, false] rfl rfl (by as_aux_lemma => kernel_rfl) (fun _ _ _ h => h) (Or.inl ⟨by rfl, ?_⟩) ?_ ?_
      rotate_left
      ·intro w'
       go_simp
       with_reducible rfl
      rotate_left
      ·simp only [Act.put, List.setIfInBounds_toArray, List.set_cons_zero, List.set_cons_succ, i64_w, i32_w]
       rfl
      refine take_ (i := 5) (N := some 59) (v := ?_) (a' := ?_) #[true, true, true, true, true, true, false, false, false, false, false, false, false, false, false, false, false, false, false, false, false, false] rfl rfl (by as_aux_lemma => kernel_rfl) (fun _ _ _ h => h) (Or.inl ⟨by rfl, ?_⟩) hHeld ?_ ?_
      rotate_left
      ·rintro w' ⟨s1, s3⟩
       go_simp
       with_reducible rfl
      rotate_left
      ·simp only [Act.put, List.setIfInBounds_toArray, List.set_cons_zero, List.set_cons_succ, i64_w, i32_w]
       rfl
      refine pure_ (i := 6) (N := some 60) (v := ?_) (a' := ?_) #[true, true, true, true, true, true, true, false, false, false, false, false, false, false, false, false, false, false, false, false, false, false] rfl rfl (by as_aux_lemma => kernel_rfl) (fun _ _ _ h => h) (Or.inl ⟨by rfl, ?_⟩) ?_ ?_
      rotate_left
      ·intro w'
       go_simp
       with_reducible rfl
      rotate_left
      ·simp only [Act.put, List.setIfInBounds_toArray, List.set_cons_zero, List.set_cons_succ, i64_w, i32_w]
       rfl
      refine pure_ (i := 7) (N := some 61) (v := ?_) (a' := ?_) #[true, true, true, true, true, true, true, true, false, false, false, false, false, false, false, false, false, false, false, false, false, false] rfl rfl (by as_aux_lemma => kernel_rfl) (fun _ _ _ h => h) (Or.inl ⟨by rfl, ?_⟩) ?_ ?_
      rotate_left
      ·intro w'
       go_simp
       with_reducible rfl
      rotate_left
      ·simp only [Act.put, List.setIfInBounds_toArray, List.set_cons_zero, List.set_cons_succ, i64_w, i32_w]
       rfl
      refine pure_ (i := 8) (N := some 62) (v := ?_) (a' := ?_) #[true, true, true, true, true, true, true, true, true, false, false, false, false, false, false, false, false, false, false, false, false, false] rfl rfl (by as_aux_lemma => kernel_rfl) (fun _ _ _ h => h) (Or.inl ⟨by rfl, ?_⟩) ?_ ?_
      rotate_left
      ·intro w'
       go_simp
       with_reducible rfl
      rotate_left
      ·simp only [Act.put, List.setIfInBounds_toArray, List.set_cons_zero, List.set_cons_succ, i64_w, i32_w]
       rfl
      refine pure_ (i := 9) (N := some 63) (v := ?_) (a' := ?_) #[true, true, true, true, true, true, true, true, true, true, false, false, false, false, false, false, false, false, false, false, false, false] rfl rfl (by as_aux_lemma => kernel_rfl) (fun _ _ _ h => h) (Or.inl ⟨by rfl, ?_⟩) ?_ ?_
      rotate_left
      ·intro w'
       go_simp
       with_reducible rfl
      rotate_left
      ·simp only [Act.put, List.setIfInBounds_toArray, List.set_cons_zero, List.set_cons_succ, i64_w, i32_w]
       rfl
      refine pure_ (i := 10) (N := some 64) (v := ?_) (a' := ?_) #[true, true, true, true, true, true, true, true, true, true, true, false, false, false, false, false, false, false, false, false, false, false] rfl rfl (by as_aux_lemma => kernel_rfl) (fun _ _ _ h => h) (Or.inl ⟨by rfl, ?_⟩) ?_ ?_
      rotate_left
      ·intro w'
       go_simp
       with_reducible rfl
      rotate_left
      ·simp only [Act.put, List.setIfInBounds_toArray, List.set_cons_zero, List.set_cons_succ, i64_w, i32_w]
       rfl
      refine pure_ (i := 11) (N := some 65) (v := ?_) (a' := ?_) #[true, true, true, true, true, true, true, true, true, true, true, true, false, false, false, false, false, false, false, false, false, false] rfl rfl (by as_aux_lemma => kernel_rfl) (fun _ _ _ h => h) (Or.inl ⟨by rfl, ?_⟩) ?_ ?_
      rotate_left
      ·intro w'
       go_simp
       with_reducible rfl
      rotate_left
      ·simp only [Act.put, List.setIfInBounds_toArray, List.set_cons_zero, List.set_cons_succ, i64_w, i32_w]
       rfl
      refine take_ (i := 12) (N := some 66) (v := ?_) (a' := ?_) #[true, true, true, true, true, true, true, true, true, true, true, true, true, false, false, false, false, false, false, false, false, false] rfl rfl (by as_aux_lemma => kernel_rfl) (fun _ _ _ h => h) (Or.inl ⟨by rfl, ?_⟩) hHeld ?_ ?_
      rotate_left
      ·rintro w' ⟨s1, s3⟩
       go_simp
       with_reducible rfl
      rotate_left
      ·simp only [Act.put, List.setIfInBounds_toArray, List.set_cons_zero, List.set_cons_succ, i64_w, i32_w]
       rfl
      refine pure_ (i := 13) (N := some 67) (v := ?_) (a' := ?_) #[true, true, true, true, true, true, true, true, true, true, true, true, true, true, false, false, false, false, false, false, false, false] rfl rfl (by as_aux_lemma => kernel_rfl) (fun _ _ _ h => h) (Or.inl ⟨by rfl, ?_⟩) ?_ ?_
      rotate_left
      ·intro w'
       go_simp
       with_reducible rfl
      rotate_left
      ·simp only [Act.put, List.setIfInBounds_toArray, List.set_cons_zero, List.set_cons_succ, i64_w, i32_w]
       rfl
      refine one_ (i := 14) (N := some 68) #[true, true, true, true, true, true, true, true, true, true, true, true, true, true, true, false, false, false, false, false, false, false] rfl rfl (by as_aux_lemma => kernel_rfl) (by decide) (fun K hK => ?_)
      refine value_ (v := .slice (some ⟨wi.heap.size, 0, none⟩) 1 1) (w1 := wi.drew.alloc (.cells [Value.string (bs r)].toArray 9)) (by rfl) rfl ?_ ?_
      ·go_simp
      refine hK.out _ _ (⟨(HL2.out.l.alloc _).cell 1, (HL2.out.l.alloc _).cell 3⟩) (fun hHeld2 => ?_)
      clear hK K hHeld
      have hHeld := hHeld2
      clear hHeld2
      refine norm_ (a' := ?_) ?_ ?_
      rotate_left
      ·show Act.put _ (some 68) _ = _
       simp only [Act.put, List.setIfInBounds_toArray, List.set_cons_zero, List.set_cons_succ, i64_w, i32_w]
       rfl
      refine one_ (i := 15) (N := some 69) #[true, true, true, true, true, true, true, true, true, true, true, true, true, true, true, true, false, false, false, false, false, false] rfl rfl (by as_aux_lemma => kernel_rfl) (by decide) (fun K hK => ?_)
      refine step_append_lies _ (by rfl) _ _ _ (by rfl) B 9 i9 (.string ⟨#[]⟩) 1 16 Try.underlying34 HI.out.1 HI.out.2.1 HI.out.2.2.1 HI.out.2.2.2 (by rfl) (by decide) vr R.length (strs R) (by rfl) (own_alloc HL2.out.r _) ⟨wi.heap.size, 0, none⟩ 1 1 [.string (bs r)] (by rfl) (by rfl) (cell_one_new _ _ _) (by intro u hu; rw [List.mem_singleton.1 hu]; rfl) (by decide) (by unfold maxLen; omega) (by omega) (by have := HL2.out.base; simp at this ⊢; omega) (wi.heap.size + 1) (by simp) ?_
      intro gg cc w6 hown hgrow hat hlt1
      have hb6 := (HL2.out.l.alloc (.cells [Value.string (bs r)].toArray 9)).kept ((Elses.refl (fun b => vr.ownBlock = some b) _).grown hgrow fun b hb => .inl hb) hqr
      have HB6 := Lib.hid hb6
      have HPU := Lib.hid (HL2.out.push r (.cells [Value.string (bs r)].toArray 9) (by omega) HEK.out hgrow hown hat)
      clear hown hgrow hat hlt1 hb6
      refine hK.out _ _ (⟨HB6.out.cell 1, HB6.out.cell 3⟩) (fun hHeld2 => ?_)
      clear hK K hHeld
      have hHeld := hHeld2
      clear hHeld2
      refine norm_ (a' := ?_) ?_ ?_
      rotate_left
      ·show Act.put _ (some 69) _ = _
       simp only [Act.put, List.setIfInBounds_toArray, List.set_cons_zero, List.set_cons_succ, i64_w, i32_w]
       rfl
      refine pure_ (i := 16) (N := some 70) (v := ?_) (a' := ?_) #[true, true, true, true, true, true, true, true, true, true, true, true, true, true, true, true, true, false, false, false, false, false] rfl rfl (by as_aux_lemma => kernel_rfl) (fun _ _ _ h => h) (Or.inl ⟨by rfl, ?_⟩) ?_ ?_
      rotate_left
      ·intro w'
       go_simp
       with_reducible rfl
      rotate_left
      ·simp only [Act.put, List.setIfInBounds_toArray, List.set_cons_zero, List.set_cons_succ, i64_w, i32_w]
       rfl
      refine pure_ (i := 17) (N := some 71) (v := ?_) (a' := ?_) #[true, true, true, true, true, true, true, true, true, true, true, true, true, true, true, true, true, true, false, false, false, false] rfl rfl (by as_aux_lemma => kernel_rfl) (fun _ _ _ h => h) (Or.inl ⟨by rfl, ?_⟩) ?_ ?_
      rotate_left
      ·intro w'
       go_simp
       with_reducible rfl
      rotate_left
      ·simp only [Act.put, List.setIfInBounds_toArray, List.set_cons_zero, List.set_cons_succ, i64_w, i32_w]
       rfl
      have d3 := HB6.out.cell 3
      have f3 := HB6.out.frozen 3
      simp only [List.getElem?_cons_zero, List.getElem?_cons_succ] at d3
      refine last_ (i := 18) (N := none) #[true, true, true, true, true, true, true, true, true, true, true, true, true, true, true, true, true, true, true, false, false, false] rfl rfl (by as_aux_lemma => kernel_rfl) (by decide) (fun K hK => ?_)
      refine skip_ (w1 := w6.setCell ⟨q, 3, none⟩ (.int .i64 ((e + k : Nat) : Int))) (by rfl) rfl (by first | (go_simp; done) | (go_simp; rfl)) ?_
      refine hK.out _ _ ?_
      clear hK K
      clear d3 f3
      refine pure_ (i := 19) (N := some 72) (v := ?_) (a' := ?_) #[true, true, true, true, true, true, true, true, true, true, true, true, true, true, true, true, true, true, true, true, false, false] rfl rfl (by as_aux_lemma => kernel_rfl) (fun _ _ _ h => h) (Or.inl ⟨by rfl, ?_⟩) ?_ ?_
      rotate_left
      ·intro w'
       go_simp
       with_reducible rfl
      rotate_left
      ·simp only [Act.put, List.setIfInBounds_toArray, List.set_cons_zero, List.set_cons_succ, i64_w, i32_w]
       rfl
      refine pure_ (i := 20) (N := some 73) (v := ?_) (a' := ?_) #[true, true, true, true, true, true, true, true, true, true, true, true, true, true, true, true, true, true, true, true, true, false] rfl rfl (by as_aux_lemma => kernel_rfl) (fun _ _ _ h => h) (Or.inl ⟨by rfl, ?_⟩) ?_ ?_
      rotate_left
      ·intro w'
       go_simp
       with_reducible rfl
      rotate_left
      ·simp only [Act.put, List.setIfInBounds_toArray, List.set_cons_zero, List.set_cons_succ, i64_w, i32_w]
       rfl
      have g1 := HB6.out.cell 1
      have g2 := HB6.out.frozen 1
      simp only [List.getElem?_cons_zero, List.getElem?_cons_succ] at g1
      have d1 := (HB6.out.set 3 (.int .i64 ((e + k : Nat) : Int))).cell 1
      have f1 := (HB6.out.set 3 (.int .i64 ((e + k : Nat) : Int))).frozen 1
      simp only [List.set_cons_zero, List.set_cons_succ, List.getElem?_cons_zero, List.getElem?_cons_succ] at d1
      refine last_ (i := 21) (N := none) #[true, true, true, true, true, true, true, true, true, true, true, true, true, true, true, true, true, true, true, true, true, true] rfl rfl (by as_aux_lemma => kernel_rfl) (by decide) (fun K hK => ?_)
      refine skip_ (w1 := ((w6.setCell ⟨q, 3, none⟩ (.int .i64 ((e + k : Nat) : Int))).setCell ⟨q, 1, none⟩ (.slice (some ⟨gg, 0, none⟩) (R.length + 1) cc))) (by rfl) rfl (by first | (go_simp; done) | (go_simp; rfl)) ?_
      refine hK.out _ _ ?_
      clear hK K
      clear d1 f1 g1 g2
      refine done_ (by as_aux_lemma => kernel_rfl) ?_
      go_wp2_with fail
      go_ret
      refine ⟨rfl, ⟨u', .slice (some ⟨gg, 0, none⟩) (R.length + 1) cc, ?_, ?_⟩, ?_⟩
      · exact HPU.out.1
      · rcases HPU.out.2.1 with e1 | ⟨x, hx, e1⟩
        · exact .inl e1
        · exact .inr ⟨x, Nat.le_trans HE.out.size hx, e1⟩
      · refine HE.out.drew.trans' HPU.out.2.2 fun i hi => ?_
        rcases hi with (rfl | hi | hi) | hi | hi
        · exact .inl (.inl (.inl rfl))
        · exact .inl (.inl (.inr (.inl hi)))
        · rcases HV.out with e1 | ⟨k1, hk1, e1⟩
          · exact .inl (.inl (.inr (.inr (e1 ▸ hi))))
          · rw [e1] at hi
            cases hi
            exact .inr hk1
        · exact .inl (.inr (.inl hi))
        · exact .inl (.inr (.inr hi))
end Go.Proofs.YtbbnjnpbaekfgaaM
