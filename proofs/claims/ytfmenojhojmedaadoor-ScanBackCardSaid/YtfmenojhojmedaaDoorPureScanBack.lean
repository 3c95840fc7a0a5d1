import Derived.Test.YtfmenojhojmedaaDoorPAx2
import Derived.Test.YtfmenojhojmedaaDoorU6
set_option linter.unusedVariables false
set_option linter.unusedSimpArgs false
namespace Go.Proofs.YtfmenojhojmedaaDoor.Pure
open Go.RowKit Go.Lib Go.Proofs.YtfmenojhojmedaaDoor.PA Go.Proofs.YtfmenojhojmedaaDoorG Go.Proofs.YtfmenojhojmedaaDoorX Go.Proofs.YtfmenojhojmedaaDoorU
open Go.Proofs.YtfmenojhojmedaaDoorV hiding size_list
open Go.Proofs.YtfmenojhojmedaaDoorW.PrintWords hiding encs encs_append
/-- The end: what is read of the string itself. -/
theorem end_ev (s q : ByteArray) (hs : s.size ≤ 2000) (hq : q.size ≤ 1000000) : Ev (fun k => outlawlaw01_ScanBack.l0 k s q ((q.size : Nat) : Int)) true := by
  have hv := unq_val (s := s) (by omega)
  cases hl : litL s.data.toList with
  | error c =>
    rw [hl] at hv
    obtain ⟨K, hK⟩ := hv
    have hc := (litL_err hl).ne
    refine ⟨K + 1, fun k hk => ?_⟩
    obtain ⟨k, rfl⟩ : ∃ m, k = m + 1 := ⟨k - 1, by omega⟩
    have h1 : scan_Unquote.f k s = some (⟨#[]⟩, 0, c) := hK k (by omega)
    (try dsimp only)
    rw [outlawlaw01_ScanBack.l0, if_neg (by omega), h1, Option.bind_some]
    dsimp only
    rw [if_neg hc, if_pos (by rw [toList_data])]
    rfl
  | ok y =>
    obtain ⟨x, t⟩ := y
    obtain ⟨p, rs, hp, _, hrs, rfl, hlen, _, _⟩ := litL_ok hl
    have hsz : s.size = p.length + t.length := by rw [← size_list, hp, List.length_append]
    have hy : (mk (encs rs)).size ≤ 8000 := by rw [mk_size]; omega
    have hqs := quoted_size hrs
    have hempty : quotedS rs ++ (⟨#[]⟩ : ByteArray) = quotedS rs := by apply bytes_ext; rw [list_app]; exact List.append_nil _
    have hw := unq_quoted hrs ⟨#[]⟩ (by rw [hempty]; rw [mk_size] at hy; omega)
    rw [hempty] at hw
    rw [hl] at hv
    obtain ⟨K, hK⟩ := hv
    obtain ⟨K', hK'⟩ := hw
    refine ⟨K + K' + 1, fun k hk => ?_⟩
    obtain ⟨k, rfl⟩ : ∃ m, k = m + 1 := ⟨k - 1, by omega⟩
    have h1 : scan_Unquote.f k s = some (mk (encs rs), ((s.size - t.length : Nat) : Int), 0) := hK k (by omega)
    have h2 : scan_Unquote.f k (quotedS rs) = some (mk (encs rs), ((quotedS rs).size : Int), 0) := hK' k (by omega)
    have h3 := quote_val (s := mk (encs rs)) (by omega) (mk_list _) hrs
    (try dsimp only)
    rw [outlawlaw01_ScanBack.l0, if_neg (by omega), h1, Option.bind_some]
    dsimp only
    rw [if_pos rfl, h3, Option.bind_some]
    dsimp only
    rw [h2, Option.bind_some]
    dsimp only
    rw [if_pos rfl, if_pos rfl, if_pos rfl, decide_eq_true (by omega)]
/-- The loop over a literal's bytes. -/
theorem loop_ev (s q : ByteArray) (hs : s.size ≤ 2000) (hq : q.size ≤ 1000000) (hlow : ∀ b ∈ q.data.toList, 32 ≤ b.toNat) : Ev (fun k => outlawlaw01_ScanBack.l0 k s q 0) true := by
  have h := scan (g := fun k i => outlawlaw01_ScanBack.l0 k s q i) (P := fun n => !decide (n < 32)) (s := q) (m := q.size) (fin := true) (Nat.le_refl _) (end_ev s q hs hq)
    (fun i hi hp r hr => by
      have hp2 : ¬ bt q (i : Int) < 32 := by simpa using hp
      refine Ev.step (f := fun k => outlawlaw01_ScanBack.l0 k s q ((i + 1 : Nat) : Int)) (fun k => ?_) hr
      rw [outlawlaw01_ScanBack.l0, if_pos (by omega), if_pos (by omega), if_neg hp2, wrap_succ hi (by omega)])
    (fun i hi hp => by
      have hp2 : bt q (i : Int) < 32 := by simpa using hp
      refine Ev.step (f := fun k => some false) (fun k => ?_) (Ev.now _)
      rw [outlawlaw01_ScanBack.l0, if_pos (by omega), if_pos (by omega), if_pos hp2])
    q.size 0 (by omega) (Nat.zero_le _)
  rw [allSeg_zero] at h
  have hall : (q.data.toList.all fun b => !decide ((b.toNat : Int) < 32)) = true := by
    rw [List.all_eq_true]
    intro b hb
    have := hlow b hb
    simp
    omega
  rw [hall] at h
  exact h
theorem ScanBack : outlawlaw01_ScanBack.Pure := by
  intro a0 a1 _ _
  refine Ev.rounds (g := fun k => outlawlaw01_ScanBack.f k a0 a1) ?_
  have hf : ∀ k, outlawlaw01_ScanBack.f k a0 a1 = if (a0.size : Int) > 2000 then outlawlaw01_ScanBack.j0 k a0 a1 true else outlawlaw01_ScanBack.j0 k a0 a1 (decide ((a1.size : Int) > 2000)) := fun k => by
    unfold outlawlaw01_ScanBack.f
    rw [lives_val, Option.bind_some]
    exact if_pos rfl
  have hout : ∀ k, outlawlaw01_ScanBack.j0 (k + 1) a0 a1 true = some true := fun k => by
    rw [outlawlaw01_ScanBack.j0, if_pos rfl]
  by_cases c1 : (a0.size : Int) > 2000
  · refine ⟨1, fun k hk => ?_⟩
    obtain ⟨k, rfl⟩ : ∃ m, k = m + 1 := ⟨k - 1, by omega⟩
    (try dsimp only)
    rw [hf, if_pos c1, hout]
  by_cases c2 : (a1.size : Int) > 2000
  · refine ⟨1, fun k hk => ?_⟩
    obtain ⟨k, rfl⟩ : ∃ m, k = m + 1 := ⟨k - 1, by omega⟩
    (try dsimp only)
    rw [hf, if_neg c1, decide_eq_true c2, hout]
  have hf2 : ∀ k, outlawlaw01_ScanBack.f k a0 a1 = outlawlaw01_ScanBack.j0 k a0 a1 false := fun k => by
    rw [hf, if_neg c1, decide_eq_false c2]
  have hval := valid_val (s := a0) (by omega)
  cases hvd : validD a0.data.toList with
  | true =>
    obtain ⟨rs, hrs, hl⟩ := validD_iff _ a0.data.toList (Nat.le_refl _) hvd
    have hq := quote_val (s := a0) (by omega) hl hrs
    rw [hvd] at hval
    have hlen : (encs rs).length = a0.size := by rw [← hl, size_list]
    have hqs := quoted_size hrs
    have hsum : (quotedS rs ++ a1).size ≤ 1000000 := by rw [ByteArray.size_append]; omega
    obtain ⟨K, hK⟩ := unq_quoted hrs a1 hsum
    have hlow : ∀ b ∈ (quotedS rs).data.toList, 32 ≤ b.toNat := by
      intro b hb
      unfold quotedS at hb
      rw [mk_list] at hb
      rcases List.mem_cons.1 hb with rfl | hb
      · decide
      rcases List.mem_append.1 hb with hb | hb
      · exact qs_low rs hrs b hb
      · simp only [List.mem_cons, List.not_mem_nil, or_false] at hb
        subst hb
        decide
    obtain ⟨K', hK'⟩ := loop_ev a0 (quotedS rs) (by omega) (by omega) hlow
    refine ⟨K + K' + 3, fun k hk => ?_⟩
    obtain ⟨k, rfl⟩ : ∃ m, k = m + 3 := ⟨k - 3, by omega⟩
    have h1 : scan_Unquote.f (k + 1) (quotedS rs ++ a1) = some (mk (encs rs), ((quotedS rs).size : Int), 0) := hK _ (by omega)
    have h2 : outlawlaw01_ScanBack.l0 k a0 (quotedS rs) 0 = some true := hK' _ (by omega)
    have he : (mk (encs rs)).toList = a0.toList := by rw [mk_tl, toList_data, hl]
    (try dsimp only)
    rw [hf2, outlawlaw01_ScanBack.j0, if_neg Bool.false_ne_true, hq, Option.bind_some, hval, Option.bind_some]
    dsimp only
    rw [if_neg (by decide), if_pos rfl]
    rw [outlawlaw01_ScanBack.j1, if_neg Bool.false_ne_true, if_pos (by rw [← ByteArray.size_append]; omega), h1, Option.bind_some]
    dsimp only
    rw [if_pos rfl, if_pos rfl, if_pos he]
    rw [show (((quotedS rs).size : Int) != ((quotedS rs).size : Int)) = false by simp]
    rw [outlawlaw01_ScanBack.j2, if_neg Bool.false_ne_true, h2]
  | false =>
    have hq := quote_no (s := a0) (by omega) hvd
    rw [hvd] at hval
    have hsum : ((⟨#[]⟩ : ByteArray) ++ a1).size ≤ 1000000 := by
      rw [ByteArray.size_append]
      have : (⟨#[]⟩ : ByteArray).size = 0 := rfl
      omega
    obtain ⟨K, hK⟩ := unq_val hsum
    obtain ⟨K', hK'⟩ := loop_ev a0 (⟨#[]⟩ : ByteArray) (by omega) (by decide) (by intro b hb; simp at hb)
    refine ⟨K + K' + 3, fun k hk => ?_⟩
    obtain ⟨k, rfl⟩ : ∃ m, k = m + 3 := ⟨k - 3, by omega⟩
    have h1 := hK (k + 1) (by omega)
    have h2 : outlawlaw01_ScanBack.l0 k a0 (⟨#[]⟩ : ByteArray) 0 = some true := hK' _ (by omega)
    (try dsimp only at h1 ⊢)
    rw [hf2, outlawlaw01_ScanBack.j0, if_neg Bool.false_ne_true, hq, Option.bind_some, hval, Option.bind_some]
    dsimp only
    rw [if_neg (by decide), if_neg (by decide)]
    rw [show (((⟨#[]⟩ : ByteArray).toList != ([] : List UInt8))) = false by rw [toList_data]; rfl]
    rw [outlawlaw01_ScanBack.j1, if_neg Bool.false_ne_true, if_pos (by rw [← ByteArray.size_append]; omega), h1, Option.bind_some]
    (try dsimp only)
    rw [if_neg (by decide)]
    rw [outlawlaw01_ScanBack.j2, if_neg Bool.false_ne_true, h2]
end Go.Proofs.YtfmenojhojmedaaDoor.Pure
