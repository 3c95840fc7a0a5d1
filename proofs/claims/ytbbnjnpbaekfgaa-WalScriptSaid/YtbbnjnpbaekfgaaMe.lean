/- The plain theory of a log: what noughts over what a crash left are found to be. -/
import Derived.Test.YtbbnjnpbaekfgaaEy
set_option linter.unusedVariables false
set_option linter.unusedSimpArgs false
namespace Go.Proofs.YtbbnjnpbaekfgaaM
theorem zeros_over (a b : Nat) (S : List UInt8) : zeros a ++ (zeros b ++ S.drop b).drop a = zeros (max a b) ++ S.drop (max a b) := by
  by_cases h : a ≤ b
  · rw [Nat.max_eq_right h, List.drop_append_of_le_length (by rw [zeros_length]; exact h), zeros_drop, ← List.append_assoc, ← zeros_add, show a + (b - a) = b by omega]
  · rw [Nat.max_eq_left (by omega), List.drop_append, zeros_length, List.drop_eq_nil_of_le (by rw [zeros_length]; omega), List.nil_append, List.drop_drop, show b + (a - b) = a by omega]
/-- A crash over writes of noughts alone. -/
theorem crash_zeros {I : List UInt8} {n : Nat} (Q : List (Nat × List UInt8)) (c : Nat → Nat) (hc : ∀ k, c k ≤ 512) (hI : I.length = n * 512) (hQ : ∀ x ∈ Q, x.1 < n ∧ x.2 = zeros 512) (i : Nat) : ∀ j, j ≤ Q.length →
    ∃ k, k ≤ 512 ∧ sec (crashK I Q c j) i = zeros k ++ (sec I i).drop k ∧ ((∀ x ∈ Q, x.1 ≠ i) → k = 0)
  | 0, _ => ⟨0, by omega, by simp [crashK, zeros], fun _ => rfl⟩
  | j + 1, h => by
    obtain ⟨k, hk, e, h0⟩ := crash_zeros Q c hc hI hQ i j (by omega)
    have hm := List.getElem_mem (show j < Q.length by omega)
    have hx := hQ _ hm
    unfold crashK
    rw [List.getD_eq_getElem?_getD, List.getElem?_eq_getElem (show j < Q.length by omega), Option.getD_some, hx.2, zeros_take _ _ (hc j)]
    rw [sec_cut _ _ n _ i (crashK_length Q c hI (fun x hx => ⟨(hQ x hx).1, by rw [(hQ x hx).2, zeros_length]⟩) j (by omega)) hx.1 (by rw [zeros_length]; exact hc j), e]
    by_cases e1 : (Q[j]).1 = i
    · rw [if_pos e1, zeros_length, zeros_over]
      exact ⟨_, by have := hc j; omega, rfl, fun h => absurd e1 (h _ hm)⟩
    · rw [if_neg e1]
      exact ⟨k, hk, rfl, h0⟩
theorem framesF_reads : ∀ (R : List (List UInt8)) (a i : Nat) (x : List UInt8), (framesF a R)[i]? = some x → readS (a + i) x ≠ none
  | [], a, i, x, h => by simp [framesF] at h
  | r :: R, a, i, x, h => by
    unfold framesF at h
    by_cases hi : i < needN r.length
    · rw [List.getElem?_append_left (by rw [frameS_length]; exact hi), frameS_get _ _ _ hi] at h
      cases h
      rw [read_frameI a r i hi]
      simp
    · rw [List.getElem?_append_right (by rw [frameS_length]; omega), frameS_length] at h
      have := framesF_reads R _ _ _ h
      rw [show a + needN r.length + (i - needN r.length) = a + i by omega] at this
      exact this
theorem tgt_reads {R : List (List UInt8)} {i : Nat} (h : i < spanN R) : readS i (tgt R i) ≠ none := by
  have := framesF_reads R 0 i _ (tgt_get h)
  rw [Nat.zero_add] at this
  exact this
/-- What is found where noughts are written over what a crash left: the same; and what opening makes of it. -/
theorem Good.mends {n : Nat} {D : List UInt8} {P : List (Nat × List UInt8)} {R : List (List UInt8)} {s : Nat} (h : Good n D P R s) (c : Nat → Nat) (hc : ∀ k, c k ≤ 512) (I : List UInt8) (hI : I = crashK D P c P.length) :
    ∃ R', I.length = n * 512 ∧ (found I).recs = R' ∧ (found I).fin = spanN R' ∧ spanN R' ≤ n ∧ Good n (openD I (spanN R') n) [] R' R'.length ∧ ∀ c' : Nat → Nat, (∀ k, c' k ≤ 512) →
      ∀ J, J = crashK I (zwL I (spanN R') n) c' (zwL I (spanN R') n).length → J.length = n * 512 ∧ (found J).recs = R' ∧ (found J).fin = spanN R' ∧ openD J (spanN R') n = openD I (spanN R') n := by
  subst hI
  have hat := h.crash_at c hc
  have hle := h.le
  have htop := h.top
  have hlen := crashK_length P c h.len h.ok _ (Nat.le_refl _)
  have hor : ∀ i, i < spanN R → sec (crashK D P c P.length) i = tgt R i ∨ readS i (sec (crashK D P c P.length) i) = none := fun i hi => by
      rw [hat i (by omega), if_pos hi]
      by_cases h2 : i < spanN (R.take s)
      · rw [if_pos h2]; exact .inl rfl
      · rw [if_neg h2]
        obtain ⟨l, p, e, hp⟩ := tgt_sec hi
        have := torn_read i (by omega) l p hp (c (i - spanN (R.take s))) (hc _)
        rw [e]
        exact this
  have hz : ∀ i, spanN R ≤ i → i < n → sec (crashK D P c P.length) i = zeros 512 := fun i h1 h2 => by rw [hat i h2, if_neg (by omega)]
  have hf := found_orBad hlen htop hle hor hz
  obtain ⟨m0, _, hm0, hr0, hs0, hg0⟩ := h.crash c hc
  obtain ⟨m, hm⟩ : ∃ m, m = wholeN 0 R ((List.range (spanN R)).map (sec (crashK D P c P.length))) := ⟨_, rfl⟩
  have hml : m ≤ R.length := by rw [hm]; exact wholeN_le R 0 _
  rw [← hm] at hf
  have htk : R.take m0 = R.take m := hr0.symm.trans hf.1
  rw [htk] at hg0
  have hfr : (R.take m).length = m := by rw [List.length_take]; omega
  have hm0m : m0 = m := by
    have := congrArg List.length htk
    rw [List.length_take, List.length_take] at this
    omega
  have hsp := spanN_take_le R m
  refine ⟨R.take m, hlen, hf.1, hf.2, by omega, by rw [hfr, ← hm0m, htk, ← hm0m, htk] at *; exact hg0, fun c' hc' J hJ => ?_⟩
  obtain ⟨I, hI⟩ : ∃ I, I = crashK D P c P.length := ⟨_, rfl⟩
  rw [← hI] at hlen hor hz hm hJ hat ⊢
  obtain ⟨Q, hQ⟩ : ∃ Q, Q = zwL I (spanN (R.take m)) n := ⟨_, rfl⟩
  rw [← hQ] at hJ
  have hQm : ∀ x ∈ Q, x.1 < n ∧ spanN (R.take m) ≤ x.1 ∧ x.2 = zeros 512 := by rw [hQ]; exact zwL_mem n
  have hJl : J.length = n * 512 := by
    rw [hJ]
    exact crashK_length Q c' hlen (fun x hx => ⟨(hQm x hx).1, by rw [(hQm x hx).2.2, zeros_length]⟩) _ (Nat.le_refl _)
  have hJs : ∀ i, ∃ k, k ≤ 512 ∧ sec J i = zeros k ++ (sec I i).drop k ∧ (i < spanN (R.take m) → k = 0) := fun i => by
    obtain ⟨k, hk, e, h0⟩ := crash_zeros Q c' hc' hlen (fun x hx => ⟨(hQm x hx).1, (hQm x hx).2.2⟩) i Q.length (Nat.le_refl _)
    refine ⟨k, hk, by rw [hJ]; exact e, fun hi => h0 fun x hx e => ?_⟩
    have := (hQm x hx).2.1
    omega
  have hJ1 : ∀ i, i < spanN (R.take m) → sec J i = sec I i := fun i hi => by
    obtain ⟨k, hk, e, h0⟩ := hJs i
    rw [e, h0 hi]
    simp [zeros]
  have hJ2 : ∀ i, i < spanN R → sec J i = sec I i ∨ readS i (sec J i) = none := fun i hi => by
    obtain ⟨k, hk, e, _⟩ := hJs i
    obtain ⟨l, p, ht, hp⟩ := tgt_sec hi
    rw [e]
    by_cases h2 : i < spanN (R.take s)
    · refine mend_read i (by omega) l p hp 512 (Nat.le_refl _) k hk (sec I i) ?_
      rw [hat i (by omega), if_pos hi, if_pos h2, ht, torn_all (secF_length i l p hp)]
    · refine mend_read i (by omega) l p hp (c (i - spanN (R.take s))) (hc _) k hk (sec I i) ?_
      rw [hat i (by omega), if_pos hi, if_neg h2, ht]
  have hJ3 : ∀ i, spanN R ≤ i → i < n → sec J i = zeros 512 := fun i h1 h2 => by
    obtain ⟨k, hk, e, _⟩ := hJs i
    rw [e, hz i h1 h2, zeros_drop, ← zeros_add, show k + (512 - k) = 512 by omega]
  have hJ4 : ∀ i, i < spanN R → sec J i = tgt R i → sec I i = tgt R i := fun i hi e => by
    rcases hJ2 i hi with h1 | h1
    · rw [← h1, e]
    · rw [e] at h1
      exact absurd h1 (tgt_reads hi)
  have hfJ := found_orBad hJl htop hle (fun i hi => by
    rcases hJ2 i hi with h1 | h1
    · rw [h1]; exact hor i hi
    · exact .inr h1) hJ3
  obtain ⟨m', hm'⟩ : ∃ m', m' = wholeN 0 R ((List.range (spanN R)).map (sec J)) := ⟨_, rfl⟩
  rw [← hm'] at hfJ
  have hm'l : m' ≤ R.length := by rw [hm']; exact wholeN_le R 0 _
  have hget : ∀ (X : List UInt8) (k : Nat), ((List.range (spanN R)).map (sec X)).take (spanN (R.take k)) = framesF 0 (R.take k) ↔ ∀ i, i < spanN (R.take k) → sec X i = tgt R i := fun X k => by
    have hk := spanN_take_le R k
    have htg : ∀ i, i < spanN (R.take k) → tgt (R.take k) i = tgt R i := fun i hi => by
      have := tgt_append (R := R.take k) (Q := R.drop k) hi
      rw [List.take_append_drop] at this
      exact this.symm
    constructor
    · intro e i hi
      have h1 := congrArg (fun l => l[i]?) e
      simp only [List.getElem?_take] at h1
      rw [if_pos hi, List.getElem?_map, List.getElem?_range (by omega), tgt_get hi, htg i hi] at h1
      exact Option.some.inj h1
    · intro e
      rw [framesF_tgt]
      apply List.ext_getElem?
      intro i
      by_cases hi : i < spanN (R.take k)
      · rw [List.getElem?_take, if_pos hi, List.getElem?_map, List.getElem?_range (by omega), List.getElem?_map, List.getElem?_range hi]
        show some (sec _ i) = some (tgt _ i)
        rw [e i hi, htg i hi]
      · rw [List.getElem?_take, if_neg hi, List.getElem?_eq_none (by simp; omega)]
  have hto := (hget I m).1 (by rw [hm]; exact wholeN_take R 0 _)
  have hle1 : m ≤ m' := by
    have := wholeN_prefix (R.take m) (R.drop m) ((List.range (spanN R)).map (sec J)) 0 ((hget J m).2 fun i hi => by rw [hJ1 i hi]; exact hto i hi)
    rw [List.take_append_drop, hfr, ← hm'] at this
    exact this
  have hto' := (hget J m').1 (by rw [hm']; exact wholeN_take R 0 _)
  have hle2 : m' ≤ m := by
    have := wholeN_prefix (R.take m') (R.drop m') ((List.range (spanN R)).map (sec I)) 0 ((hget I m').2 fun i hi => hJ4 i (by have := spanN_take_le R m'; omega) (hto' i hi))
    rw [List.take_append_drop, ← hm, List.length_take, Nat.min_eq_left hm'l] at this
    exact this
  obtain rfl : m' = m := by omega
  refine ⟨hJl, hfJ.1, hfJ.2, sec_ext (openD_length hJl (by omega)) (openD_length hlen (by omega)) fun i hi => ?_⟩
  rw [openD_sec hJl (by omega) hi, openD_sec hlen (by omega) hi]
  by_cases h2 : spanN (R.take m') ≤ i
  · rw [if_pos h2, if_pos h2]
  · rw [if_neg h2, if_neg h2, hJ1 i (by omega)]
theorem openD_twice {I : List UInt8} {e n : Nat} (h : I.length = n * 512) (he : e ≤ n) : openD (openD I e n) e n = openD I e n :=
  sec_ext (openD_length (openD_length h he) he) (openD_length h he) fun i hi => by
    rw [openD_sec (openD_length h he) he hi, openD_sec h he hi]
    split <;> rfl
end Go.Proofs.YtbbnjnpbaekfgaaM
