/- A literal as a whole; a string's literal is read as the string. -/
import Derived.Test.YtfmenojhojmedaaDoorU4
set_option linter.unusedVariables false
set_option linter.unusedSimpArgs false
namespace Go.Proofs.YtfmenojhojmedaaDoorV
open Go.RowKit Go.Lib Go.Proofs.YtfmenojhojmedaaDoorU Go.Proofs.YtfmenojhojmedaaDoorG Go.Proofs.YtfmenojhojmedaaDoorX Go.Proofs.YtfmenojhojmedaaDoor.PR
open Go.Proofs.YtfmenojhojmedaaDoorW.PrintWords hiding encs encs_append
theorem litL_ok {l x t : List UInt8} (h : litL l = .ok (x, t)) : ∃ p rs, l = p ++ t ∧ 2 ≤ p.length ∧ (∀ r ∈ rs, scalar r) ∧ x = encs rs ∧ (encs rs).length ≤ 4 * p.length ∧ (∀ t', litL (p ++ t') = .ok (x, t')) ∧ (∀ j, j < p.length → litL (p.take j) = .error 3 ∨ litL (p.take j) = .error 6) := by
  match l, h with
  | [], h => simp [litL] at h
  | c :: l, h =>
    by_cases h34 : c = 34
    · subst h34
      obtain ⟨p, rs, rfl, hp, hrs, rfl, hlen, hall, hcut⟩ := unqL_ok (l.length + 1) l [] x t (by simpa [litL] using h)
      have hpos : 0 < p.length := List.length_pos_iff.2 hp
      refine ⟨34 :: p, rs, rfl, by simp; omega, hrs, by simp, by simp; omega, fun t' => ?_, fun j hj => ?_⟩
      · have := hall ((p ++ t').length + 1) [] t' (by rw [List.length_append]; omega)
        simpa [litL] using this
      · cases j with
        | zero => exact .inl rfl
        | succ j =>
          have := hcut ((p.take j).length + 1) [] j (by simp at hj; omega) (by rw [List.length_take]; simp at hj; omega)
          simpa [litL] using this
    · simp [litL, h34] at h
/-- The faults' numbers. -/
def Num (c : Int) : Prop := c = 3 ∨ c = 5 ∨ c = 6
theorem hexN_err : ∀ (k n : Nat) (l : List UInt8) (c : Int), hexN k n l = .error c → Num c
  | 0, _, _, _, h => by simp [hexN] at h
  | k + 1, n, [], c, h => by
    simp only [hexN, Except.error.injEq] at h
    exact .inl h.symm
  | k + 1, n, b :: l, c, h => by
    simp only [hexN] at h
    cases hv : hexV b with
    | none =>
      rw [hv] at h
      simp only [Except.error.injEq] at h
      exact .inr (.inl h.symm)
    | some d =>
      rw [hv] at h
      exact hexN_err k _ l c h
theorem lowL_err {n : Nat} {l : List UInt8} {c : Int} (h : lowL n l = .error c) : Num c := by
  unfold lowL at h
  cases hx : hexN 4 0 l with
  | error e =>
    rw [hx] at h
    simp only [Except.error.injEq] at h
    exact h ▸ hexN_err _ _ _ _ hx
  | ok y =>
    obtain ⟨m, l4⟩ := y
    rw [hx] at h
    simp only at h
    by_cases hm : m < 56320 ∨ 57343 < m
    · rw [if_pos hm] at h
      simp only [Except.error.injEq] at h
      exact .inr (.inr h.symm)
    · rw [if_neg hm] at h
      simp at h
theorem pairL_err {n : Nat} {l : List UInt8} {c : Int} (h : pairL n l = .error c) : Num c := by
  match l, h with
  | [], h =>
    simp only [pairL, Except.error.injEq] at h
    exact .inl h.symm
  | a :: l2, h =>
    simp only [pairL] at h
    by_cases ha : a ≠ 92
    · rw [if_pos ha] at h
      simp only [Except.error.injEq] at h
      exact .inr (.inr h.symm)
    rw [if_neg ha] at h
    match l2, h with
    | [], h =>
      simp only [Except.error.injEq] at h
      exact .inl h.symm
    | d :: l3, h =>
      simp only at h
      by_cases hd : d ≠ 117
      · rw [if_pos hd] at h
        simp only [Except.error.injEq] at h
        exact .inr (.inr h.symm)
      rw [if_neg hd] at h
      exact lowL_err h
theorem unitL_err {l : List UInt8} {c : Int} (h : unitL l = .error c) : Num c := by
  unfold unitL at h
  cases hx : hexN 4 0 l with
  | error e =>
    rw [hx] at h
    simp only [Except.error.injEq] at h
    exact h ▸ hexN_err _ _ _ _ hx
  | ok y =>
    obtain ⟨n, l1⟩ := y
    rw [hx] at h
    simp only at h
    by_cases hm : n < 55296 ∨ 57343 < n
    · rw [if_pos hm] at h
      simp at h
    rw [if_neg hm] at h
    by_cases h2 : 56320 ≤ n
    · rw [if_pos h2] at h
      simp only [Except.error.injEq] at h
      exact .inr (.inr h.symm)
    rw [if_neg h2] at h
    exact pairL_err h
theorem escL_err {l : List UInt8} {c : Int} (h : escL l = .error c) : Num c := by
  match l, h with
  | [], h =>
    simp only [escL, Except.error.injEq] at h
    exact .inl h.symm
  | a :: l1, h =>
    simp only [escL] at h
    by_cases h1 : a = 34 ∨ a = 92 ∨ a = 47
    · rw [if_pos h1] at h; simp at h
    rw [if_neg h1] at h
    by_cases h2 : a = 98
    · rw [if_pos h2] at h; simp at h
    rw [if_neg h2] at h
    by_cases h3 : a = 102
    · rw [if_pos h3] at h; simp at h
    rw [if_neg h3] at h
    by_cases h4 : a = 110
    · rw [if_pos h4] at h; simp at h
    rw [if_neg h4] at h
    by_cases h5 : a = 114
    · rw [if_pos h5] at h; simp at h
    rw [if_neg h5] at h
    by_cases h6 : a = 116
    · rw [if_pos h6] at h; simp at h
    rw [if_neg h6] at h
    by_cases h7 : a = 117
    · rw [if_pos h7] at h
      exact unitL_err h
    · rw [if_neg h7] at h
      simp only [Except.error.injEq] at h
      exact .inr (.inl h.symm)
theorem pieceL_err {l : List UInt8} {c : Int} (h : pieceL l = .error c) : Num c := by
  match l, h with
  | [], h =>
    simp only [pieceL, Except.error.injEq] at h
    exact .inl h.symm
  | a :: l, h =>
    simp only [pieceL] at h
    by_cases h1 : a.toNat < 32
    · rw [if_pos h1] at h
      simp only [Except.error.injEq] at h
      exact .inr (.inl h.symm)
    rw [if_neg h1] at h
    by_cases h2 : a = 92
    · rw [if_pos h2] at h
      cases hx : escL l with
      | error e =>
        rw [hx] at h
        simp only [Except.error.injEq] at h
        exact h ▸ escL_err hx
      | ok y => rw [hx] at h; simp at h
    · rw [if_neg h2] at h
      cases hx : dec (a :: l) with
      | none =>
        rw [hx] at h
        simp only [Except.error.injEq] at h
        exact .inr (.inr h.symm)
      | some y => rw [hx] at h; simp at h
theorem unqL_err : ∀ (k : Nat) (l acc : List UInt8) (c : Int), l.length < k → unqL k l acc = .error c → Num c
  | 0, l, _, _, hk, _ => by omega
  | k + 1, l, acc, c, hk, h => by
    simp only [unqL] at h
    by_cases h34 : l.head? = some 34
    · rw [if_pos h34] at h; simp at h
    rw [if_neg h34] at h
    cases hx : pieceL l with
    | error e =>
      rw [hx] at h
      simp only [Except.error.injEq] at h
      exact h ▸ pieceL_err hx
    | ok y =>
      obtain ⟨y, l1⟩ := y
      rw [hx] at h
      simp only at h
      obtain ⟨p, r, hl, _, _, _, hp⟩ := pieceL_ok hx
      have hpos : 0 < p.length := List.length_pos_iff.2 hp
      have hlen : l.length = p.length + l1.length := by rw [hl, List.length_append]
      exact unqL_err k l1 _ c (by omega) h
theorem litL_err {l : List UInt8} {c : Int} (h : litL l = .error c) : Num c := by
  match l, h with
  | [], h =>
    simp only [litL, Except.error.injEq] at h
    exact .inl h.symm
  | a :: l, h =>
    simp only [litL] at h
    by_cases h1 : a = 34
    · rw [if_pos h1] at h
      exact unqL_err _ _ _ _ (by omega) h
    · rw [if_neg h1] at h
      simp only [Except.error.injEq] at h
      exact .inr (.inl h.symm)
theorem Num.ne {c : Int} (h : Num c) : ¬ c = 0 := by unfold Num at h; omega
/-! ### the writer -/
def qs (rs : List Nat) : List UInt8 := (rs.map qRune).flatten
theorem qs_cons (r : Nat) (rs : List Nat) : qs (r :: rs) = qRune r ++ qs rs := by simp [qs]
theorem qFrom_is (s : ByteArray) : ∀ (rs : List Nat) (fuel pos : Nat), rest s pos = encs rs → (∀ r ∈ rs, scalar r) → pos ≤ s.size → s.size ≤ pos + fuel → qFrom s fuel pos = qs rs
  | [], fuel, pos, h, _, hp, _ => by
    have : pos = s.size := rest_nil (by rw [h]; rfl) hp
    rw [qFrom_end s fuel pos (by omega)]
    rfl
  | r :: rs, fuel, pos, h, hrs, hp, hf => by
    have hr := hrs r (List.mem_cons_self ..)
    rw [encs_cons] at h
    obtain ⟨b1, b2, b3⟩ := rest_back h hp
    have hen := enc_len hr
    obtain ⟨f, rfl⟩ : ∃ f, fuel = f + 1 := ⟨fuel - 1, by omega⟩
    have hd := decodeL_drop s pos
    have hd2 := decodeL_enc hr (encs rs)
    rw [← h] at hd2
    unfold rest at hd2
    rw [hd] at hd2
    rw [qFrom, if_pos (by omega), hd2, qs_cons]
    simp only
    rw [qFrom_is s rs f (pos + (enc r).length) b3 (fun q hq => hrs q (List.mem_cons_of_mem _ hq)) b2 (by omega)]
theorem qAll_is {s : ByteArray} {rs : List Nat} (h : s.data.toList = encs rs) (hrs : ∀ r ∈ rs, scalar r) : qAll s = 34 :: (qs rs ++ [34]) := by
  unfold qAll
  rw [qFrom_is s rs s.size 0 h hrs (Nat.zero_le _) (by omega)]
  rfl
theorem low_piece : ∀ r : Fin 32, ¬ r.val = 8 → ¬ r.val = 12 → ¬ r.val = 10 → ¬ r.val = 13 → ¬ r.val = 9 → hexV (hexd (r.val / 16)) = some (r.val / 16) ∧ hexV (hexd (r.val % 16)) = some (r.val % 16) ∧ 32 ≤ (hexd (r.val / 16)).toNat ∧ 32 ≤ (hexd (r.val % 16)).toNat := by decide +kernel
theorem enc_first {r : Nat} (h : scalar r) (h32 : 32 ≤ r) (h34 : ¬ r = 34) (h92 : ¬ r = 92) : ∃ (c : UInt8) (q : List UInt8), enc r = c :: q ∧ 32 ≤ c.toNat ∧ c ≠ 34 ∧ c ≠ 92 ∧ ∀ b ∈ q, 32 ≤ b.toNat := by
  have nn : ∀ (c : UInt8) (n : Nat), n < 256 → c.toNat ≠ n → c ≠ UInt8.ofNat n := by
    rintro c n hn h rfl
    apply h
    rw [UInt8.toNat_ofNat']
    exact Nat.mod_eq_of_lt hn
  rcases scalar_cases h with k | ⟨k1, k2⟩ | k | ⟨k1, k2⟩
  · obtain ⟨a, e, ha⟩ := enc_1 k
    exact ⟨a, [], e, by omega, nn a 34 (by decide) (by omega), nn a 92 (by decide) (by omega), by simp⟩
  · obtain ⟨a, b, e, ha, hb⟩ := enc_2 k1 k2
    refine ⟨a, [b], e, by omega, nn a 34 (by decide) (by omega), nn a 92 (by decide) (by omega), ?_⟩
    intro x hx
    simp only [List.mem_cons, List.not_mem_nil, or_false] at hx
    subst hx
    omega
  · obtain ⟨a, b, c, e, ha, hb, hc⟩ := enc_3 k
    refine ⟨a, [b, c], e, by omega, nn a 34 (by decide) (by omega), nn a 92 (by decide) (by omega), ?_⟩
    intro x hx
    simp only [List.mem_cons, List.not_mem_nil, or_false] at hx
    rcases hx with rfl | rfl <;> omega
  · obtain ⟨a, b, c, d, e, ha, hb, hc, hd⟩ := enc_4 k1 k2
    refine ⟨a, [b, c, d], e, by omega, nn a 34 (by decide) (by omega), nn a 92 (by decide) (by omega), ?_⟩
    intro x hx
    simp only [List.mem_cons, List.not_mem_nil, or_false] at hx
    rcases hx with rfl | rfl | rfl <;> omega
theorem piece_q {r : Nat} (hr : scalar r) (t : List UInt8) : pieceL (qRune r ++ t) = .ok (enc r, t) ∧ (qRune r ++ t).head? ≠ some 34 ∧ (∀ b ∈ qRune r, 32 ≤ b.toNat) ∧ qRune r ≠ [] := by
  by_cases h8 : r = 8
  · subst h8; exact ⟨rfl, by simp [qRune], by decide, by decide⟩
  by_cases h12 : r = 12
  · subst h12; exact ⟨rfl, by simp [qRune], by decide, by decide⟩
  by_cases h10 : r = 10
  · subst h10; exact ⟨rfl, by simp [qRune], by decide, by decide⟩
  by_cases h13 : r = 13
  · subst h13; exact ⟨rfl, by simp [qRune], by decide, by decide⟩
  by_cases h9 : r = 9
  · subst h9; exact ⟨rfl, by simp [qRune], by decide, by decide⟩
  by_cases h34 : r = 34
  · subst h34; exact ⟨rfl, by simp [qRune], by decide, by decide⟩
  by_cases h92 : r = 92
  · subst h92; exact ⟨rfl, by simp [qRune], by decide, by decide⟩
  by_cases h32 : r < 32
  · have e : qRune r = [92, 117, 48, 48, hexd (r / 16), hexd (r % 16)] := by
      unfold qRune
      rw [if_neg h8, if_neg h12, if_neg h10, if_neg h13, if_neg h9, if_neg h34, if_neg h92, if_pos h32]
    obtain ⟨k1, k2, k3, k4⟩ := low_piece ⟨r, h32⟩ h8 h12 h10 h13 h9
    simp only at k1 k2 k3 k4
    have hx : hexN 4 0 (48 :: 48 :: hexd (r / 16) :: hexd (r % 16) :: t) = .ok (r, t) := by
      rw [show hexN 4 0 (48 :: 48 :: hexd (r / 16) :: hexd (r % 16) :: t) = hexN 2 0 (hexd (r / 16) :: hexd (r % 16) :: t) from rfl]
      simp only [hexN, k1, k2]
      rw [show (0 * 16 + r / 16) * 16 + r % 16 = r by omega]
    have hu : unitL (48 :: 48 :: hexd (r / 16) :: hexd (r % 16) :: t) = .ok (r, t) := by
      unfold unitL
      rw [hx]
      simp only
      rw [if_pos (.inl (by omega))]
    rw [e]
    refine ⟨?_, by simp, ?_, by simp⟩
    · show pieceL (92 :: 117 :: 48 :: 48 :: hexd (r / 16) :: hexd (r % 16) :: t) = _
      rw [show pieceL (92 :: 117 :: 48 :: 48 :: hexd (r / 16) :: hexd (r % 16) :: t) = (match unitL (48 :: 48 :: hexd (r / 16) :: hexd (r % 16) :: t) with | .error e => .error e | .ok (r, l1) => .ok (enc r, l1)) from rfl, hu]
    · intro b hb
      simp only [List.mem_cons, List.not_mem_nil, or_false] at hb
      rcases hb with rfl | rfl | rfl | rfl | rfl | rfl
      · decide
      · decide
      · decide
      · decide
      · exact k3
      · exact k4
  · have e : qRune r = enc r := by
      unfold qRune
      rw [if_neg h8, if_neg h12, if_neg h10, if_neg h13, if_neg h9, if_neg h34, if_neg h92, if_neg h32]
      rfl
    obtain ⟨c, q, hc, c1, c2, c3, c4⟩ := enc_first hr (by omega) h34 h92
    have hd := dec_enc hr t
    rw [e]
    refine ⟨?_, by rw [hc]; simpa using c2, ?_, enc_ne hr⟩
    · rw [hc, List.cons_append] at hd ⊢
      simp only [pieceL]
      rw [if_neg (by omega), if_neg c3, hd]
    · rw [hc]
      intro b hb
      rcases List.mem_cons.1 hb with rfl | hb
      · exact c1
      · exact c4 b hb
theorem qs_low : ∀ (rs : List Nat), (∀ r ∈ rs, scalar r) → ∀ b ∈ qs rs, 32 ≤ b.toNat
  | [], _, b, hb => by simp [qs] at hb
  | r :: rs, h, b, hb => by
    rw [qs_cons] at hb
    rcases List.mem_append.1 hb with hb | hb
    · exact (piece_q (h r (List.mem_cons_self ..)) []).2.2.1 b hb
    · exact qs_low rs (fun q hq => h q (List.mem_cons_of_mem _ hq)) b hb
theorem unq_qs : ∀ (rs : List Nat) (k : Nat) (acc t : List UInt8), (∀ r ∈ rs, scalar r) → (qs rs).length < k → unqL k (qs rs ++ 34 :: t) acc = .ok (acc ++ encs rs, t)
  | [], k, acc, t, _, hk => by
    obtain ⟨k, rfl⟩ : ∃ m, k = m + 1 := ⟨k - 1, by omega⟩
    simp [qs, unqL, encs]
  | r :: rs, k, acc, t, h, hk => by
    obtain ⟨h1, h2, _, h4⟩ := piece_q (h r (List.mem_cons_self ..)) (qs rs ++ 34 :: t)
    rw [qs_cons, List.length_append] at hk
    have hpos : 0 < (qRune r).length := List.length_pos_iff.2 h4
    obtain ⟨k, rfl⟩ : ∃ m, k = m + 1 := ⟨k - 1, by omega⟩
    rw [qs_cons, List.append_assoc]
    simp only [unqL]
    rw [if_neg h2, h1]
    simp only
    rw [unq_qs rs k (acc ++ enc r) t (fun q hq => h q (List.mem_cons_of_mem _ hq)) (by omega), encs_cons, List.append_assoc]
theorem lit_q (rs : List Nat) (h : ∀ r ∈ rs, scalar r) (t : List UInt8) : litL ((34 :: (qs rs ++ [34])) ++ t) = .ok (encs rs, t) := by
  rw [show (34 :: (qs rs ++ [34])) ++ t = 34 :: (qs rs ++ 34 :: t) by simp]
  simp only [litL, if_true]
  have := unq_qs rs ((qs rs ++ 34 :: t).length + 1) [] t h (by rw [List.length_append]; omega)
  simpa using this
end Go.Proofs.YtfmenojhojmedaaDoorV
