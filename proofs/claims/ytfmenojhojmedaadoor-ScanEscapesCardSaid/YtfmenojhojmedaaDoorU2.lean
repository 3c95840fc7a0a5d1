/- Plain lemmas of this session's own: a string's literal: how it is read (lists of bytes), and that reading depends on nothing behind it. -/
import Derived.Test.YtfmenojhojmedaaDoorU1
set_option linter.unusedVariables false
set_option linter.unusedSimpArgs false
namespace Go.Proofs.YtfmenojhojmedaaDoorU
open Go.Lib
abbrev Rd (α : Type) := Except Int (α × List UInt8)
def hexV (c : UInt8) : Option Nat := if 48 ≤ c.toNat ∧ c.toNat ≤ 57 then some (c.toNat - 48) else if 97 ≤ c.toNat ∧ c.toNat ≤ 102 then some (c.toNat - 87) else if 65 ≤ c.toNat ∧ c.toNat ≤ 70 then some (c.toNat - 55) else none
def hexN : Nat → Nat → List UInt8 → Rd Nat
  | 0, n, l => .ok (n, l)
  | _ + 1, _, [] => .error 3
  | k + 1, n, c :: l => match hexV c with | none => .error 5 | some d => hexN k (n * 16 + d) l
def lowL (n : Nat) (l : List UInt8) : Rd Nat := match hexN 4 0 l with
  | .error e => .error e
  | .ok (m, l4) => if m < 56320 ∨ 57343 < m then .error 6 else .ok (65536 + (n - 55296) * 1024 + (m - 56320), l4)
def pairL (n : Nat) : List UInt8 → Rd Nat
  | [] => .error 3
  | c :: l2 => if c ≠ 92 then .error 6 else match l2 with
    | [] => .error 3
    | d :: l3 => if d ≠ 117 then .error 6 else lowL n l3
def unitL (l : List UInt8) : Rd Nat := match hexN 4 0 l with
  | .error e => .error e
  | .ok (n, l1) => if n < 55296 ∨ 57343 < n then .ok (n, l1) else if 56320 ≤ n then .error 6 else pairL n l1
def escL : List UInt8 → Rd Nat
  | [] => .error 3
  | c :: l1 => if c = 34 ∨ c = 92 ∨ c = 47 then .ok (c.toNat, l1) else if c = 98 then .ok (8, l1) else if c = 102 then .ok (12, l1) else if c = 110 then .ok (10, l1) else if c = 114 then .ok (13, l1) else if c = 116 then .ok (9, l1) else if c = 117 then unitL l1 else .error 5
/-- One piece of a literal's inside: its code point's bytes. -/
def pieceL : List UInt8 → Rd (List UInt8)
  | [] => .error 3
  | c :: l => if c.toNat < 32 then .error 5 else if c = 92 then (match escL l with | .error e => .error e | .ok (r, l1) => .ok (enc r, l1))
    else match dec (c :: l) with | none => .error 6 | some (p, l1) => .ok (p, l1)
def unqL : Nat → List UInt8 → List UInt8 → Rd (List UInt8)
  | 0, _, _ => .error 0
  | k + 1, l, acc => if l.head? = some 34 then .ok (acc, l.tail) else match pieceL l with | .error e => .error e | .ok (p, l1) => unqL k l1 (acc ++ p)
theorem hexV_lt {c : UInt8} {d : Nat} (h : hexV c = some d) : d < 16 := by
  unfold hexV at h
  repeat' split at h
  all_goals (simp at h; try omega)
/-- What a reader tells of some bytes, whatever stands behind them: and that they end too early, cut. -/
structure Local {α : Type} (P : List UInt8 → Rd α) (p : List UInt8) (a : α) : Prop where
  all : ∀ t, P (p ++ t) = .ok (a, t)
  cut : ∀ j, j < p.length → P (p.take j) = .error 3 ∨ P (p.take j) = .error 6
theorem hexN_ok : ∀ (k n : Nat) (l : List UInt8) (m : Nat) (t : List UInt8), hexN k n l = .ok (m, t) →
    ∃ p, l = p ++ t ∧ p.length = k ∧ (∀ t', hexN k n (p ++ t') = .ok (m, t')) ∧ (∀ j, j < k → hexN k n (p.take j) = .error 3) ∧ m < (n + 1) * 16 ^ k
  | 0, n, l, m, t, h => by
    simp only [hexN, Except.ok.injEq, Prod.mk.injEq] at h
    obtain ⟨rfl, rfl⟩ := h
    exact ⟨[], rfl, rfl, fun _ => rfl, fun j hj => absurd hj (by omega), by simp⟩
  | k + 1, n, [], m, t, h => by simp [hexN] at h
  | k + 1, n, c :: l, m, t, h => by
    simp only [hexN] at h
    cases hc : hexV c with
    | none => rw [hc] at h; simp at h
    | some d =>
      rw [hc] at h
      simp only at h
      obtain ⟨p, rfl, hp, h1, h2, h3⟩ := hexN_ok k (n * 16 + d) l m t h
      refine ⟨c :: p, rfl, by simp [hp], fun t' => ?_, fun j hj => ?_, ?_⟩
      · simp only [List.cons_append, hexN, hc]
        exact h1 t'
      · cases j with
        | zero => simp [hexN]
        | succ j =>
          simp only [List.take_succ_cons, hexN, hc]
          exact h2 j (by omega)
      · have := hexV_lt hc
        have h4 : n * 16 + d + 1 ≤ (n + 1) * 16 := by omega
        have h5 := Nat.mul_le_mul_right (16 ^ k) h4
        rw [Nat.pow_succ, Nat.mul_comm (16 ^ k) 16, ← Nat.mul_assoc]
        omega
theorem lowL_ok {n : Nat} {l t : List UInt8} {r : Nat} (hn : 55296 ≤ n) (hn2 : n < 56320) (h : lowL n l = .ok (r, t)) : ∃ p, l = p ++ t ∧ Local (lowL n) p r ∧ scalar r ∧ p.length = 4 := by
  unfold lowL at h
  cases hx : hexN 4 0 l with
  | error e => rw [hx] at h; simp at h
  | ok x =>
    obtain ⟨m, l4⟩ := x
    rw [hx] at h
    simp only at h
    by_cases hm : m < 56320 ∨ 57343 < m
    · rw [if_pos hm] at h; simp at h
    rw [if_neg hm] at h
    simp only [Except.ok.injEq, Prod.mk.injEq] at h
    obtain ⟨rfl, rfl⟩ := h
    obtain ⟨p, rfl, hp, h1, h2, h3⟩ := hexN_ok 4 0 l m l4 hx
    refine ⟨p, rfl, ⟨fun t' => ?_, fun j hj => .inl ?_⟩, ?_, hp⟩
    · unfold lowL; rw [h1 t']; simp only; rw [if_neg hm]
    · unfold lowL; rw [h2 j (by omega)]
    · unfold scalar; omega
theorem pairL_ok {n : Nat} {l t : List UInt8} {r : Nat} (hn : 55296 ≤ n) (hn2 : n < 56320) (h : pairL n l = .ok (r, t)) : ∃ p, l = p ++ t ∧ Local (pairL n) p r ∧ scalar r := by
  match l, h with
  | [], h => simp [pairL] at h
  | c :: l2, h =>
    by_cases hc : c ≠ 92
    · simp [pairL, hc] at h
    match l2, h with
    | [], h => simp [pairL, hc] at h
    | d :: l3, h =>
      by_cases hd : d ≠ 117
      · simp [pairL, hc, hd] at h
      have h' : lowL n l3 = .ok (r, t) := by simpa [pairL, hc, hd] using h
      obtain ⟨p, rfl, hl, hs, hp⟩ := lowL_ok hn hn2 h'
      refine ⟨c :: d :: p, rfl, ⟨fun t' => ?_, fun j hj => ?_⟩, hs⟩
      · have := hl.all t'
        simp only [List.cons_append, pairL]
        rw [if_neg hc, if_neg hd]
        exact this
      · match j with
        | 0 => exact .inl (by simp [pairL])
        | 1 => exact .inl (by simp [pairL, hc])
        | j + 2 =>
          have := hl.cut j (by simp at hj; omega)
          simp only [List.take_succ_cons, pairL]
          rw [if_neg hc, if_neg hd]
          exact this
theorem unitL_ok {l t : List UInt8} {r : Nat} (h : unitL l = .ok (r, t)) : ∃ p, l = p ++ t ∧ Local unitL p r ∧ scalar r := by
  unfold unitL at h
  cases hx : hexN 4 0 l with
  | error e => rw [hx] at h; simp at h
  | ok x =>
    obtain ⟨n, l1⟩ := x
    rw [hx] at h
    simp only at h
    obtain ⟨p, rfl, hp, h1, h2, h3⟩ := hexN_ok 4 0 l n l1 hx
    have hlt : n < 65536 := by simpa using h3
    by_cases hm : n < 55296 ∨ 57343 < n
    · rw [if_pos hm] at h
      simp only [Except.ok.injEq, Prod.mk.injEq] at h
      obtain ⟨rfl, rfl⟩ := h
      refine ⟨p, rfl, ⟨fun t' => ?_, fun j hj => .inl ?_⟩, ?_⟩
      · unfold unitL; rw [h1 t']; simp only; rw [if_pos hm]
      · unfold unitL; rw [h2 j (by omega)]
      · unfold scalar; omega
    rw [if_neg hm] at h
    by_cases hm2 : 56320 ≤ n
    · rw [if_pos hm2] at h; simp at h
    rw [if_neg hm2] at h
    obtain ⟨p2, rfl, hl, hs⟩ := pairL_ok (by omega) (by omega) h
    refine ⟨p ++ p2, by rw [List.append_assoc], ⟨fun t' => ?_, fun j hj => ?_⟩, hs⟩
    · unfold unitL; rw [List.append_assoc, h1]; simp only; rw [if_neg hm, if_neg hm2]; exact hl.all t'
    · by_cases hj4 : j < 4
      · left
        unfold unitL
        rw [List.take_append_of_le_length (by omega), h2 j hj4]
      · unfold unitL
        rw [List.take_append, List.take_of_length_le (by omega), h1]
        simp only
        rw [if_neg hm, if_neg hm2]
        exact hl.cut (j - p.length) (by rw [List.length_append] at hj; omega)
theorem byte_scalar (c : UInt8) : scalar c.toNat := by have := c.toNat_lt; unfold scalar; omega
theorem escL_ok {l t : List UInt8} {r : Nat} (h : escL l = .ok (r, t)) : ∃ p, l = p ++ t ∧ Local escL p r ∧ scalar r ∧ p ≠ [] := by
  match l, h with
  | [], h => simp [escL] at h
  | c :: l1, h =>
    have one : ∀ q, (∀ l', escL (c :: l') = .ok (q, l')) → scalar q → q = r → ∃ p, c :: l1 = p ++ t ∧ Local escL p r ∧ scalar r ∧ p ≠ [] := by
      rintro q hq hs rfl
      rw [hq] at h
      simp only [Except.ok.injEq, Prod.mk.injEq, true_and] at h
      subst h
      refine ⟨[c], rfl, ⟨fun t' => hq t', fun j hj => .inl ?_⟩, hs, by simp⟩
      obtain rfl : j = 0 := by simp at hj; omega
      rfl
    have val : ∀ q, (∀ l', escL (c :: l') = .ok (q, l')) → q = r := by
      intro q hq
      rw [hq] at h
      simp only [Except.ok.injEq, Prod.mk.injEq] at h
      exact h.1
    by_cases h1 : c = 34 ∨ c = 92 ∨ c = 47
    · have hq : ∀ l', escL (c :: l') = .ok (c.toNat, l') := fun l' => by simp only [escL]; rw [if_pos h1]
      exact one _ hq (byte_scalar c) (val _ hq)
    by_cases h2 : c = 98
    · have hq : ∀ l', escL (c :: l') = .ok (8, l') := fun l' => by simp only [escL]; rw [if_neg h1, if_pos h2]
      exact one _ hq (by decide) (val _ hq)
    by_cases h3 : c = 102
    · have hq : ∀ l', escL (c :: l') = .ok (12, l') := fun l' => by simp only [escL]; rw [if_neg h1, if_neg h2, if_pos h3]
      exact one _ hq (by decide) (val _ hq)
    by_cases h4 : c = 110
    · have hq : ∀ l', escL (c :: l') = .ok (10, l') := fun l' => by simp only [escL]; rw [if_neg h1, if_neg h2, if_neg h3, if_pos h4]
      exact one _ hq (by decide) (val _ hq)
    by_cases h5 : c = 114
    · have hq : ∀ l', escL (c :: l') = .ok (13, l') := fun l' => by simp only [escL]; rw [if_neg h1, if_neg h2, if_neg h3, if_neg h4, if_pos h5]
      exact one _ hq (by decide) (val _ hq)
    by_cases h6 : c = 116
    · have hq : ∀ l', escL (c :: l') = .ok (9, l') := fun l' => by simp only [escL]; rw [if_neg h1, if_neg h2, if_neg h3, if_neg h4, if_neg h5, if_pos h6]
      exact one _ hq (by decide) (val _ hq)
    have hrest : ∀ l', escL (c :: l') = if c = 117 then unitL l' else .error 5 := fun l' => by simp only [escL]; rw [if_neg h1, if_neg h2, if_neg h3, if_neg h4, if_neg h5, if_neg h6]
    rw [hrest] at h
    by_cases h7 : c = 117
    · rw [if_pos h7] at h
      obtain ⟨p, rfl, hl, hs⟩ := unitL_ok h
      refine ⟨c :: p, rfl, ⟨fun t' => ?_, fun j hj => ?_⟩, hs, by simp⟩
      · rw [List.cons_append, hrest, if_pos h7]
        exact hl.all t'
      · cases j with
        | zero => exact .inl rfl
        | succ j =>
          rw [List.take_succ_cons, hrest, if_pos h7]
          exact hl.cut j (by simp at hj; omega)
    · rw [if_neg h7] at h; simp at h
theorem dec_cut2 {l p t : List UInt8} (h : dec l = some (p, t)) {j : Nat} (hj : j < p.length) : dec (p.take j) = none := by
  obtain ⟨r, hr, rfl, _⟩ := dec_some h
  exact dec_cut hr hj
theorem pieceL_ok {l t x : List UInt8} (h : pieceL l = .ok (x, t)) : ∃ p r, l = p ++ t ∧ Local pieceL p x ∧ scalar r ∧ x = enc r ∧ p ≠ [] := by
  match l, h with
  | [], h => simp [pieceL] at h
  | c :: l1, h =>
    by_cases h1 : c.toNat < 32
    · simp [pieceL, h1] at h
    by_cases h2 : c = 92
    · have hrest : ∀ l', pieceL (c :: l') = match escL l' with | .error e => .error e | .ok (r, l1) => .ok (enc r, l1) := fun l' => by
        simp only [pieceL]
        rw [if_neg h1, if_pos h2]
      rw [hrest] at h
      cases hx : escL l1 with
      | error e => rw [hx] at h; simp at h
      | ok y =>
        obtain ⟨r, l2⟩ := y
        rw [hx] at h
        simp only [Except.ok.injEq, Prod.mk.injEq] at h
        obtain ⟨rfl, rfl⟩ := h
        obtain ⟨p, rfl, hl, hs, _⟩ := escL_ok hx
        refine ⟨c :: p, r, rfl, ⟨fun t' => ?_, fun j hj => ?_⟩, hs, rfl, by simp⟩
        · rw [List.cons_append, hrest, hl.all t']
        · cases j with
          | zero => exact .inl rfl
          | succ j =>
            rw [List.take_succ_cons, hrest]
            rcases hl.cut j (by simp at hj; omega) with e | e
            · rw [e]; exact .inl rfl
            · rw [e]; exact .inr rfl
    · have hrest : ∀ l', pieceL (c :: l') = match dec (c :: l') with | none => .error 6 | some (p, l1) => .ok (p, l1) := fun l' => by
        simp only [pieceL]
        rw [if_neg h1, if_neg h2]
      rw [hrest] at h
      cases hx : dec (c :: l1) with
      | none => rw [hx] at h; simp at h
      | some y =>
        obtain ⟨p, l2⟩ := y
        rw [hx] at h
        simp only [Except.ok.injEq, Prod.mk.injEq] at h
        obtain ⟨rfl, rfl⟩ := h
        obtain ⟨r, hr, rfl, he⟩ := dec_some hx
        obtain ⟨c', q, hq⟩ : ∃ c' q, enc r = c' :: q := by
          cases hh : enc r with
          | nil => exact absurd hh (enc_ne hr)
          | cons a b => exact ⟨a, b, rfl⟩
        have hcc : c' = c := by
          rw [hq] at he
          simp only [List.cons_append, List.cons.injEq] at he
          exact he.1.symm
        subst hcc
        refine ⟨enc r, r, he, ⟨fun t' => ?_, fun j hj => ?_⟩, hr, rfl, enc_ne hr⟩
        · rw [hq, List.cons_append, hrest, ← List.cons_append, ← hq, dec_enc hr]
        · cases j with
          | zero => exact .inl rfl
          | succ j =>
            right
            have hd := dec_cut hr (j := j + 1) hj
            rw [hq, List.take_succ_cons] at hd ⊢
            rw [hrest, hd]
theorem piece_head {l t x : List UInt8} (h : pieceL l = .ok (x, t)) (h34 : l.head? ≠ some 34) {p : List UInt8} (hp : p ≠ []) (hl : l = p ++ t) (t' : List UInt8) (j : Nat) (hj : j ≠ 0) : (p ++ t').head? ≠ some 34 ∧ (p.take j).head? ≠ some 34 := by
  cases p with
  | nil => exact absurd rfl hp
  | cons a q =>
    subst hl
    cases j with
    | zero => exact absurd rfl hj
    | succ j => exact ⟨by simpa using h34, by simpa using h34⟩
/-- THE LITERAL: what is read of it depends on nothing behind it; cut, it ends too early or in the middle of a code point. -/
theorem unqL_ok : ∀ (k : Nat) (l acc x t : List UInt8), unqL k l acc = .ok (x, t) →
    ∃ p rs, l = p ++ t ∧ p ≠ [] ∧ (∀ r ∈ rs, scalar r) ∧ x = acc ++ encs rs ∧ (encs rs).length ≤ 4 * p.length ∧
      (∀ k' acc' t', p.length ≤ k' → unqL k' (p ++ t') acc' = .ok (acc' ++ encs rs, t')) ∧
      (∀ k' acc' j, j < p.length → j < k' → unqL k' (p.take j) acc' = .error 3 ∨ unqL k' (p.take j) acc' = .error 6)
  | 0, l, acc, x, t, h => by simp [unqL] at h
  | k + 1, l, acc, x, t, h => by
    simp only [unqL] at h
    by_cases h34 : l.head? = some 34
    · rw [if_pos h34] at h
      simp only [Except.ok.injEq, Prod.mk.injEq] at h
      obtain ⟨rfl, rfl⟩ := h
      cases l with
      | nil => simp at h34
      | cons c l =>
        obtain rfl : c = 34 := by simpa using h34
        refine ⟨[34], [], rfl, by simp, by simp, by simp [encs], by simp [encs], fun k' acc' t' hk => ?_, fun k' acc' j hj hk => ?_⟩
        · obtain ⟨k', rfl⟩ : ∃ m, k' = m + 1 := ⟨k' - 1, by simp at hk; omega⟩
          simp [unqL, encs]
        · obtain rfl : j = 0 := by simp at hj; omega
          obtain ⟨k', rfl⟩ : ∃ m, k' = m + 1 := ⟨k' - 1, by omega⟩
          exact .inl (by simp [unqL, pieceL])
    · rw [if_neg h34] at h
      cases hx : pieceL l with
      | error e => rw [hx] at h; simp at h
      | ok y =>
        obtain ⟨y, l1⟩ := y
        rw [hx] at h
        simp only at h
        obtain ⟨p, r, hl, hloc, hr, rfl, hp⟩ := pieceL_ok hx
        obtain ⟨p2, rs, rfl, hp2, hrs, rfl, hlen, hall, hcut⟩ := unqL_ok k l1 (acc ++ enc r) x t h
        have hpos : 0 < p.length := List.length_pos_iff.2 hp
        refine ⟨p ++ p2, r :: rs, by rw [hl, List.append_assoc], by simp [hp], ?_, by rw [encs_cons, List.append_assoc], ?_, fun k' acc' t' hk => ?_, fun k' acc' j hj hk => ?_⟩
        · intro q hq
          rcases List.mem_cons.1 hq with rfl | hq
          · exact hr
          · exact hrs q hq
        · have := (enc_len hr).2
          rw [encs_cons, List.length_append, List.length_append]
          omega
        · rw [List.length_append] at hk
          obtain ⟨k', rfl⟩ : ∃ m, k' = m + 1 := ⟨k' - 1, by omega⟩
          simp only [unqL]
          rw [List.append_assoc, if_neg (piece_head hx h34 hp hl (p2 ++ t') 1 (by omega)).1, hloc.all]
          simp only
          rw [hall k' (acc' ++ enc r) t' (by omega), encs_cons, List.append_assoc]
        · obtain ⟨k', rfl⟩ : ∃ m, k' = m + 1 := ⟨k' - 1, by omega⟩
          simp only [unqL]
          by_cases hj1 : j < p.length
          · rw [List.take_append_of_le_length (by omega)]
            by_cases hj0 : j = 0
            · subst hj0
              exact .inl (by simp [pieceL])
            rw [if_neg (piece_head hx h34 hp hl t j hj0).2]
            rcases hloc.cut j hj1 with e | e
            · rw [e]; exact .inl rfl
            · rw [e]; exact .inr rfl
          · rw [List.take_append, List.take_of_length_le (by omega), if_neg (piece_head hx h34 hp hl _ 1 (by omega)).1, hloc.all]
            simp only
            exact hcut k' (acc' ++ enc r) (j - p.length) (by rw [List.length_append] at hj; omega) (by omega)
/-- With more rounds the same. -/
theorem unqL_fuel : ∀ (k k' : Nat) (l acc : List UInt8), l.length < k → l.length < k' → unqL k l acc = unqL k' l acc
  | 0, _, l, _, h, _ => by omega
  | _ + 1, 0, l, _, _, h => by omega
  | k + 1, k' + 1, l, acc, h, h' => by
    simp only [unqL]
    by_cases h34 : l.head? = some 34
    · rw [if_pos h34, if_pos h34]
    · rw [if_neg h34, if_neg h34]
      cases hx : pieceL l with
      | error e => rfl
      | ok y =>
        obtain ⟨y, l1⟩ := y
        simp only
        obtain ⟨p, r, hl, _, _, _, hp⟩ := pieceL_ok hx
        have hpos : 0 < p.length := List.length_pos_iff.2 hp
        have hlen : l.length = p.length + l1.length := by rw [hl, List.length_append]
        exact unqL_fuel k k' l1 (acc ++ y) (by omega) (by omega)
/-- A literal, from its first byte on. -/
def litL : List UInt8 → Rd (List UInt8)
  | [] => .error 3
  | c :: l => if c = 34 then unqL (l.length + 1) l [] else .error 5
end Go.Proofs.YtfmenojhojmedaaDoorU
