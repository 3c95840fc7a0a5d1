import Derived.Lib.MapLaws
import Derived.Lib.ValidLaws
import Derived.Lib.RuneBytes
import Derived.Test.YtfmenojhojmedaaDoorC7
import Derived.Test.YtfmenojhojmedaaDoorX1
import Derived.Lib.TrimUEq
/- Plain lemmas of this session's own: code points and their bytes: what is decoded, encoded, valid. -/
set_option linter.unusedVariables false
set_option linter.unusedSimpArgs false
namespace Go.Proofs.YtfmenojhojmedaaDoorU
open Go.Lib
def scalar (r : Nat) : Prop := r < 55296 ∨ (57344 ≤ r ∧ r ≤ 1114111)
instance (r : Nat) : Decidable (scalar r) := by unfold scalar; infer_instance
def enc (r : Nat) : List UInt8 := encodeRune (r : Int)
theorem byte_of {x : Int} (h0 : 0 ≤ x) (h1 : x < 256) : (x.toNat.toUInt8).toNat = x.toNat := by simp; omega
theorem enc_1 {r : Nat} (h : r ≤ 127) : ∃ a : UInt8, enc r = [a] ∧ a.toNat = r := by
  unfold enc encodeRune
  rw [encodeRuneZ_one (by omega) (by omega)]
  exact ⟨_, rfl, by rw [byte_of (by omega) (by omega)]; omega⟩
theorem enc_2 {r : Nat} (h0 : 128 ≤ r) (h : r ≤ 2047) : ∃ a b : UInt8, enc r = [a, b] ∧ a.toNat = 192 + r / 64 ∧ b.toNat = 128 + r % 64 := by
  unfold enc encodeRune
  rw [encodeRuneZ_two (by omega) (by omega)]
  exact ⟨_, _, rfl, by rw [byte_of (by omega) (by omega)]; omega, by rw [byte_of (by omega) (by omega)]; omega⟩
theorem enc_3 {r : Nat} (h : (2048 ≤ r ∧ r < 55296) ∨ (57343 < r ∧ r ≤ 65535)) : ∃ a b c : UInt8, enc r = [a, b, c] ∧ a.toNat = 224 + r / 4096 ∧ b.toNat = 128 + r / 64 % 64 ∧ c.toNat = 128 + r % 64 := by
  unfold enc encodeRune
  rw [encodeRuneZ_three (by omega)]
  exact ⟨_, _, _, rfl, by rw [byte_of (by omega) (by omega)]; omega, by rw [byte_of (by omega) (by omega)]; omega, by rw [byte_of (by omega) (by omega)]; omega⟩
theorem enc_4 {r : Nat} (h0 : 65536 ≤ r) (h : r ≤ 1114111) : ∃ a b c d : UInt8, enc r = [a, b, c, d] ∧ a.toNat = 240 + r / 262144 ∧ b.toNat = 128 + r / 4096 % 64 ∧ c.toNat = 128 + r / 64 % 64 ∧ d.toNat = 128 + r % 64 := by
  unfold enc encodeRune
  rw [encodeRuneZ_four (by omega) (by omega)]
  exact ⟨_, _, _, _, rfl, by rw [byte_of (by omega) (by omega)]; omega, by rw [byte_of (by omega) (by omega)]; omega, by rw [byte_of (by omega) (by omega)]; omega, by rw [byte_of (by omega) (by omega)]; omega⟩
theorem scalar_cases {r : Nat} (h : scalar r) : r ≤ 127 ∨ (128 ≤ r ∧ r ≤ 2047) ∨ ((2048 ≤ r ∧ r < 55296) ∨ (57343 < r ∧ r ≤ 65535)) ∨ (65536 ≤ r ∧ r ≤ 1114111) := by unfold scalar at h; omega
theorem decodeL_enc {r : Nat} (h : scalar r) (t : List UInt8) : decodeL (enc r ++ t) = (r, (enc r).length) := by
  rw [decodeL_N]
  rcases scalar_cases h with h | ⟨h0, h1⟩ | h | ⟨h0, h1⟩
  · obtain ⟨a, e, ha⟩ := enc_1 h
    rw [e]
    simp only [List.singleton_append, List.length_cons, List.getD_cons_zero, List.length_nil, ha]
    unfold decodeN
    rw [if_pos (by omega)]
  · obtain ⟨a, b, e, ha, hb⟩ := enc_2 h0 h1
    rw [e]
    simp only [List.cons_append, List.nil_append, List.length_cons, List.getD_cons_zero, List.getD_cons_succ, List.length_nil, ha, hb]
    unfold decodeN
    rw [if_neg (by omega), if_pos (by omega), if_pos (by omega)]
    have m1 : (192 + r / 64) % 32 = r / 64 := by omega
    have m2 : (128 + r % 64) % 64 = r % 64 := by omega
    rw [m1, m2, show r / 64 * 64 + r % 64 = r by omega]
  · obtain ⟨a, b, c, e, ha, hb, hc⟩ := enc_3 h
    rw [e]
    simp only [List.cons_append, List.nil_append, List.length_cons, List.getD_cons_zero, List.getD_cons_succ, List.length_nil, ha, hb, hc]
    unfold decodeN
    rw [if_neg (by omega), if_neg (by omega), if_pos (by omega), if_pos (by omega)]
    have m1 : (224 + r / 4096) % 16 = r / 4096 := by omega
    have m2 : (128 + r / 64 % 64) % 64 = r / 64 % 64 := by omega
    have m3 : (128 + r % 64) % 64 = r % 64 := by omega
    rw [m1, m2, m3, show r / 4096 * 4096 + r / 64 % 64 * 64 + r % 64 = r by omega]
  · obtain ⟨a, b, c, d, e, ha, hb, hc, hd⟩ := enc_4 h0 h1
    rw [e]
    simp only [List.cons_append, List.nil_append, List.length_cons, List.getD_cons_zero, List.getD_cons_succ, List.length_nil, ha, hb, hc, hd]
    unfold decodeN
    rw [if_neg (by omega), if_neg (by omega), if_neg (by omega), if_pos (by omega), if_pos (by omega)]
    have m1 : (240 + r / 262144) % 8 = r / 262144 := by omega
    have m2 : (128 + r / 4096 % 64) % 64 = r / 4096 % 64 := by omega
    have m3 : (128 + r / 64 % 64) % 64 = r / 64 % 64 := by omega
    have m4 : (128 + r % 64) % 64 = r % 64 := by omega
    rw [m1, m2, m3, m4, show r / 262144 * 262144 + r / 4096 % 64 * 4096 + r / 64 % 64 * 64 + r % 64 = r by omega]
theorem enc_len {r : Nat} (h : scalar r) : 1 ≤ (enc r).length ∧ (enc r).length ≤ 4 := by
  have := encodeRuneZ_length (r : Int)
  unfold enc encodeRune
  rw [List.length_map]
  exact this
theorem enc_ne {r : Nat} (h : scalar r) : enc r ≠ [] := by
  have := (enc_len h).1
  intro e
  rw [e] at this
  simp at this
/-- The first code point's bytes, and the rest. -/
def dec (l : List UInt8) : Option (List UInt8 × List UInt8) := if l = [] ∨ (decodeL l).1 = 65533 ∧ (decodeL l).2 = 1 then none else some (l.take (decodeL l).2, l.drop (decodeL l).2)
theorem dec_enc {r : Nat} (h : scalar r) (t : List UInt8) : dec (enc r ++ t) = some (enc r, t) := by
  unfold dec
  rw [decodeL_enc h t]
  have hne : ¬ (enc r ++ t = [] ∨ r = 65533 ∧ (enc r).length = 1) := by
    rintro (h1 | ⟨h1, h2⟩)
    · exact enc_ne h (List.append_eq_nil_iff.1 h1).1
    · subst h1
      exact absurd h2 (by decide)
  rw [if_neg hne]
  simp
theorem decodeL_scalar {l : List UInt8} (hne : l ≠ []) (h : ¬ ((decodeL l).1 = 65533 ∧ (decodeL l).2 = 1)) : scalar (decodeL l).1 := by
  rw [decodeL_N] at h ⊢
  have k0 := (l.getD 0 0).toNat_lt
  have k1 := (l.getD 1 0).toNat_lt
  have k2 := (l.getD 2 0).toNat_lt
  have k3 := (l.getD 3 0).toNat_lt
  unfold scalar
  rcases decodeN_shape l.length (l.getD 0 0).toNat (l.getD 1 0).toNat (l.getD 2 0).toNat (l.getD 3 0).toNat with ⟨c, e⟩ | ⟨c1, c2, c3, cv, e⟩ | ⟨c1, c2, c3, c4, cv, cs, e⟩ | ⟨c1, c2, c3, c4, c5, cv, cw, e⟩ | e
  all_goals rw [e] at h ⊢
  all_goals simp only at h ⊢
  all_goals omega
theorem dec_some {l p t : List UInt8} (h : dec l = some (p, t)) : ∃ r, scalar r ∧ p = enc r ∧ l = p ++ t := by
  unfold dec at h
  by_cases hc : l = [] ∨ (decodeL l).1 = 65533 ∧ (decodeL l).2 = 1
  · rw [if_pos hc] at h; simp at h
  rw [if_neg hc] at h
  simp only [Option.some.injEq, Prod.mk.injEq] at h
  obtain ⟨rfl, rfl⟩ := h
  have hne : l ≠ [] := fun e => hc (.inl e)
  have hv : ¬ ((decodeL l).1 = 65533 ∧ (decodeL l).2 = 1) := fun e => hc (.inr e)
  exact ⟨(decodeL l).1, decodeL_scalar hne hv, (encode_decode l hne hv).symm, (List.take_append_drop _ _).symm⟩
theorem dec_local {l p t t' : List UInt8} (h : dec l = some (p, t)) : dec (p ++ t') = some (p, t') := by
  obtain ⟨r, hr, rfl, _⟩ := dec_some h
  exact dec_enc hr t'
theorem dec_nil : dec [] = none := by simp [dec]
/-- A code point's bytes, cut: none. -/
theorem dec_cut {r : Nat} (hr : scalar r) {j : Nat} (hj : j < (enc r).length) : dec ((enc r).take j) = none := by
  by_cases h0 : j = 0
  · subst h0
    simp [dec_nil]
  unfold dec
  rw [if_pos]
  right
  rw [decodeL_N]
  have hl : ((enc r).take j).length = j := by rw [List.length_take]; omega
  have hg : ((enc r).take j).getD 0 0 = (enc r).getD 0 0 := by
    simp only [List.getD, List.getElem?_take]
    rw [if_pos (by omega)]
  rw [hl, hg]
  generalize ((List.take j (enc r)).getD 1 0).toNat = b1
  generalize ((List.take j (enc r)).getD 2 0).toNat = b2
  generalize ((List.take j (enc r)).getD 3 0).toNat = b3
  rcases scalar_cases hr with h | ⟨h1, h2⟩ | h | ⟨h1, h2⟩
  · obtain ⟨a, e, ha⟩ := enc_1 h
    rw [e] at hj
    simp at hj
    omega
  · obtain ⟨a, b, e, ha, hb⟩ := enc_2 h1 h2
    rw [e] at hj ⊢
    simp only [List.length_cons, List.length_nil, List.getD_cons_zero] at hj ⊢
    unfold decodeN
    rw [if_neg (by omega), if_neg (by omega), if_neg (by omega), if_neg (by omega)]
    exact ⟨rfl, rfl⟩
  · obtain ⟨a, b, c, e, ha, hb, hc⟩ := enc_3 h
    rw [e] at hj ⊢
    simp only [List.length_cons, List.length_nil, List.getD_cons_zero] at hj ⊢
    unfold decodeN
    rw [if_neg (by omega), if_neg (by omega), if_neg (by omega), if_neg (by omega)]
    exact ⟨rfl, rfl⟩
  · obtain ⟨a, b, c, d, e, ha, hb, hc, hd⟩ := enc_4 h1 h2
    rw [e] at hj ⊢
    simp only [List.length_cons, List.length_nil, List.getD_cons_zero] at hj ⊢
    unfold decodeN
    rw [if_neg (by omega), if_neg (by omega), if_neg (by omega), if_neg (by omega)]
    exact ⟨rfl, rfl⟩
theorem validD_enc {r : Nat} (hr : scalar r) (t : List UInt8) : validD (enc r ++ t) = validD t := by
  have hne : enc r ++ t ≠ [] := fun e => enc_ne hr (List.append_eq_nil_iff.1 e).1
  rw [validD_step _ hne, decodeL_enc hr t]
  simp only
  rw [if_neg, List.drop_left]
  rintro ⟨h1, h2⟩
  subst h1
  exact absurd h2 (by decide)
theorem validD_none {l : List UInt8} (hne : l ≠ []) (h : dec l = none) : validD l = false := by
  unfold dec at h
  rw [validD_step _ hne]
  by_cases hc : (decodeL l).1 = 65533 ∧ (decodeL l).2 = 1
  · rw [if_pos hc]
  · rw [if_neg] at h
    · simp at h
    · rintro (h1 | h1)
      · exact hne h1
      · exact hc h1
/-- Code points' bytes. -/
def encs (rs : List Nat) : List UInt8 := (rs.map enc).flatten
theorem encs_cons (r : Nat) (rs : List Nat) : encs (r :: rs) = enc r ++ encs rs := by simp [encs]
theorem encs_append (a b : List Nat) : encs (a ++ b) = encs a ++ encs b := by simp [encs]
theorem validD_encs : ∀ (rs : List Nat), (∀ r ∈ rs, scalar r) → validD (encs rs) = true
  | [], _ => by simp [encs, validD_nil]
  | r :: rs, h => by rw [encs_cons, validD_enc (h r (by simp))]; exact validD_encs rs fun x hx => h x (by simp [hx])
theorem validD_iff : ∀ (n : Nat) (l : List UInt8), l.length ≤ n → validD l = true → ∃ rs : List Nat, (∀ r ∈ rs, scalar r) ∧ l = encs rs := by
  intro n
  induction n with
  | zero =>
    intro l hl _
    obtain rfl : l = [] := List.length_eq_zero_iff.1 (by omega)
    exact ⟨[], by simp, rfl⟩
  | succ n ih =>
    intro l hl hv
    by_cases hne : l = []
    · subst hne
      exact ⟨[], by simp, rfl⟩
    cases hd : dec l with
    | none => rw [validD_none hne hd] at hv; cases hv
    | some x =>
      obtain ⟨p, t⟩ := x
      obtain ⟨r, hr, rfl, rfl⟩ := dec_some hd
      rw [validD_enc hr] at hv
      have := (enc_len hr).1
      rw [List.length_append] at hl
      obtain ⟨rs, h1, h2⟩ := ih t (by omega) hv
      exact ⟨r :: rs, by intro x hx; rcases List.mem_cons.1 hx with rfl | h; exact hr; exact h1 x h, by rw [encs_cons, h2]⟩
theorem validD_app {a b : List UInt8} (ha : validD a = true) (hb : validD b = true) : validD (a ++ b) = true := by
  obtain ⟨x, hx, rfl⟩ := validD_iff _ a (Nat.le_refl _) ha
  obtain ⟨y, hy, rfl⟩ := validD_iff _ b (Nat.le_refl _) hb
  rw [← encs_append]
  exact validD_encs _ fun r hr => by
    rcases List.mem_append.1 hr with h | h
    · exact hx r h
    · exact hy r h
theorem enc_inj {r q : Nat} (hr : scalar r) (hq : scalar q) (h : enc r = enc q) : r = q := by
  have h1 := decodeL_enc hr []
  have h2 := decodeL_enc hq []
  rw [h] at h1
  rw [h1] at h2
  exact (Prod.mk.inj h2).1
end Go.Proofs.YtfmenojhojmedaaDoorU
/- Plain lemmas of this session's own: a string's literal: how it is read (lists of bytes), and that reading depends on nothing behind it. -/
set_option linter.unusedVariables false
set_option linter.unusedSimpArgs false
namespace Go.Proofs.YtfmenojhojmedaaDoorU
open Go.Lib
abbrev Rd (α : Type) := Except Int (α × List UInt8)
def hexV (c : UInt8) : Option Nat := if 48 ≤ c.toNat ∧ c.toNat ≤ 57 then some (c.toNat - 48) else if 97 ≤ c.toNat ∧ c.toNat ≤ 102 then some (c.toNat - 87) else if 65 ≤ c.toNat ∧ c.toNat ≤ 70 then some (c.toNat - 55) else none
def hexN : Nat → Nat → List UInt8 → Rd Nat
  | 0, n, l => .ok (n, l)
  | _ + 1, _, [] => .error 3
  | k + 1, n, c :: l => match hexV c with | none => .error 5 | some d => hexN k (n * 16 + d) l
def lowL (n : Nat) (l : List UInt8) : Rd Nat := match hexN 4 0 l with
  | .error e => .error e
  | .ok (m, l4) => if m < 56320 ∨ 57343 < m then .error 6 else .ok (65536 + (n - 55296) * 1024 + (m - 56320), l4)
def pairL (n : Nat) : List UInt8 → Rd Nat
  | [] => .error 3
  | c :: l2 => if c ≠ 92 then .error 6 else match l2 with
    | [] => .error 3
    | d :: l3 => if d ≠ 117 then .error 6 else lowL n l3
def unitL (l : List UInt8) : Rd Nat := match hexN 4 0 l with
  | .error e => .error e
  | .ok (n, l1) => if n < 55296 ∨ 57343 < n then .ok (n, l1) else if 56320 ≤ n then .error 6 else pairL n l1
def escL : List UInt8 → Rd Nat
  | [] => .error 3
  | c :: l1 => if c = 34 ∨ c = 92 ∨ c = 47 then .ok (c.toNat, l1) else if c = 98 then .ok (8, l1) else if c = 102 then .ok (12, l1) else if c = 110 then .ok (10, l1) else if c = 114 then .ok (13, l1) else if c = 116 then .ok (9, l1) else if c = 117 then unitL l1 else .error 5
/-- One piece of a literal's inside: its code point's bytes. -/
def pieceL : List UInt8 → Rd (List UInt8)
  | [] => .error 3
  | c :: l => if c.toNat < 32 then .error 5 else if c = 92 then (match escL l with | .error e => .error e | .ok (r, l1) => .ok (enc r, l1))
    else match dec (c :: l) with | none => .error 6 | some (p, l1) => .ok (p, l1)
def unqL : Nat → List UInt8 → List UInt8 → Rd (List UInt8)
  | 0, _, _ => .error 0
  | k + 1, l, acc => if l.head? = some 34 then .ok (acc, l.tail) else match pieceL l with | .error e => .error e | .ok (p, l1) => unqL k l1 (acc ++ p)
theorem hexV_lt {c : UInt8} {d : Nat} (h : hexV c = some d) : d < 16 := by
  unfold hexV at h
  repeat' split at h
  all_goals (simp at h; try omega)
/-- What a reader tells of some bytes, whatever stands behind them: and that they end too early, cut. -/
structure Local {α : Type} (P : List UInt8 → Rd α) (p : List UInt8) (a : α) : Prop where
  all : ∀ t, P (p ++ t) = .ok (a, t)
  cut : ∀ j, j < p.length → P (p.take j) = .error 3 ∨ P (p.take j) = .error 6
theorem hexN_ok : ∀ (k n : Nat) (l : List UInt8) (m : Nat) (t : List UInt8), hexN k n l = .ok (m, t) →
    ∃ p, l = p ++ t ∧ p.length = k ∧ (∀ t', hexN k n (p ++ t') = .ok (m, t')) ∧ (∀ j, j < k → hexN k n (p.take j) = .error 3) ∧ m < (n + 1) * 16 ^ k
  | 0, n, l, m, t, h => by
    simp only [hexN, Except.ok.injEq, Prod.mk.injEq] at h
    obtain ⟨rfl, rfl⟩ := h
    exact ⟨[], rfl, rfl, fun _ => rfl, fun j hj => absurd hj (by omega), by simp⟩
  | k + 1, n, [], m, t, h => by simp [hexN] at h
  | k + 1, n, c :: l, m, t, h => by
    simp only [hexN] at h
    cases hc : hexV c with
    | none => rw [hc] at h; simp at h
    | some d =>
      rw [hc] at h
      simp only at h
      obtain ⟨p, rfl, hp, h1, h2, h3⟩ := hexN_ok k (n * 16 + d) l m t h
      refine ⟨c :: p, rfl, by simp [hp], fun t' => ?_, fun j hj => ?_, ?_⟩
      · simp only [List.cons_append, hexN, hc]
        exact h1 t'
      · cases j with
        | zero => simp [hexN]
        | succ j =>
          simp only [List.take_succ_cons, hexN, hc]
          exact h2 j (by omega)
      · have := hexV_lt hc
        have h4 : n * 16 + d + 1 ≤ (n + 1) * 16 := by omega
        have h5 := Nat.mul_le_mul_right (16 ^ k) h4
        rw [Nat.pow_succ, Nat.mul_comm (16 ^ k) 16, ← Nat.mul_assoc]
        omega
theorem lowL_ok {n : Nat} {l t : List UInt8} {r : Nat} (hn : 55296 ≤ n) (hn2 : n < 56320) (h : lowL n l = .ok (r, t)) : ∃ p, l = p ++ t ∧ Local (lowL n) p r ∧ scalar r ∧ p.length = 4 := by
  unfold lowL at h
  cases hx : hexN 4 0 l with
  | error e => rw [hx] at h; simp at h
  | ok x =>
    obtain ⟨m, l4⟩ := x
    rw [hx] at h
    simp only at h
    by_cases hm : m < 56320 ∨ 57343 < m
    · rw [if_pos hm] at h; simp at h
    rw [if_neg hm] at h
    simp only [Except.ok.injEq, Prod.mk.injEq] at h
    obtain ⟨rfl, rfl⟩ := h
    obtain ⟨p, rfl, hp, h1, h2, h3⟩ := hexN_ok 4 0 l m l4 hx
    refine ⟨p, rfl, ⟨fun t' => ?_, fun j hj => .inl ?_⟩, ?_, hp⟩
    · unfold lowL; rw [h1 t']; simp only; rw [if_neg hm]
    · unfold lowL; rw [h2 j (by omega)]
    · unfold scalar; omega
theorem pairL_ok {n : Nat} {l t : List UInt8} {r : Nat} (hn : 55296 ≤ n) (hn2 : n < 56320) (h : pairL n l = .ok (r, t)) : ∃ p, l = p ++ t ∧ Local (pairL n) p r ∧ scalar r := by
  match l, h with
  | [], h => simp [pairL] at h
  | c :: l2, h =>
    by_cases hc : c ≠ 92
    · simp [pairL, hc] at h
    match l2, h with
    | [], h => simp [pairL, hc] at h
    | d :: l3, h =>
      by_cases hd : d ≠ 117
      · simp [pairL, hc, hd] at h
      have h' : lowL n l3 = .ok (r, t) := by simpa [pairL, hc, hd] using h
      obtain ⟨p, rfl, hl, hs, hp⟩ := lowL_ok hn hn2 h'
      refine ⟨c :: d :: p, rfl, ⟨fun t' => ?_, fun j hj => ?_⟩, hs⟩
      · have := hl.all t'
        simp only [List.cons_append, pairL]
        rw [if_neg hc, if_neg hd]
        exact this
      · match j with
        | 0 => exact .inl (by simp [pairL])
        | 1 => exact .inl (by simp [pairL, hc])
        | j + 2 =>
          have := hl.cut j (by simp at hj; omega)
          simp only [List.take_succ_cons, pairL]
          rw [if_neg hc, if_neg hd]
          exact this
theorem unitL_ok {l t : List UInt8} {r : Nat} (h : unitL l = .ok (r, t)) : ∃ p, l = p ++ t ∧ Local unitL p r ∧ scalar r := by
  unfold unitL at h
  cases hx : hexN 4 0 l with
  | error e => rw [hx] at h; simp at h
  | ok x =>
    obtain ⟨n, l1⟩ := x
    rw [hx] at h
    simp only at h
    obtain ⟨p, rfl, hp, h1, h2, h3⟩ := hexN_ok 4 0 l n l1 hx
    have hlt : n < 65536 := by simpa using h3
    by_cases hm : n < 55296 ∨ 57343 < n
    · rw [if_pos hm] at h
      simp only [Except.ok.injEq, Prod.mk.injEq] at h
      obtain ⟨rfl, rfl⟩ := h
      refine ⟨p, rfl, ⟨fun t' => ?_, fun j hj => .inl ?_⟩, ?_⟩
      · unfold unitL; rw [h1 t']; simp only; rw [if_pos hm]
      · unfold unitL; rw [h2 j (by omega)]
      · unfold scalar; omega
    rw [if_neg hm] at h
    by_cases hm2 : 56320 ≤ n
    · rw [if_pos hm2] at h; simp at h
    rw [if_neg hm2] at h
    obtain ⟨p2, rfl, hl, hs⟩ := pairL_ok (by omega) (by omega) h
    refine ⟨p ++ p2, by rw [List.append_assoc], ⟨fun t' => ?_, fun j hj => ?_⟩, hs⟩
    · unfold unitL; rw [List.append_assoc, h1]; simp only; rw [if_neg hm, if_neg hm2]; exact hl.all t'
    · by_cases hj4 : j < 4
      · left
        unfold unitL
        rw [List.take_append_of_le_length (by omega), h2 j hj4]
      · unfold unitL
        rw [List.take_append, List.take_of_length_le (by omega), h1]
        simp only
        rw [if_neg hm, if_neg hm2]
        exact hl.cut (j - p.length) (by rw [List.length_append] at hj; omega)
theorem byte_scalar (c : UInt8) : scalar c.toNat := by have := c.toNat_lt; unfold scalar; omega
theorem escL_ok {l t : List UInt8} {r : Nat} (h : escL l = .ok (r, t)) : ∃ p, l = p ++ t ∧ Local escL p r ∧ scalar r ∧ p ≠ [] := by
  match l, h with
  | [], h => simp [escL] at h
  | c :: l1, h =>
    have one : ∀ q, (∀ l', escL (c :: l') = .ok (q, l')) → scalar q → q = r → ∃ p, c :: l1 = p ++ t ∧ Local escL p r ∧ scalar r ∧ p ≠ [] := by
      rintro q hq hs rfl
      rw [hq] at h
      simp only [Except.ok.injEq, Prod.mk.injEq, true_and] at h
      subst h
      refine ⟨[c], rfl, ⟨fun t' => hq t', fun j hj => .inl ?_⟩, hs, by simp⟩
      obtain rfl : j = 0 := by simp at hj; omega
      rfl
    have val : ∀ q, (∀ l', escL (c :: l') = .ok (q, l')) → q = r := by
      intro q hq
      rw [hq] at h
      simp only [Except.ok.injEq, Prod.mk.injEq] at h
      exact h.1
    by_cases h1 : c = 34 ∨ c = 92 ∨ c = 47
    · have hq : ∀ l', escL (c :: l') = .ok (c.toNat, l') := fun l' => by simp only [escL]; rw [if_pos h1]
      exact one _ hq (byte_scalar c) (val _ hq)
    by_cases h2 : c = 98
    · have hq : ∀ l', escL (c :: l') = .ok (8, l') := fun l' => by simp only [escL]; rw [if_neg h1, if_pos h2]
      exact one _ hq (by decide) (val _ hq)
    by_cases h3 : c = 102
    · have hq : ∀ l', escL (c :: l') = .ok (12, l') := fun l' => by simp only [escL]; rw [if_neg h1, if_neg h2, if_pos h3]
      exact one _ hq (by decide) (val _ hq)
    by_cases h4 : c = 110
    · have hq : ∀ l', escL (c :: l') = .ok (10, l') := fun l' => by simp only [escL]; rw [if_neg h1, if_neg h2, if_neg h3, if_pos h4]
      exact one _ hq (by decide) (val _ hq)
    by_cases h5 : c = 114
    · have hq : ∀ l', escL (c :: l') = .ok (13, l') := fun l' => by simp only [escL]; rw [if_neg h1, if_neg h2, if_neg h3, if_neg h4, if_pos h5]
      exact one _ hq (by decide) (val _ hq)
    by_cases h6 : c = 116
    · have hq : ∀ l', escL (c :: l') = .ok (9, l') := fun l' => by simp only [escL]; rw [if_neg h1, if_neg h2, if_neg h3, if_neg h4, if_neg h5, if_pos h6]
      exact one _ hq (by decide) (val _ hq)
    have hrest : ∀ l', escL (c :: l') = if c = 117 then unitL l' else .error 5 := fun l' => by simp only [escL]; rw [if_neg h1, if_neg h2, if_neg h3, if_neg h4, if_neg h5, if_neg h6]
    rw [hrest] at h
    by_cases h7 : c = 117
    · rw [if_pos h7] at h
      obtain ⟨p, rfl, hl, hs⟩ := unitL_ok h
      refine ⟨c :: p, rfl, ⟨fun t' => ?_, fun j hj => ?_⟩, hs, by simp⟩
      · rw [List.cons_append, hrest, if_pos h7]
        exact hl.all t'
      · cases j with
        | zero => exact .inl rfl
        | succ j =>
          rw [List.take_succ_cons, hrest, if_pos h7]
          exact hl.cut j (by simp at hj; omega)
    · rw [if_neg h7] at h; simp at h
theorem dec_cut2 {l p t : List UInt8} (h : dec l = some (p, t)) {j : Nat} (hj : j < p.length) : dec (p.take j) = none := by
  obtain ⟨r, hr, rfl, _⟩ := dec_some h
  exact dec_cut hr hj
theorem pieceL_ok {l t x : List UInt8} (h : pieceL l = .ok (x, t)) : ∃ p r, l = p ++ t ∧ Local pieceL p x ∧ scalar r ∧ x = enc r ∧ p ≠ [] := by
  match l, h with
  | [], h => simp [pieceL] at h
  | c :: l1, h =>
    by_cases h1 : c.toNat < 32
    · simp [pieceL, h1] at h
    by_cases h2 : c = 92
    · have hrest : ∀ l', pieceL (c :: l') = match escL l' with | .error e => .error e | .ok (r, l1) => .ok (enc r, l1) := fun l' => by
        simp only [pieceL]
        rw [if_neg h1, if_pos h2]
      rw [hrest] at h
      cases hx : escL l1 with
      | error e => rw [hx] at h; simp at h
      | ok y =>
        obtain ⟨r, l2⟩ := y
        rw [hx] at h
        simp only [Except.ok.injEq, Prod.mk.injEq] at h
        obtain ⟨rfl, rfl⟩ := h
        obtain ⟨p, rfl, hl, hs, _⟩ := escL_ok hx
        refine ⟨c :: p, r, rfl, ⟨fun t' => ?_, fun j hj => ?_⟩, hs, rfl, by simp⟩
        · rw [List.cons_append, hrest, hl.all t']
        · cases j with
          | zero => exact .inl rfl
          | succ j =>
            rw [List.take_succ_cons, hrest]
            rcases hl.cut j (by simp at hj; omega) with e | e
            · rw [e]; exact .inl rfl
            · rw [e]; exact .inr rfl
    · have hrest : ∀ l', pieceL (c :: l') = match dec (c :: l') with | none => .error 6 | some (p, l1) => .ok (p, l1) := fun l' => by
        simp only [pieceL]
        rw [if_neg h1, if_neg h2]
      rw [hrest] at h
      cases hx : dec (c :: l1) with
      | none => rw [hx] at h; simp at h
      | some y =>
        obtain ⟨p, l2⟩ := y
        rw [hx] at h
        simp only [Except.ok.injEq, Prod.mk.injEq] at h
        obtain ⟨rfl, rfl⟩ := h
        obtain ⟨r, hr, rfl, he⟩ := dec_some hx
        obtain ⟨c', q, hq⟩ : ∃ c' q, enc r = c' :: q := by
          cases hh : enc r with
          | nil => exact absurd hh (enc_ne hr)
          | cons a b => exact ⟨a, b, rfl⟩
        have hcc : c' = c := by
          rw [hq] at he
          simp only [List.cons_append, List.cons.injEq] at he
          exact he.1.symm
        subst hcc
        refine ⟨enc r, r, he, ⟨fun t' => ?_, fun j hj => ?_⟩, hr, rfl, enc_ne hr⟩
        · rw [hq, List.cons_append, hrest, ← List.cons_append, ← hq, dec_enc hr]
        · cases j with
          | zero => exact .inl rfl
          | succ j =>
            right
            have hd := dec_cut hr (j := j + 1) hj
            rw [hq, List.take_succ_cons] at hd ⊢
            rw [hrest, hd]
theorem piece_head {l t x : List UInt8} (h : pieceL l = .ok (x, t)) (h34 : l.head? ≠ some 34) {p : List UInt8} (hp : p ≠ []) (hl : l = p ++ t) (t' : List UInt8) (j : Nat) (hj : j ≠ 0) : (p ++ t').head? ≠ some 34 ∧ (p.take j).head? ≠ some 34 := by
  cases p with
  | nil => exact absurd rfl hp
  | cons a q =>
    subst hl
    cases j with
    | zero => exact absurd rfl hj
    | succ j => exact ⟨by simpa using h34, by simpa using h34⟩
/-- THE LITERAL: what is read of it depends on nothing behind it; cut, it ends too early or in the middle of a code point. -/
theorem unqL_ok : ∀ (k : Nat) (l acc x t : List UInt8), unqL k l acc = .ok (x, t) →
    ∃ p rs, l = p ++ t ∧ p ≠ [] ∧ (∀ r ∈ rs, scalar r) ∧ x = acc ++ encs rs ∧ (encs rs).length ≤ 4 * p.length ∧
      (∀ k' acc' t', p.length ≤ k' → unqL k' (p ++ t') acc' = .ok (acc' ++ encs rs, t')) ∧
      (∀ k' acc' j, j < p.length → j < k' → unqL k' (p.take j) acc' = .error 3 ∨ unqL k' (p.take j) acc' = .error 6)
  | 0, l, acc, x, t, h => by simp [unqL] at h
  | k + 1, l, acc, x, t, h => by
    simp only [unqL] at h
    by_cases h34 : l.head? = some 34
    · rw [if_pos h34] at h
      simp only [Except.ok.injEq, Prod.mk.injEq] at h
      obtain ⟨rfl, rfl⟩ := h
      cases l with
      | nil => simp at h34
      | cons c l =>
        obtain rfl : c = 34 := by simpa using h34
        refine ⟨[34], [], rfl, by simp, by simp, by simp [encs], by simp [encs], fun k' acc' t' hk => ?_, fun k' acc' j hj hk => ?_⟩
        · obtain ⟨k', rfl⟩ : ∃ m, k' = m + 1 := ⟨k' - 1, by simp at hk; omega⟩
          simp [unqL, encs]
        · obtain rfl : j = 0 := by simp at hj; omega
          obtain ⟨k', rfl⟩ : ∃ m, k' = m + 1 := ⟨k' - 1, by omega⟩
          exact .inl (by simp [unqL, pieceL])
    · rw [if_neg h34] at h
      cases hx : pieceL l with
      | error e => rw [hx] at h; simp at h
      | ok y =>
        obtain ⟨y, l1⟩ := y
        rw [hx] at h
        simp only at h
        obtain ⟨p, r, hl, hloc, hr, rfl, hp⟩ := pieceL_ok hx
        obtain ⟨p2, rs, rfl, hp2, hrs, rfl, hlen, hall, hcut⟩ := unqL_ok k l1 (acc ++ enc r) x t h
        have hpos : 0 < p.length := List.length_pos_iff.2 hp
        refine ⟨p ++ p2, r :: rs, by rw [hl, List.append_assoc], by simp [hp], ?_, by rw [encs_cons, List.append_assoc], ?_, fun k' acc' t' hk => ?_, fun k' acc' j hj hk => ?_⟩
        · intro q hq
          rcases List.mem_cons.1 hq with rfl | hq
          · exact hr
          · exact hrs q hq
        · have := (enc_len hr).2
          rw [encs_cons, List.length_append, List.length_append]
          omega
        · rw [List.length_append] at hk
          obtain ⟨k', rfl⟩ : ∃ m, k' = m + 1 := ⟨k' - 1, by omega⟩
          simp only [unqL]
          rw [List.append_assoc, if_neg (piece_head hx h34 hp hl (p2 ++ t') 1 (by omega)).1, hloc.all]
          simp only
          rw [hall k' (acc' ++ enc r) t' (by omega), encs_cons, List.append_assoc]
        · obtain ⟨k', rfl⟩ : ∃ m, k' = m + 1 := ⟨k' - 1, by omega⟩
          simp only [unqL]
          by_cases hj1 : j < p.length
          · rw [List.take_append_of_le_length (by omega)]
            by_cases hj0 : j = 0
            · subst hj0
              exact .inl (by simp [pieceL])
            rw [if_neg (piece_head hx h34 hp hl t j hj0).2]
            rcases hloc.cut j hj1 with e | e
            · rw [e]; exact .inl rfl
            · rw [e]; exact .inr rfl
          · rw [List.take_append, List.take_of_length_le (by omega), if_neg (piece_head hx h34 hp hl _ 1 (by omega)).1, hloc.all]
            simp only
            exact hcut k' (acc' ++ enc r) (j - p.length) (by rw [List.length_append] at hj; omega) (by omega)
/-- With more rounds the same. -/
theorem unqL_fuel : ∀ (k k' : Nat) (l acc : List UInt8), l.length < k → l.length < k' → unqL k l acc = unqL k' l acc
  | 0, _, l, _, h, _ => by omega
  | _ + 1, 0, l, _, _, h => by omega
  | k + 1, k' + 1, l, acc, h, h' => by
    simp only [unqL]
    by_cases h34 : l.head? = some 34
    · rw [if_pos h34, if_pos h34]
    · rw [if_neg h34, if_neg h34]
      cases hx : pieceL l with
      | error e => rfl
      | ok y =>
        obtain ⟨y, l1⟩ := y
        simp only
        obtain ⟨p, r, hl, _, _, _, hp⟩ := pieceL_ok hx
        have hpos : 0 < p.length := List.length_pos_iff.2 hp
        have hlen : l.length = p.length + l1.length := by rw [hl, List.length_append]
        exact unqL_fuel k k' l1 (acc ++ y) (by omega) (by omega)
/-- A literal, from its first byte on. -/
def litL : List UInt8 → Rd (List UInt8)
  | [] => .error 3
  | c :: l => if c = 34 then unqL (l.length + 1) l [] else .error 5
end Go.Proofs.YtfmenojhojmedaaDoorU
/- The reader's printed functions tell what the literal's grammar tells. -/
set_option linter.unusedVariables false
set_option linter.unusedSimpArgs false
namespace Go.Proofs.YtfmenojhojmedaaDoorV
open Go.RowKit Go.Lib Go.Proofs.YtfmenojhojmedaaDoorU Go.Proofs.YtfmenojhojmedaaDoorG Go.Proofs.YtfmenojhojmedaaDoorX Go.Proofs.YtfmenojhojmedaaDoor.PR Go.Proofs.YtfmenojhojmedaaDoorW.PrintWords
/-- What is left from a place on. -/
def rest (s : ByteArray) (a : Nat) : List UInt8 := s.data.toList.drop a
theorem size_list (s : ByteArray) : s.data.toList.length = s.size := by rw [Array.length_toList]; rfl
theorem rest_len (s : ByteArray) (a : Nat) : (rest s a).length = s.size - a := by unfold rest; rw [List.length_drop, size_list]
theorem rest_back {s : ByteArray} {a : Nat} {p t : List UInt8} (h : rest s a = p ++ t) (ha : a ≤ s.size) : s.size - t.length = a + p.length ∧ a + p.length ≤ s.size ∧ rest s (a + p.length) = t := by
  have h1 : (rest s a).length = p.length + t.length := by rw [h, List.length_append]
  rw [rest_len] at h1
  refine ⟨by omega, by omega, ?_⟩
  unfold rest at h ⊢
  rw [← List.drop_drop, h, List.drop_left]
theorem rest_cons {s : ByteArray} {a : Nat} {c : UInt8} {l : List UInt8} (h : rest s a = c :: l) : a < s.size ∧ bt s (a : Int) = (c.toNat : Int) ∧ rest s (a + 1) = l ∧ s.size - l.length = a + 1 := by
  have h1 : (rest s a).length = l.length + 1 := by rw [h, List.length_cons]
  rw [rest_len] at h1
  have ha : a < s.size := by omega
  have hb : (rest s a)[0]? = some c := by rw [h]; rfl
  unfold rest at hb
  rw [List.getElem?_drop, Nat.add_zero, bt_list ha] at hb
  refine ⟨ha, by rw [bt_nat ha, Option.some.inj hb], ?_, by omega⟩
  exact (rest_back (p := [c]) (t := l) (by rw [h]; rfl) (by omega)).2.2
theorem rest_nil {s : ByteArray} {a : Nat} (h : rest s a = []) (ha : a ≤ s.size) : a = s.size := by
  have h1 : (rest s a).length = 0 := by rw [h]; rfl
  rw [rest_len] at h1
  omega
theorem next_nil {s : ByteArray} {a : Nat} (e : Int) (ha : a ≤ s.size) (h : rest s a = []) : scan_reader_next.f s a e = some (0, false, s, (a : Int), 3) := by
  have := rest_nil h ha
  unfold scan_reader_next.f
  rw [if_pos (by omega)]
theorem next_cons {s : ByteArray} {a : Nat} {c : UInt8} {l : List UInt8} (e : Int) (hs : s.size ≤ 1000000) (h : rest s a = c :: l) : scan_reader_next.f s a e = some ((c.toNat : Int), true, s, ((a + 1 : Nat) : Int), e) := by
  obtain ⟨ha, hb, _, _⟩ := rest_cons h
  have e1 : wrap64 ((a : Int) + 1) = ((a + 1 : Nat) : Int) := by unfold wrap64; omega
  have e2 : wrap64 (((a + 1 : Nat) : Int) - 1) = (a : Int) := by unfold wrap64; omega
  unfold scan_reader_next.f
  rw [if_neg (by omega), e1, e2, if_pos (by omega), if_pos (by omega), hb]
theorem idx_all : ∀ n : Fin 256, indexByte [48, 49, 50, 51, 52, 53, 54, 55, 56, 57, 97, 98, 99, 100, 101, 102] (if 65 ≤ n.val ∧ n.val ≤ 70 then ((((n.val : Nat) : Int) + 32) % 256).toNat.toUInt8 else ((n.val : Nat) : Int).toNat.toUInt8) = (match hexV (UInt8.ofNat n.val) with | none => -1 | some d => (d : Int)) := by decide +kernel
theorem idx_of (c : UInt8) : indexByte [48, 49, 50, 51, 52, 53, 54, 55, 56, 57, 97, 98, 99, 100, 101, 102] (if 65 ≤ c.toNat ∧ c.toNat ≤ 70 then ((((c.toNat : Nat) : Int) + 32) % 256).toNat.toUInt8 else ((c.toNat : Nat) : Int).toNat.toUInt8) = (match hexV c with | none => -1 | some d => (d : Int)) := by
  have h := idx_all ⟨c.toNat, c.toNat_lt⟩
  simpa only [UInt8.ofNat_toNat] using h
theorem or_nat (n d : Nat) (hn : n < 4096) (hd : d < 16) : Go.bits .or .i32 (wrap32 ((n : Int) * 16)) (wrap32 (d : Int)) = ((n * 16 + d : Nat) : Int) := by
  have e1 : wrap32 ((n : Int) * 16) = ((n * 16 : Nat) : Int) := by unfold wrap32; omega
  have e2 : wrap32 (d : Int) = (d : Int) := by unfold wrap32; omega
  have h1 : (BitVec.ofInt 32 ((n * 16 : Nat) : Int)).toNat = n * 16 := by
    rw [BitVec.ofInt_natCast, BitVec.toNat_ofNat]; exact Nat.mod_eq_of_lt (by omega)
  have h2 : (BitVec.ofInt 32 (d : Int)).toNat = d := by
    rw [BitVec.ofInt_natCast, BitVec.toNat_ofNat]; exact Nat.mod_eq_of_lt (by omega)
  have h3 : n * 16 ||| d = n * 16 + d := by
    have := Nat.shiftLeft_add_eq_or_of_lt (b := d) (i := 4) (by omega) n
    rw [Nat.shiftLeft_eq] at this
    exact this.symm
  rw [e1, e2]
  show IntKind.i32.wrap ((BitVec.ofInt 32 ((n * 16 : Nat) : Int) ||| BitVec.ofInt 32 (d : Int)).toNat : Int) = _
  rw [BitVec.toNat_or, h1, h2, h3, IntKind.wrap_i32]
  omega
/-- What a reader's method answers, from some number of rounds on. -/
def Res (s : ByteArray) (e : Int) (R : Rd Nat) (g : Nat → Option (Int × Bool × ByteArray × Int × Int)) : Prop := match R with
  | .error c => ∃ a : Int, Ev g (0, false, s, a, c)
  | .ok (n, l) => Ev g ((n : Int), true, s, ((s.size - l.length : Nat) : Int), e)
theorem hex_step {s : ByteArray} {a : Nat} {c : UInt8} {l : List UInt8} (e : Int) (hs : s.size ≤ 1000000) (h : rest s a = c :: l) (n : Int) {i : Nat} (hi : i < 4) (k : Nat) :
    scan_reader_hex.l0 (k + 2) n i s a e = (match hexV c with | none => some (0, false, s, ((a + 1 : Nat) : Int), 5) | some d => scan_reader_hex.l0 k (Go.bits .or .i32 (wrap32 (n * 16)) (wrap32 (d : Int))) ((i + 1 : Nat) : Int) s ((a + 1 : Nat) : Int) e) := by
  have hix := idx_of c
  have e1 : wrap64 ((i : Int) + 1) = ((i + 1 : Nat) : Int) := by unfold wrap64; omega
  rw [scan_reader_hex.l0, if_pos (by omega), next_cons e hs h]
  simp only [Option.bind_some, if_true]
  by_cases h1 : (c.toNat : Int) ≥ 65
  · rw [if_pos h1, scan_reader_hex.j1]
    by_cases h2 : (c.toNat : Int) ≤ 70
    · rw [if_pos (by omega)] at hix
      rw [decide_eq_true h2, if_pos rfl]
      unfold strings_IndexByte.f
      simp only [Option.bind_some]
      rw [hix, e1]
      cases hexV c with
      | none => rfl
      | some d => simp only; rw [if_neg (by omega)]
    · rw [if_neg (by omega)] at hix
      rw [decide_eq_false h2, if_neg Bool.false_ne_true]
      unfold strings_IndexByte.f
      simp only [Option.bind_some]
      rw [hix, e1]
      cases hexV c with
      | none => rfl
      | some d => simp only; rw [if_neg (by omega)]
  · rw [if_neg h1, scan_reader_hex.j1]
    rw [if_neg (by omega)] at hix
    rw [if_neg Bool.false_ne_true]
    unfold strings_IndexByte.f
    simp only [Option.bind_some]
    rw [hix, e1]
    cases hexV c with
    | none => rfl
    | some d => simp only; rw [if_neg (by omega)]
theorem hex_loop {s : ByteArray} (hs : s.size ≤ 1000000) (e : Int) : ∀ d n a i : Nat, i + d = 4 → n < 16 ^ i → a ≤ s.size → Res s e (hexN d n (rest s a)) (fun k => scan_reader_hex.l0 k n i s a e)
  | 0, n, a, i, hi, hn, ha => by
    obtain rfl : i = 4 := by omega
    refine ⟨1, fun k hk => ?_⟩
    obtain ⟨k, rfl⟩ : ∃ m, k = m + 1 := ⟨k - 1, by omega⟩
    have : s.size - (rest s a).length = a := by rw [rest_len]; omega
    rw [this]
    simp [scan_reader_hex.l0]
  | d + 1, n, a, i, hi, hn, ha => by
    cases hr : rest s a with
    | nil =>
      refine ⟨a, 1, fun k hk => ?_⟩
      obtain ⟨k, rfl⟩ : ∃ m, k = m + 1 := ⟨k - 1, by omega⟩
      simp only
      rw [scan_reader_hex.l0, if_pos (by omega), next_nil e ha hr]
      rfl
    | cons c l =>
      have hstep := hex_step e hs hr (n : Int) (i := i) (by omega)
      obtain ⟨ha2, _, hl, hsz⟩ := rest_cons hr
      simp only [hexN]
      cases hv : hexV c with
      | none =>
        refine ⟨((a + 1 : Nat) : Int), 2, fun k hk => ?_⟩
        obtain ⟨k, rfl⟩ : ∃ m, k = m + 2 := ⟨k - 2, by omega⟩
        simp only
        rw [hstep k, hv]
      | some x =>
        have hx := hexV_lt hv
        have h16 : n < 4096 := by
          have : 16 ^ i ≤ 16 ^ 3 := Nat.pow_le_pow_right (by omega) (by omega)
          omega
        have ih := hex_loop hs e d (n * 16 + x) (a + 1) (i + 1) (by omega) (by rw [Nat.pow_succ]; omega) (by omega)
        rw [hl] at ih
        simp only
        have key : ∀ k, scan_reader_hex.l0 (k + 2) n i s a e = scan_reader_hex.l0 k ((n * 16 + x : Nat) : Int) ((i + 1 : Nat) : Int) s ((a + 1 : Nat) : Int) e := by
          intro k
          rw [hstep k, hv]
          simp only
          rw [or_nat n x h16 hx]
        have lift : ∀ r, Ev (fun k => scan_reader_hex.l0 k ((n * 16 + x : Nat) : Int) ((i + 1 : Nat) : Int) s ((a + 1 : Nat) : Int) e) r → Ev (fun k => scan_reader_hex.l0 k n i s a e) r := by
          rintro r ⟨K, hK⟩
          refine ⟨K + 2, fun k hk => ?_⟩
          obtain ⟨k, rfl⟩ : ∃ m, k = m + 2 := ⟨k - 2, by omega⟩
          simp only
          rw [key]
          exact hK k (by omega)
        cases hq : hexN d (n * 16 + x) l with
        | error c' =>
          rw [hq] at ih
          obtain ⟨a', h'⟩ := ih
          exact ⟨a', lift _ h'⟩
        | ok y =>
          rw [hq] at ih
          exact lift _ ih
theorem hex_res {s : ByteArray} (hs : s.size ≤ 1000000) (e : Int) {a : Nat} (ha : a ≤ s.size) : Res s e (hexN 4 0 (rest s a)) (fun k => scan_reader_hex.f k s a e) := hex_loop hs e 4 0 a 0 rfl (by decide) ha
theorem want_nil {s : ByteArray} {a : Nat} (e c : Int) (ha : a ≤ s.size) (h : rest s a = []) : scan_reader_want.f s a e c = some (false, s, (a : Int), 3) := by
  unfold scan_reader_want.f
  rw [next_nil e ha h]
  rfl
theorem want_is {s : ByteArray} {a : Nat} {c : UInt8} {l : List UInt8} (e x : Int) (hs : s.size ≤ 1000000) (h : rest s a = c :: l) (hx : (c.toNat : Int) = x) : scan_reader_want.f s a e x = some (true, s, ((a + 1 : Nat) : Int), e) := by
  unfold scan_reader_want.f
  rw [next_cons e hs h]
  simp only [Option.bind_some, if_true]
  rw [if_pos hx, hx]
  simp
theorem want_not {s : ByteArray} {a : Nat} {c : UInt8} {l : List UInt8} (e x : Int) (hs : s.size ≤ 1000000) (h : rest s a = c :: l) (hx : ¬ (c.toNat : Int) = x) : scan_reader_want.f s a e x = some (false, s, ((a + 1 : Nat) : Int), 6) := by
  unfold scan_reader_want.f
  rw [next_cons e hs h]
  simp only [Option.bind_some, if_true]
  rw [if_neg hx]
  simp [hx]
theorem nat_ne {c : UInt8} {n : Nat} (h : c ≠ UInt8.ofNat n) (hn : n < 256) : ¬ (c.toNat : Int) = (n : Int) := by
  intro e
  apply h
  have : c.toNat = n := by omega
  rw [← this, UInt8.ofNat_toNat]
theorem hexN4_lt {l t : List UInt8} {n : Nat} (h : hexN 4 0 l = .ok (n, t)) : n < 65536 ∧ ∃ p, l = p ++ t := by
  obtain ⟨p, hp, _, _, _, hlt⟩ := hexN_ok 4 0 l n t h
  exact ⟨by simpa using hlt, p, hp⟩
theorem j1_is {s : ByteArray} {a b e n m : Int} {k : Nat} (h : scan_reader_hex.f k s a e = some (m, true, s, b, e)) : scan_reader_unit.j1 (k + 1) n false s a e = if m < 56320 then some (0, false, s, b, 6) else if m > 57343 then some (0, false, s, b, 6) else some (wrap32 (wrap32 (wrap32 (65536 + wrap32 (wrap32 (n - 55296) * 1024)) + m) - 56320), true, s, b, e) := by
  rw [scan_reader_unit.j1, if_neg Bool.false_ne_true, h, Option.bind_some]
  exact if_pos rfl
theorem j1_bad {s : ByteArray} {a b e n c : Int} {k : Nat} (h : scan_reader_hex.f k s a e = some (0, false, s, b, c)) : scan_reader_unit.j1 (k + 1) n false s a e = some (0, false, s, b, c) := by
  rw [scan_reader_unit.j1, if_neg Bool.false_ne_true, h, Option.bind_some]
  exact if_neg Bool.false_ne_true
theorem unit_is {s : ByteArray} {a b e n : Int} {k : Nat} (h : scan_reader_hex.f k s a e = some (n, true, s, b, e)) : scan_reader_unit.f k s a e = if n < 55296 then scan_reader_unit.j0 k n true true s b e else scan_reader_unit.j0 k n true (decide (n > 57343)) s b e := by
  rw [scan_reader_unit.f, h, Option.bind_some]
  exact if_pos rfl
theorem unit_bad {s : ByteArray} {a b e c : Int} {k : Nat} (h : scan_reader_hex.f k s a e = some (0, false, s, b, c)) : scan_reader_unit.f k s a e = scan_reader_unit.j0 k 0 false true s b c := by
  rw [scan_reader_unit.f, h, Option.bind_some]
  exact if_neg Bool.false_ne_true
/-- The second half. -/
theorem low_res {s : ByteArray} (hs : s.size ≤ 1000000) (e : Int) {n a : Nat} (hn : 55296 ≤ n) (hn2 : n < 56320) (ha : a ≤ s.size) :
    Res s e (lowL n (rest s a)) (fun k => scan_reader_unit.j1 k n false s a e) := by
  have h := hex_res hs e ha
  cases hx : hexN 4 0 (rest s a) with
  | error c =>
    have hval : lowL n (rest s a) = .error c := by unfold lowL; rw [hx]
    rw [hval]
    rw [hx] at h
    obtain ⟨a', K, hK⟩ := h
    (try simp only at hK)
    refine ⟨a', K + 1, fun k hk => ?_⟩
    obtain ⟨k, rfl⟩ : ∃ m, k = m + 1 := ⟨k - 1, by omega⟩
    simp only
    exact j1_bad (hK k (by omega))
  | ok y =>
    obtain ⟨m, l4⟩ := y
    rw [hx] at h
    obtain ⟨K, hK⟩ := h
    (try simp only at hK)
    have hm := (hexN4_lt hx).1
    by_cases hc : m < 56320 ∨ 57343 < m
    · have hval : lowL n (rest s a) = .error 6 := by unfold lowL; rw [hx]; simp only; rw [if_pos hc]
      rw [hval]
      refine ⟨((s.size - l4.length : Nat) : Int), K + 1, fun k hk => ?_⟩
      obtain ⟨k, rfl⟩ : ∃ m, k = m + 1 := ⟨k - 1, by omega⟩
      simp only
      rw [j1_is (hK k (by omega))]
      by_cases h1 : (m : Int) < 56320
      · rw [if_pos h1]
      · rw [if_neg h1, if_pos (by omega)]
    · have hval : lowL n (rest s a) = .ok (65536 + (n - 55296) * 1024 + (m - 56320), l4) := by unfold lowL; rw [hx]; simp only; rw [if_neg hc]
      rw [hval]
      refine ⟨K + 1, fun k hk => ?_⟩
      obtain ⟨k, rfl⟩ : ∃ m, k = m + 1 := ⟨k - 1, by omega⟩
      simp only
      rw [j1_is (hK k (by omega))]
      rw [if_neg (by omega), if_neg (by omega)]
      have : wrap32 (wrap32 (wrap32 (65536 + wrap32 (wrap32 ((n : Int) - 55296) * 1024)) + (m : Int)) - 56320) = ((65536 + (n - 55296) * 1024 + (m - 56320) : Nat) : Int) := by unfold wrap32; omega
      rw [this]
theorem unit_res {s : ByteArray} (hs : s.size ≤ 1000000) (e : Int) {a : Nat} (ha : a ≤ s.size) :
    Res s e (unitL (rest s a)) (fun k => scan_reader_unit.f k s a e) := by
  have h := hex_res hs e ha
  cases hx : hexN 4 0 (rest s a) with
  | error c =>
    have hval : unitL (rest s a) = .error c := by unfold unitL; rw [hx]
    rw [hval]
    rw [hx] at h
    obtain ⟨a', K, hK⟩ := h
    (try simp only at hK)
    refine ⟨a', K + 1, fun k hk => ?_⟩
    obtain ⟨k, rfl⟩ : ∃ m, k = m + 1 := ⟨k - 1, by omega⟩
    simp only
    rw [unit_bad (hK _ (by omega)), scan_reader_unit.j0, if_pos rfl]
  | ok y =>
    obtain ⟨n, l1⟩ := y
    rw [hx] at h
    obtain ⟨K, hK⟩ := h
    (try simp only at hK)
    obtain ⟨hlt, p, hp⟩ := hexN4_lt hx
    obtain ⟨hb1, hb2, hb3⟩ := rest_back hp ha
    have hun : ∀ k, K ≤ k → scan_reader_unit.f k s a e = if (n : Int) < 55296 then scan_reader_unit.j0 k n true true s ((s.size - l1.length : Nat) : Int) e else scan_reader_unit.j0 k n true (decide ((n : Int) > 57343)) s ((s.size - l1.length : Nat) : Int) e := by
      intro k hk
      exact unit_is (hK _ hk)
    by_cases hm : n < 55296 ∨ 57343 < n
    · have hval : unitL (rest s a) = .ok (n, l1) := by unfold unitL; rw [hx]; simp only; rw [if_pos hm]
      rw [hval]
      refine ⟨K + 1, fun k hk => ?_⟩
      obtain ⟨k, rfl⟩ : ∃ m, k = m + 1 := ⟨k - 1, by omega⟩
      simp only
      rw [hun _ (by omega)]
      by_cases h1 : (n : Int) < 55296
      · rw [if_pos h1, scan_reader_unit.j0, if_pos rfl]
      · rw [if_neg h1, decide_eq_true (by omega : (n : Int) > 57343), scan_reader_unit.j0, if_pos rfl]
    · have hval0 : unitL (rest s a) = if 56320 ≤ n then .error 6 else pairL n l1 := by unfold unitL; rw [hx]; simp only; rw [if_neg hm]
      have hj : ∀ k, K ≤ k + 1 → scan_reader_unit.f (k + 1) s a e = scan_reader_unit.j0 (k + 1) n true false s ((s.size - l1.length : Nat) : Int) e := by
        intro k hk
        rw [hun _ hk, if_neg (by omega), decide_eq_false (by omega)]
      by_cases h2 : 56320 ≤ n
      · have hval : unitL (rest s a) = .error 6 := by rw [hval0, if_pos h2]
        rw [hval]
        refine ⟨((s.size - l1.length : Nat) : Int), K + 1, fun k hk => ?_⟩
        obtain ⟨k, rfl⟩ : ∃ m, k = m + 1 := ⟨k - 1, by omega⟩
        simp only
        rw [hj _ (by omega), scan_reader_unit.j0, if_neg Bool.false_ne_true, if_pos (by omega)]
      · have hval : unitL (rest s a) = pairL n l1 := by rw [hval0, if_neg h2]
        rw [hval]
        rw [hb1] at hj
        have hj2 : ∀ k, K ≤ k + 1 → scan_reader_unit.f (k + 1) s a e = (scan_reader_want.f s ((a + p.length : Nat) : Int) e 92).bind fun bt118 => (if bt118.1 = true then ((scan_reader_want.f bt118.2.1 bt118.2.2.1 bt118.2.2.2 117).bind fun bt122 => (scan_reader_unit.j1 k n (!bt122.1) bt122.2.1 bt122.2.2.1 bt122.2.2.2)) else (scan_reader_unit.j1 k n true bt118.2.1 bt118.2.2.1 bt118.2.2.2)) := by
          intro k hk
          rw [hj _ hk, scan_reader_unit.j0, if_neg Bool.false_ne_true, if_neg (by omega)]
        cases h1 : l1 with
        | nil =>
          refine ⟨((a + p.length : Nat) : Int), K + 2, fun k hk => ?_⟩
          obtain ⟨k, rfl⟩ : ∃ m, k = m + 2 := ⟨k - 2, by omega⟩
          simp only
          rw [hj2 _ (by omega), want_nil e 92 hb2 (hb3.trans h1)]
          simp only [Option.bind_some]
          rw [if_neg Bool.false_ne_true, scan_reader_unit.j1, if_pos rfl]
        | cons c l2 =>
          have hr1 := hb3.trans h1
          obtain ⟨q1, _, q3, q4⟩ := rest_cons hr1
          by_cases hc : c ≠ 92
          · rw [show pairL n (c :: l2) = .error 6 by simp only [pairL]; rw [if_pos hc]]
            refine ⟨((a + p.length + 1 : Nat) : Int), K + 2, fun k hk => ?_⟩
            obtain ⟨k, rfl⟩ : ∃ m, k = m + 2 := ⟨k - 2, by omega⟩
            simp only
            rw [hj2 _ (by omega), want_not e 92 hs hr1 (nat_ne (n := 92) hc (by decide))]
            simp only [Option.bind_some]
            rw [if_neg Bool.false_ne_true, scan_reader_unit.j1, if_pos rfl]
          · obtain rfl : c = 92 := by simpa using hc
            have hj3 : ∀ k, K ≤ k + 1 → scan_reader_unit.f (k + 1) s a e = (scan_reader_want.f s ((a + p.length + 1 : Nat) : Int) e 117).bind fun bt122 => (scan_reader_unit.j1 k n (!bt122.1) bt122.2.1 bt122.2.2.1 bt122.2.2.2) := by
              intro k hk
              rw [hj2 _ hk, want_is e 92 hs hr1 rfl]
              rfl
            cases h2 : l2 with
            | nil =>
              rw [show pairL n [92] = .error 3 from rfl]
              refine ⟨((a + p.length + 1 : Nat) : Int), K + 2, fun k hk => ?_⟩
              obtain ⟨k, rfl⟩ : ∃ m, k = m + 2 := ⟨k - 2, by omega⟩
              simp only
              rw [hj3 _ (by omega), want_nil e 117 q1 (q3.trans h2)]
              simp only [Option.bind_some, Bool.not_false]
              rw [scan_reader_unit.j1, if_pos rfl]
            | cons d l3 =>
              have hr2 := q3.trans h2
              obtain ⟨s1, _, s3, s4⟩ := rest_cons hr2
              by_cases hd : d ≠ 117
              · rw [show pairL n (92 :: d :: l3) = .error 6 by simp only [pairL]; rw [if_neg (by decide), if_pos hd]]
                refine ⟨((a + p.length + 1 + 1 : Nat) : Int), K + 2, fun k hk => ?_⟩
                obtain ⟨k, rfl⟩ : ∃ m, k = m + 2 := ⟨k - 2, by omega⟩
                simp only
                rw [hj3 _ (by omega), want_not e 117 hs hr2 (nat_ne (n := 117) hd (by decide))]
                simp only [Option.bind_some, Bool.not_false]
                rw [scan_reader_unit.j1, if_pos rfl]
              · obtain rfl : d = 117 := by simpa using hd
                rw [show pairL n (92 :: 117 :: l3) = lowL n l3 from rfl]
                have hj4 : ∀ k, K ≤ k + 1 → scan_reader_unit.f (k + 1) s a e = scan_reader_unit.j1 k n false s ((a + p.length + 1 + 1 : Nat) : Int) e := by
                  intro k hk
                  rw [hj3 _ hk, want_is e 117 hs hr2 rfl]
                  rfl
                have hlow := low_res hs e (n := n) (a := a + p.length + 1 + 1) (by omega) (by omega) s1
                rw [s3] at hlow
                have lift : ∀ r, Ev (fun k => scan_reader_unit.j1 k n false s ((a + p.length + 1 + 1 : Nat) : Int) e) r → Ev (fun k => scan_reader_unit.f k s a e) r := by
                  rintro r ⟨K', hK'⟩
                  refine ⟨K + K' + 1, fun k hk => ?_⟩
                  obtain ⟨k, rfl⟩ : ∃ m, k = m + 1 := ⟨k - 1, by omega⟩
                  simp only
                  rw [hj4 _ (by omega)]
                  exact hK' k (by omega)
                cases hq : lowL n l3 with
                | error c' =>
                  rw [hq] at hlow
                  obtain ⟨a', h'⟩ := hlow
                  exact ⟨a', lift _ h'⟩
                | ok y =>
                  rw [hq] at hlow
                  exact lift _ hlow
end Go.Proofs.YtfmenojhojmedaaDoorV
/- What scan.Unquote's function tells is what the literal's grammar tells. -/
set_option linter.unusedVariables false
set_option linter.unusedSimpArgs false
namespace Go.Proofs.YtfmenojhojmedaaDoorV
open Go.RowKit Go.Lib Go.Proofs.YtfmenojhojmedaaDoorU Go.Proofs.YtfmenojhojmedaaDoorG Go.Proofs.YtfmenojhojmedaaDoorX Go.Proofs.YtfmenojhojmedaaDoor.PR Go.Proofs.YtfmenojhojmedaaDoorW.PrintWords
theorem esc_is {s : ByteArray} {a b e e' c : Int} {k : Nat} (h : scan_reader_next.f s a e = some (c, true, s, b, e')) : scan_reader_escape.f k s a e = if c = 34 then scan_reader_escape.j0 k c c (c == 34) s b e' else if c = 92 then scan_reader_escape.j0 k c c (c == 92) s b e' else scan_reader_escape.j0 k c c (c == 47) s b e' := by
  rw [scan_reader_escape.f, h, Option.bind_some]
  exact if_pos rfl
theorem esc_bad {s : ByteArray} {a b e e' : Int} {k : Nat} (h : scan_reader_next.f s a e = some (0, false, s, b, e')) : scan_reader_escape.f k s a e = some (0, false, s, b, e') := by
  rw [scan_reader_escape.f, h, Option.bind_some]
  exact if_neg Bool.false_ne_true
theorem esc_u {s : ByteArray} {b e : Int} {k : Nat} : scan_reader_escape.j0 (k + 1) 117 117 false s b e = scan_reader_unit.f k s b e := by
  rw [scan_reader_escape.j0, if_neg Bool.false_ne_true, if_neg (by decide), if_neg (by decide), if_neg (by decide), if_neg (by decide), if_neg (by decide), if_pos rfl]
  cases scan_reader_unit.f k s b e with
  | none => rfl
  | some x => rfl
theorem nx {c : UInt8} {x : Int} (n : Nat) (h : c ≠ UInt8.ofNat n) (hn : n < 256) (hx : (n : Int) = x) : ¬ (c.toNat : Int) = x := by
  rw [← hx]
  exact nat_ne h hn
theorem ny {c : UInt8} {x : Int} (n : Nat) (hn : n < 256) (hx : (n : Int) = x) : (c.toNat : Int) = x ↔ c = UInt8.ofNat n := by
  subst hx
  constructor
  · intro h
    have : c.toNat = n := by omega
    rw [← this, UInt8.ofNat_toNat]
  · rintro rfl
    rw [UInt8.toNat_ofNat']
    have : n % 2 ^ 8 = n := Nat.mod_eq_of_lt hn
    omega
theorem esc_res {s : ByteArray} (hs : s.size ≤ 1000000) (e : Int) {a : Nat} (ha : a ≤ s.size) : Res s e (escL (rest s a)) (fun k => scan_reader_escape.f k s a e) := by
  cases hr : rest s a with
  | nil => exact ⟨a, 0, fun k _ => esc_bad (next_nil e ha hr)⟩
  | cons c l =>
    obtain ⟨ha2, _, hl, hsz⟩ := rest_cons hr
    have hf := fun k => esc_is (k := k) (next_cons e hs hr)
    have one : ∀ q : Nat, escL (c :: l) = .ok (q, l) → (∀ k, scan_reader_escape.f (k + 1) s a e = some ((q : Int), true, s, ((a + 1 : Nat) : Int), e)) → Res s e (escL (c :: l)) (fun k => scan_reader_escape.f k s a e) := by
      intro q hq h
      rw [hq]
      refine ⟨1, fun k hk => ?_⟩
      obtain ⟨k, rfl⟩ : ∃ m, k = m + 1 := ⟨k - 1, by omega⟩
      rw [hsz]
      exact h k
    have hw : wrap32 (c.toNat : Int) = (c.toNat : Int) := by have := c.toNat_lt; unfold wrap32; omega
    by_cases h34 : c = 34
    · refine one c.toNat (by simp only [escL]; rw [if_pos (.inl h34)]) fun k => ?_
      rw [hf, if_pos ((ny (x := 34) 34 (by decide) rfl).2 h34), h34, scan_reader_escape.j0, if_pos (by rfl)]
      rw [h34] at hw
      rw [hw]
    by_cases h92 : c = 92
    · refine one c.toNat (by simp only [escL]; rw [if_pos (.inr (.inl h92))]) fun k => ?_
      rw [hf, if_neg (nx (x := 34) 34 h34 (by decide) rfl), if_pos ((ny (x := 92) 92 (by decide) rfl).2 h92), h92, scan_reader_escape.j0, if_pos (by rfl)]
      rw [h92] at hw
      rw [hw]
    by_cases h47 : c = 47
    · refine one c.toNat (by simp only [escL]; rw [if_pos (.inr (.inr h47))]) fun k => ?_
      rw [hf, if_neg (nx (x := 34) 34 h34 (by decide) rfl), if_neg (nx (x := 92) 92 h92 (by decide) rfl), h47, scan_reader_escape.j0, if_pos (by rfl)]
      rw [h47] at hw
      rw [hw]
    have h47i : ((c.toNat : Int) == 47) = false := by
      have := nx (x := 47) 47 h47 (by decide) rfl
      simpa using this
    have hg : ∀ k, scan_reader_escape.f k s a e = scan_reader_escape.j0 k (c.toNat : Int) (c.toNat : Int) false s ((a + 1 : Nat) : Int) e := fun k => by
      rw [hf, if_neg (nx (x := 34) 34 h34 (by decide) rfl), if_neg (nx (x := 92) 92 h92 (by decide) rfl), h47i]
    have hL : ∀ l', escL (c :: l') = if c = 98 then .ok (8, l') else if c = 102 then .ok (12, l') else if c = 110 then .ok (10, l') else if c = 114 then .ok (13, l') else if c = 116 then .ok (9, l') else if c = 117 then unitL l' else .error 5 := fun l' => by
      simp only [escL]
      rw [if_neg (by simp [h34, h92, h47])]
    by_cases h98 : c = 98
    · subst h98
      exact one 8 rfl fun k => by rw [hg]; rfl
    by_cases h102 : c = 102
    · subst h102
      exact one 12 rfl fun k => by rw [hg]; rfl
    by_cases h110 : c = 110
    · subst h110
      exact one 10 rfl fun k => by rw [hg]; rfl
    by_cases h114 : c = 114
    · subst h114
      exact one 13 rfl fun k => by rw [hg]; rfl
    by_cases h116 : c = 116
    · subst h116
      exact one 9 rfl fun k => by rw [hg]; rfl
    by_cases h117 : c = 117
    · subst h117
      have hu := unit_res hs e (a := a + 1) ha2
      rw [hl] at hu
      rw [show escL (117 :: l) = unitL l from rfl]
      have lift : ∀ r, Ev (fun k => scan_reader_unit.f k s ((a + 1 : Nat) : Int) e) r → Ev (fun k => scan_reader_escape.f k s a e) r := by
        rintro r ⟨K, hK⟩
        refine ⟨K + 1, fun k hk => ?_⟩
        obtain ⟨k, rfl⟩ : ∃ m, k = m + 1 := ⟨k - 1, by omega⟩
        have h := hg (k + 1)
        have e1 : (((117 : UInt8).toNat : Nat) : Int) = 117 := rfl
        rw [e1, esc_u] at h
        exact h.trans (hK k (by omega))
      cases hq : unitL l with
      | error c' =>
        rw [hq] at hu
        obtain ⟨a', h'⟩ := hu
        exact ⟨a', lift _ h'⟩
      | ok y =>
        rw [hq] at hu
        exact lift _ hu
    · rw [show escL (c :: l) = .error 5 by rw [hL, if_neg h98, if_neg h102, if_neg h110, if_neg h114, if_neg h116, if_neg h117]]
      refine ⟨((a + 1 : Nat) : Int), 1, fun k hk => ?_⟩
      obtain ⟨k, rfl⟩ : ∃ m, k = m + 1 := ⟨k - 1, by omega⟩
      (try dsimp only)
      rw [hg, scan_reader_escape.j0, if_neg Bool.false_ne_true, if_neg (nx (x := 98) 98 h98 (by decide) rfl), if_neg (nx (x := 102) 102 h102 (by decide) rfl), if_neg (nx (x := 110) 110 h110 (by decide) rfl), if_neg (nx (x := 114) 114 h114 (by decide) rfl), if_neg (nx (x := 116) 116 h116 (by decide) rfl), if_neg (nx (x := 117) 117 h117 (by decide) rfl)]
theorem go_dec {s : ByteArray} {a : Nat} (ha : a < s.size) : decodeGo (s.extract a s.size) = decodeL (rest s a) := by
  have hsz : (s.extract a s.size).size = s.size - a := by simp
  unfold decodeGo
  rw [if_neg (by omega)]
  have h := decodeL_drop (s.extract a s.size) 0
  rw [← h, List.drop_zero]
  unfold rest
  congr 1
  simp
  exact List.take_of_length_le (by rw [List.length_drop, size_list]; exact Nat.le_refl _)
/-- What Unquote's rounds answer, at what the grammar tells. -/
def UnqAns (s : ByteArray) : Rd (List UInt8) → ByteArray × Int × Int
  | .error c => (⟨#[]⟩, 0, c)
  | .ok (x, t) => (⟨x.toArray⟩, ((s.size - t.length : Nat) : Int), 0)
/-- A step of l0, by the byte. -/
theorem unq_none {s : ByteArray} {a : Nat} {acc : List UInt8} (e : Int) (k : Nat) (h1 : 1 ≤ a) (ha : a ≤ s.size) (hacc : acc.length ≤ 100000000) (h : rest s a = []) : scan_Unquote.l0 (k + 1) s a e acc = some (⟨#[]⟩, 0, 3) := by
  rw [scan_Unquote.l0, next_nil e ha h]
  simp only [Option.bind_some]
  rw [if_pos ⟨trivial, by omega, by omega, hacc, by decide⟩, if_neg Bool.false_ne_true]
  rfl
theorem unq_some {s : ByteArray} {a : Nat} {acc : List UInt8} {c : UInt8} {l : List UInt8} (e : Int) (k : Nat) (hs : s.size ≤ 1000000) (hacc : acc.length ≤ 100000000) (h : rest s a = c :: l) :
    scan_Unquote.l0 (k + 1) s a e acc = (if (c.toNat : Int) = 34 then some (⟨acc.toArray⟩, ((a + 1 : Nat) : Int), 0)
        else if (c.toNat : Int) < 32 then unqBad 5
        else if (c.toNat : Int) = 92 then (scan_reader_escape.f k s ((a + 1 : Nat) : Int) e).bind fun x =>
          if x.2.1 = true then (if x.2.2.1 = s ∧ 0 ≤ x.1 ∧ x.1 ≤ 2147483647 then scan_Unquote.l0 k s x.2.2.2.1 x.2.2.2.2 (acc ++ Lib.encodeRune x.1) else none)
          else unqBad x.2.2.2.2
        else if (Lib.decodeGo (s.extract a s.size)).1 = 65533 ∧ (Lib.decodeGo (s.extract a s.size)).2 < 2 then unqBad 6
        else if 0 ≤ (Lib.decodeGo (s.extract a s.size)).2 ∧ (Lib.decodeGo (s.extract a s.size)).2 ≤ 4 ∧ 0 ≤ (Lib.decodeGo (s.extract a s.size)).1 ∧ (Lib.decodeGo (s.extract a s.size)).1 ≤ 2147483647 then
          scan_Unquote.l0 k s (((a + 1 : Nat) : Int) + ((Lib.decodeGo (s.extract a s.size)).2 - 1)) e (acc ++ Lib.encodeRune (Lib.decodeGo (s.extract a s.size)).1)
        else none) := by
  obtain ⟨ha2, _, hl, hsz⟩ := rest_cons h
  have e1 : ((a + 1 : Nat) : Int).toNat - 1 = a := by omega
  have e2 : (c.toNat : Int) < 256 := by have := c.toNat_lt; omega
  rw [scan_Unquote.l0, next_cons e hs h, Option.bind_some]
  dsimp only
  rw [if_pos ⟨rfl, by omega, by omega, hacc, e2⟩, if_pos rfl, e1]
theorem unq_loop {s : ByteArray} (hs : s.size ≤ 1000000) (e : Int) : ∀ (m a : Nat) (acc : List UInt8), (rest s a).length < m → 1 ≤ a → a ≤ s.size → acc.length ≤ 4 * a → Ev (fun k => scan_Unquote.l0 k s a e acc) (UnqAns s (unqL m (rest s a) acc))
  | 0, a, acc, hm, _, _, _ => by omega
  | m + 1, a, acc, hm, h1, ha, hacc => by
    cases hr : rest s a with
    | nil =>
      rw [show unqL (m + 1) [] acc = .error 3 from rfl]
      refine ⟨1, fun k hk => ?_⟩
      obtain ⟨k, rfl⟩ : ∃ m, k = m + 1 := ⟨k - 1, by omega⟩
      exact unq_none e k h1 ha (by omega) hr
    | cons c l =>
      obtain ⟨ha2, _, hl, hsz⟩ := rest_cons hr
      have hst := fun k => unq_some e k hs (acc := acc) (by omega) hr
      rw [hr, List.length_cons] at hm
      by_cases h34 : c = 34
      · subst h34
        rw [show unqL (m + 1) (34 :: l) acc = .ok (acc, l) from rfl]
        refine ⟨1, fun k hk => ?_⟩
        obtain ⟨k, rfl⟩ : ∃ m, k = m + 1 := ⟨k - 1, by omega⟩
        (try dsimp only)
        rw [hst]
        show _ = some ((⟨acc.toArray⟩ : ByteArray), ((s.size - l.length : Nat) : Int), 0)
        rw [hsz]
        rfl
      have hL : unqL (m + 1) (c :: l) acc = match pieceL (c :: l) with | .error e => .error e | .ok (p, l1) => unqL m l1 (acc ++ p) := by
        simp only [unqL]
        rw [if_neg (by simpa using h34)] <;> rfl
      have hst2 := fun k => (hst k).trans (if_neg (nx (x := 34) 34 h34 (by decide) rfl))
      by_cases h32 : c.toNat < 32
      · rw [show unqL (m + 1) (c :: l) acc = .error 5 by rw [hL]; simp only [pieceL]; rw [if_pos h32]]
        refine ⟨1, fun k hk => ?_⟩
        obtain ⟨k, rfl⟩ : ∃ m, k = m + 1 := ⟨k - 1, by omega⟩
        (try dsimp only)
        rw [hst2, if_pos (by omega)]
        rfl
      have hst3 := fun k => (hst2 k).trans (if_neg (by omega))
      by_cases h92 : c = 92
      · subst h92
        have hp : pieceL (92 :: l) = match escL l with | .error e => .error e | .ok (r, l1) => .ok (enc r, l1) := rfl
        have hesc := esc_res hs e (a := a + 1) ha2
        rw [hl] at hesc
        have hst4 := fun k => (hst3 k).trans (if_pos rfl)
        cases hq : escL l with
        | error c' =>
          rw [show unqL (m + 1) (92 :: l) acc = .error c' by rw [hL, hp, hq]]
          rw [hq] at hesc
          obtain ⟨a', K, hK⟩ := hesc
          refine ⟨K + 1, fun k hk => ?_⟩
          obtain ⟨k, rfl⟩ : ∃ m, k = m + 1 := ⟨k - 1, by omega⟩
          have hk2 := hK k (by omega)
          (try dsimp only at hk2 ⊢)
          rw [hst4, hk2, Option.bind_some]
          rfl
        | ok y =>
          obtain ⟨r, l1⟩ := y
          rw [show unqL (m + 1) (92 :: l) acc = unqL m l1 (acc ++ enc r) by rw [hL, hp, hq]]
          rw [hq] at hesc
          obtain ⟨K, hK⟩ := hesc
          obtain ⟨p, hpl, _, hsc, _⟩ := escL_ok hq
          obtain ⟨b1, b2, b3⟩ := rest_back (hl.trans hpl) ha2
          have hen := (enc_len hsc).2
          have hlen : l.length = p.length + l1.length := by rw [hpl, List.length_append]
          have ih := unq_loop hs e m (a + 1 + p.length) (acc ++ enc r) (by rw [b3]; omega) (by omega) b2 (by rw [List.length_append]; omega)
          rw [b3] at ih
          obtain ⟨K', hK'⟩ := ih
          refine ⟨K + K' + 1, fun k hk => ?_⟩
          obtain ⟨k, rfl⟩ : ∃ m, k = m + 1 := ⟨k - 1, by omega⟩
          have hk2 := hK k (by omega)
          have hk3 := hK' k (by omega)
          (try dsimp only at hk2 hk3 ⊢)
          rw [hst4, hk2, Option.bind_some]
          have hr32 : 0 ≤ (r : Int) ∧ (r : Int) ≤ 2147483647 := by unfold scalar at hsc; omega
          refine (if_pos rfl).trans ((if_pos ⟨rfl, hr32.1, hr32.2⟩).trans ?_)
          rw [b1]
          exact hk3
      · have hst4 := fun k => (hst3 k).trans (if_neg (nx (x := 92) 92 h92 (by decide) rfl))
        have hp : pieceL (c :: l) = match dec (c :: l) with | none => .error 6 | some (p, l1) => .ok (p, l1) := by
          simp only [pieceL]
          rw [if_neg h32, if_neg h92] <;> rfl
        have hgo := go_dec ha2
        rw [hr] at hgo
        rw [hgo] at hst4
        have hw1 := decodeL_width (c :: l)
        cases hd : dec (c :: l) with
        | none =>
          rw [show unqL (m + 1) (c :: l) acc = .error 6 by rw [hL, hp, hd]]
          have hbad : (decodeL (c :: l)).1 = 65533 ∧ (decodeL (c :: l)).2 = 1 := by
            unfold dec at hd
            by_cases hc : c :: l = [] ∨ (decodeL (c :: l)).1 = 65533 ∧ (decodeL (c :: l)).2 = 1
            · rcases hc with hc | hc
              · simp at hc
              · exact hc
            · rw [if_neg hc] at hd; simp at hd
          refine ⟨1, fun k hk => ?_⟩
          obtain ⟨k, rfl⟩ : ∃ m, k = m + 1 := ⟨k - 1, by omega⟩
          (try dsimp only)
          rw [hst4, if_pos ⟨hbad.1, by omega⟩]
          rfl
        | some y =>
          obtain ⟨p, l1⟩ := y
          rw [show unqL (m + 1) (c :: l) acc = unqL m l1 (acc ++ p) by rw [hL, hp, hd]]
          obtain ⟨r, hsc, rfl, hpl⟩ := dec_some hd
          have hdl := decodeL_enc hsc l1
          rw [← hpl] at hdl
          obtain ⟨b1, b2, b3⟩ := rest_back (hr.trans hpl) ha
          have hen := enc_len hsc
          have hlen : l.length + 1 = (enc r).length + l1.length := by rw [← List.length_append, ← hpl, List.length_cons]
          have ih := unq_loop hs e m (a + (enc r).length) (acc ++ enc r) (by rw [b3]; omega) (by omega) b2 (by rw [List.length_append]; omega)
          rw [b3] at ih
          obtain ⟨K', hK'⟩ := ih
          rw [hdl] at hst4
          refine ⟨K' + 1, fun k hk => ?_⟩
          obtain ⟨k, rfl⟩ : ∃ m, k = m + 1 := ⟨k - 1, by omega⟩
          have hk3 := hK' k (by omega)
          (try dsimp only at hk3 ⊢)
          have hnb : ¬ (r = 65533 ∧ (enc r).length < 2) := by
            rintro ⟨rfl, h2⟩
            exact absurd h2 (by decide)
          have hr32 : r ≤ 2147483647 := by unfold scalar at hsc; omega
          have epos : ((a + 1 : Nat) : Int) + (((enc r).length : Int) - 1) = ((a + (enc r).length : Nat) : Int) := by omega
          rw [hst4]
          dsimp only
          rw [if_neg (by exact hnb)]
          rw [if_pos (by refine ⟨?_, ?_, ?_, ?_⟩ <;> omega)]
          rw [epos]
          exact hk3
/-- THE WHOLE. -/
theorem unq_val {s : ByteArray} (hs : s.size ≤ 1000000) : Ev (fun k => scan_Unquote.f k s) (UnqAns s (litL s.data.toList)) := by
  have h0 : s.data.toList = rest s 0 := rfl
  rw [h0]
  cases hr : rest s 0 with
  | nil =>
    refine ⟨0, fun k _ => ?_⟩
    (try dsimp only)
    unfold scan_Unquote.f
    have hn := next_nil 0 (Nat.zero_le _) hr
    rw [if_pos hs]
    rw [show ((0 : Nat) : Int) = 0 from rfl] at hn
    rw [hn, Option.bind_some]
    exact (if_pos rfl).trans (if_neg Bool.false_ne_true)
  | cons c l =>
    obtain ⟨ha2, _, hl, hsz⟩ := rest_cons hr
    have hn := next_cons 0 hs hr
    rw [show ((0 : Nat) : Int) = 0 from rfl] at hn
    by_cases h34 : c = 34
    · subst h34
      rw [show litL (34 :: l) = unqL (l.length + 1) l [] from rfl]
      have h := unq_loop hs 0 (l.length + 1) 1 [] (by rw [hl]; omega) (by omega) ha2 (by simp)
      rw [hl] at h
      obtain ⟨K, hK⟩ := h
      refine ⟨K, fun k hk => ?_⟩
      have hk2 := hK k hk
      (try dsimp only at hk2 ⊢)
      unfold scan_Unquote.f
      rw [if_pos hs, hn, Option.bind_some]
      exact (if_pos rfl).trans ((if_pos rfl).trans ((if_pos rfl).trans hk2))
    · rw [show litL (c :: l) = .error 5 by simp only [litL]; rw [if_neg h34]]
      refine ⟨0, fun k _ => ?_⟩
      (try dsimp only)
      unfold scan_Unquote.f
      rw [if_pos hs, hn, Option.bind_some]
      exact (if_pos rfl).trans ((if_pos rfl).trans (if_neg (nx (x := 34) 34 h34 (by decide) rfl)))
end Go.Proofs.YtfmenojhojmedaaDoorV
/- A literal as a whole; a string's literal is read as the string. -/
set_option linter.unusedVariables false
set_option linter.unusedSimpArgs false
namespace Go.Proofs.YtfmenojhojmedaaDoorV
open Go.RowKit Go.Lib Go.Proofs.YtfmenojhojmedaaDoorU Go.Proofs.YtfmenojhojmedaaDoorG Go.Proofs.YtfmenojhojmedaaDoorX Go.Proofs.YtfmenojhojmedaaDoor.PR
open Go.Proofs.YtfmenojhojmedaaDoorW.PrintWords hiding encs encs_append
theorem litL_ok {l x t : List UInt8} (h : litL l = .ok (x, t)) : ∃ p rs, l = p ++ t ∧ 2 ≤ p.length ∧ (∀ r ∈ rs, scalar r) ∧ x = encs rs ∧ (encs rs).length ≤ 4 * p.length ∧ (∀ t', litL (p ++ t') = .ok (x, t')) ∧ (∀ j, j < p.length → litL (p.take j) = .error 3 ∨ litL (p.take j) = .error 6) := by
  match l, h with
  | [], h => simp [litL] at h
  | c :: l, h =>
    by_cases h34 : c = 34
    · subst h34
      obtain ⟨p, rs, rfl, hp, hrs, rfl, hlen, hall, hcut⟩ := unqL_ok (l.length + 1) l [] x t (by simpa [litL] using h)
      have hpos : 0 < p.length := List.length_pos_iff.2 hp
      refine ⟨34 :: p, rs, rfl, by simp; omega, hrs, by simp, by simp; omega, fun t' => ?_, fun j hj => ?_⟩
      · have := hall ((p ++ t').length + 1) [] t' (by rw [List.length_append]; omega)
        simpa [litL] using this
      · cases j with
        | zero => exact .inl rfl
        | succ j =>
          have := hcut ((p.take j).length + 1) [] j (by simp at hj; omega) (by rw [List.length_take]; simp at hj; omega)
          simpa [litL] using this
    · simp [litL, h34] at h
/-- The faults' numbers. -/
def Num (c : Int) : Prop := c = 3 ∨ c = 5 ∨ c = 6
theorem hexN_err : ∀ (k n : Nat) (l : List UInt8) (c : Int), hexN k n l = .error c → Num c
  | 0, _, _, _, h => by simp [hexN] at h
  | k + 1, n, [], c, h => by
    simp only [hexN, Except.error.injEq] at h
    exact .inl h.symm
  | k + 1, n, b :: l, c, h => by
    simp only [hexN] at h
    cases hv : hexV b with
    | none =>
      rw [hv] at h
      simp only [Except.error.injEq] at h
      exact .inr (.inl h.symm)
    | some d =>
      rw [hv] at h
      exact hexN_err k _ l c h
theorem lowL_err {n : Nat} {l : List UInt8} {c : Int} (h : lowL n l = .error c) : Num c := by
  unfold lowL at h
  cases hx : hexN 4 0 l with
  | error e =>
    rw [hx] at h
    simp only [Except.error.injEq] at h
    exact h ▸ hexN_err _ _ _ _ hx
  | ok y =>
    obtain ⟨m, l4⟩ := y
    rw [hx] at h
    simp only at h
    by_cases hm : m < 56320 ∨ 57343 < m
    · rw [if_pos hm] at h
      simp only [Except.error.injEq] at h
      exact .inr (.inr h.symm)
    · rw [if_neg hm] at h
      simp at h
theorem pairL_err {n : Nat} {l : List UInt8} {c : Int} (h : pairL n l = .error c) : Num c := by
  match l, h with
  | [], h =>
    simp only [pairL, Except.error.injEq] at h
    exact .inl h.symm
  | a :: l2, h =>
    simp only [pairL] at h
    by_cases ha : a ≠ 92
    · rw [if_pos ha] at h
      simp only [Except.error.injEq] at h
      exact .inr (.inr h.symm)
    rw [if_neg ha] at h
    match l2, h with
    | [], h =>
      simp only [Except.error.injEq] at h
      exact .inl h.symm
    | d :: l3, h =>
      simp only at h
      by_cases hd : d ≠ 117
      · rw [if_pos hd] at h
        simp only [Except.error.injEq] at h
        exact .inr (.inr h.symm)
      rw [if_neg hd] at h
      exact lowL_err h
theorem unitL_err {l : List UInt8} {c : Int} (h : unitL l = .error c) : Num c := by
  unfold unitL at h
  cases hx : hexN 4 0 l with
  | error e =>
    rw [hx] at h
    simp only [Except.error.injEq] at h
    exact h ▸ hexN_err _ _ _ _ hx
  | ok y =>
    obtain ⟨n, l1⟩ := y
    rw [hx] at h
    simp only at h
    by_cases hm : n < 55296 ∨ 57343 < n
    · rw [if_pos hm] at h
      simp at h
    rw [if_neg hm] at h
    by_cases h2 : 56320 ≤ n
    · rw [if_pos h2] at h
      simp only [Except.error.injEq] at h
      exact .inr (.inr h.symm)
    rw [if_neg h2] at h
    exact pairL_err h
theorem escL_err {l : List UInt8} {c : Int} (h : escL l = .error c) : Num c := by
  match l, h with
  | [], h =>
    simp only [escL, Except.error.injEq] at h
    exact .inl h.symm
  | a :: l1, h =>
    simp only [escL] at h
    by_cases h1 : a = 34 ∨ a = 92 ∨ a = 47
    · rw [if_pos h1] at h; simp at h
    rw [if_neg h1] at h
    by_cases h2 : a = 98
    · rw [if_pos h2] at h; simp at h
    rw [if_neg h2] at h
    by_cases h3 : a = 102
    · rw [if_pos h3] at h; simp at h
    rw [if_neg h3] at h
    by_cases h4 : a = 110
    · rw [if_pos h4] at h; simp at h
    rw [if_neg h4] at h
    by_cases h5 : a = 114
    · rw [if_pos h5] at h; simp at h
    rw [if_neg h5] at h
    by_cases h6 : a = 116
    · rw [if_pos h6] at h; simp at h
    rw [if_neg h6] at h
    by_cases h7 : a = 117
    · rw [if_pos h7] at h
      exact unitL_err h
    · rw [if_neg h7] at h
      simp only [Except.error.injEq] at h
      exact .inr (.inl h.symm)
theorem pieceL_err {l : List UInt8} {c : Int} (h : pieceL l = .error c) : Num c := by
  match l, h with
  | [], h =>
    simp only [pieceL, Except.error.injEq] at h
    exact .inl h.symm
  | a :: l, h =>
    simp only [pieceL] at h
    by_cases h1 : a.toNat < 32
    · rw [if_pos h1] at h
      simp only [Except.error.injEq] at h
      exact .inr (.inl h.symm)
    rw [if_neg h1] at h
    by_cases h2 : a = 92
    · rw [if_pos h2] at h
      cases hx : escL l with
      | error e =>
        rw [hx] at h
        simp only [Except.error.injEq] at h
        exact h ▸ escL_err hx
      | ok y => rw [hx] at h; simp at h
    · rw [if_neg h2] at h
      cases hx : dec (a :: l) with
      | none =>
        rw [hx] at h
        simp only [Except.error.injEq] at h
        exact .inr (.inr h.symm)
      | some y => rw [hx] at h; simp at h
theorem unqL_err : ∀ (k : Nat) (l acc : List UInt8) (c : Int), l.length < k → unqL k l acc = .error c → Num c
  | 0, l, _, _, hk, _ => by omega
  | k + 1, l, acc, c, hk, h => by
    simp only [unqL] at h
    by_cases h34 : l.head? = some 34
    · rw [if_pos h34] at h; simp at h
    rw [if_neg h34] at h
    cases hx : pieceL l with
    | error e =>
      rw [hx] at h
      simp only [Except.error.injEq] at h
      exact h ▸ pieceL_err hx
    | ok y =>
      obtain ⟨y, l1⟩ := y
      rw [hx] at h
      simp only at h
      obtain ⟨p, r, hl, _, _, _, hp⟩ := pieceL_ok hx
      have hpos : 0 < p.length := List.length_pos_iff.2 hp
      have hlen : l.length = p.length + l1.length := by rw [hl, List.length_append]
      exact unqL_err k l1 _ c (by omega) h
theorem litL_err {l : List UInt8} {c : Int} (h : litL l = .error c) : Num c := by
  match l, h with
  | [], h =>
    simp only [litL, Except.error.injEq] at h
    exact .inl h.symm
  | a :: l, h =>
    simp only [litL] at h
    by_cases h1 : a = 34
    · rw [if_pos h1] at h
      exact unqL_err _ _ _ _ (by omega) h
    · rw [if_neg h1] at h
      simp only [Except.error.injEq] at h
      exact .inr (.inl h.symm)
theorem Num.ne {c : Int} (h : Num c) : ¬ c = 0 := by unfold Num at h; omega
/-! ### the writer -/
def qs (rs : List Nat) : List UInt8 := (rs.map qRune).flatten
theorem qs_cons (r : Nat) (rs : List Nat) : qs (r :: rs) = qRune r ++ qs rs := by simp [qs]
theorem qFrom_is (s : ByteArray) : ∀ (rs : List Nat) (fuel pos : Nat), rest s pos = encs rs → (∀ r ∈ rs, scalar r) → pos ≤ s.size → s.size ≤ pos + fuel → qFrom s fuel pos = qs rs
  | [], fuel, pos, h, _, hp, _ => by
    have : pos = s.size := rest_nil (by rw [h]; rfl) hp
    rw [qFrom_end s fuel pos (by omega)]
    rfl
  | r :: rs, fuel, pos, h, hrs, hp, hf => by
    have hr := hrs r (List.mem_cons_self ..)
    rw [encs_cons] at h
    obtain ⟨b1, b2, b3⟩ := rest_back h hp
    have hen := enc_len hr
    obtain ⟨f, rfl⟩ : ∃ f, fuel = f + 1 := ⟨fuel - 1, by omega⟩
    have hd := decodeL_drop s pos
    have hd2 := decodeL_enc hr (encs rs)
    rw [← h] at hd2
    unfold rest at hd2
    rw [hd] at hd2
    rw [qFrom, if_pos (by omega), hd2, qs_cons]
    simp only
    rw [qFrom_is s rs f (pos + (enc r).length) b3 (fun q hq => hrs q (List.mem_cons_of_mem _ hq)) b2 (by omega)]
theorem qAll_is {s : ByteArray} {rs : List Nat} (h : s.data.toList = encs rs) (hrs : ∀ r ∈ rs, scalar r) : qAll s = 34 :: (qs rs ++ [34]) := by
  unfold qAll
  rw [qFrom_is s rs s.size 0 h hrs (Nat.zero_le _) (by omega)]
  rfl
theorem low_piece : ∀ r : Fin 32, ¬ r.val = 8 → ¬ r.val = 12 → ¬ r.val = 10 → ¬ r.val = 13 → ¬ r.val = 9 → hexV (hexd (r.val / 16)) = some (r.val / 16) ∧ hexV (hexd (r.val % 16)) = some (r.val % 16) ∧ 32 ≤ (hexd (r.val / 16)).toNat ∧ 32 ≤ (hexd (r.val % 16)).toNat := by decide +kernel
theorem enc_first {r : Nat} (h : scalar r) (h32 : 32 ≤ r) (h34 : ¬ r = 34) (h92 : ¬ r = 92) : ∃ (c : UInt8) (q : List UInt8), enc r = c :: q ∧ 32 ≤ c.toNat ∧ c ≠ 34 ∧ c ≠ 92 ∧ ∀ b ∈ q, 32 ≤ b.toNat := by
  have nn : ∀ (c : UInt8) (n : Nat), n < 256 → c.toNat ≠ n → c ≠ UInt8.ofNat n := by
    rintro c n hn h rfl
    apply h
    rw [UInt8.toNat_ofNat']
    exact Nat.mod_eq_of_lt hn
  rcases scalar_cases h with k | ⟨k1, k2⟩ | k | ⟨k1, k2⟩
  · obtain ⟨a, e, ha⟩ := enc_1 k
    exact ⟨a, [], e, by omega, nn a 34 (by decide) (by omega), nn a 92 (by decide) (by omega), by simp⟩
  · obtain ⟨a, b, e, ha, hb⟩ := enc_2 k1 k2
    refine ⟨a, [b], e, by omega, nn a 34 (by decide) (by omega), nn a 92 (by decide) (by omega), ?_⟩
    intro x hx
    simp only [List.mem_cons, List.not_mem_nil, or_false] at hx
    subst hx
    omega
  · obtain ⟨a, b, c, e, ha, hb, hc⟩ := enc_3 k
    refine ⟨a, [b, c], e, by omega, nn a 34 (by decide) (by omega), nn a 92 (by decide) (by omega), ?_⟩
    intro x hx
    simp only [List.mem_cons, List.not_mem_nil, or_false] at hx
    rcases hx with rfl | rfl <;> omega
  · obtain ⟨a, b, c, d, e, ha, hb, hc, hd⟩ := enc_4 k1 k2
    refine ⟨a, [b, c, d], e, by omega, nn a 34 (by decide) (by omega), nn a 92 (by decide) (by omega), ?_⟩
    intro x hx
    simp only [List.mem_cons, List.not_mem_nil, or_false] at hx
    rcases hx with rfl | rfl | rfl <;> omega
theorem piece_q {r : Nat} (hr : scalar r) (t : List UInt8) : pieceL (qRune r ++ t) = .ok (enc r, t) ∧ (qRune r ++ t).head? ≠ some 34 ∧ (∀ b ∈ qRune r, 32 ≤ b.toNat) ∧ qRune r ≠ [] := by
  by_cases h8 : r = 8
  · subst h8; exact ⟨rfl, by simp [qRune], by decide, by decide⟩
  by_cases h12 : r = 12
  · subst h12; exact ⟨rfl, by simp [qRune], by decide, by decide⟩
  by_cases h10 : r = 10
  · subst h10; exact ⟨rfl, by simp [qRune], by decide, by decide⟩
  by_cases h13 : r = 13
  · subst h13; exact ⟨rfl, by simp [qRune], by decide, by decide⟩
  by_cases h9 : r = 9
  · subst h9; exact ⟨rfl, by simp [qRune], by decide, by decide⟩
  by_cases h34 : r = 34
  · subst h34; exact ⟨rfl, by simp [qRune], by decide, by decide⟩
  by_cases h92 : r = 92
  · subst h92; exact ⟨rfl, by simp [qRune], by decide, by decide⟩
  by_cases h32 : r < 32
  · have e : qRune r = [92, 117, 48, 48, hexd (r / 16), hexd (r % 16)] := by
      unfold qRune
      rw [if_neg h8, if_neg h12, if_neg h10, if_neg h13, if_neg h9, if_neg h34, if_neg h92, if_pos h32]
    obtain ⟨k1, k2, k3, k4⟩ := low_piece ⟨r, h32⟩ h8 h12 h10 h13 h9
    simp only at k1 k2 k3 k4
    have hx : hexN 4 0 (48 :: 48 :: hexd (r / 16) :: hexd (r % 16) :: t) = .ok (r, t) := by
      rw [show hexN 4 0 (48 :: 48 :: hexd (r / 16) :: hexd (r % 16) :: t) = hexN 2 0 (hexd (r / 16) :: hexd (r % 16) :: t) from rfl]
      simp only [hexN, k1, k2]
      rw [show (0 * 16 + r / 16) * 16 + r % 16 = r by omega]
    have hu : unitL (48 :: 48 :: hexd (r / 16) :: hexd (r % 16) :: t) = .ok (r, t) := by
      unfold unitL
      rw [hx]
      simp only
      rw [if_pos (.inl (by omega))]
    rw [e]
    refine ⟨?_, by simp, ?_, by simp⟩
    · show pieceL (92 :: 117 :: 48 :: 48 :: hexd (r / 16) :: hexd (r % 16) :: t) = _
      rw [show pieceL (92 :: 117 :: 48 :: 48 :: hexd (r / 16) :: hexd (r % 16) :: t) = (match unitL (48 :: 48 :: hexd (r / 16) :: hexd (r % 16) :: t) with | .error e => .error e | .ok (r, l1) => .ok (enc r, l1)) from rfl, hu]
    · intro b hb
      simp only [List.mem_cons, List.not_mem_nil, or_false] at hb
      rcases hb with rfl | rfl | rfl | rfl | rfl | rfl
      · decide
      · decide
      · decide
      · decide
      · exact k3
      · exact k4
  · have e : qRune r = enc r := by
      unfold qRune
      rw [if_neg h8, if_neg h12, if_neg h10, if_neg h13, if_neg h9, if_neg h34, if_neg h92, if_neg h32]
      rfl
    obtain ⟨c, q, hc, c1, c2, c3, c4⟩ := enc_first hr (by omega) h34 h92
    have hd := dec_enc hr t
    rw [e]
    refine ⟨?_, by rw [hc]; simpa using c2, ?_, enc_ne hr⟩
    · rw [hc, List.cons_append] at hd ⊢
      simp only [pieceL]
      rw [if_neg (by omega), if_neg c3, hd]
    · rw [hc]
      intro b hb
      rcases List.mem_cons.1 hb with rfl | hb
      · exact c1
      · exact c4 b hb
theorem qs_low : ∀ (rs : List Nat), (∀ r ∈ rs, scalar r) → ∀ b ∈ qs rs, 32 ≤ b.toNat
  | [], _, b, hb => by simp [qs] at hb
  | r :: rs, h, b, hb => by
    rw [qs_cons] at hb
    rcases List.mem_append.1 hb with hb | hb
    · exact (piece_q (h r (List.mem_cons_self ..)) []).2.2.1 b hb
    · exact qs_low rs (fun q hq => h q (List.mem_cons_of_mem _ hq)) b hb
theorem unq_qs : ∀ (rs : List Nat) (k : Nat) (acc t : List UInt8), (∀ r ∈ rs, scalar r) → (qs rs).length < k → unqL k (qs rs ++ 34 :: t) acc = .ok (acc ++ encs rs, t)
  | [], k, acc, t, _, hk => by
    obtain ⟨k, rfl⟩ : ∃ m, k = m + 1 := ⟨k - 1, by omega⟩
    simp [qs, unqL, encs]
  | r :: rs, k, acc, t, h, hk => by
    obtain ⟨h1, h2, _, h4⟩ := piece_q (h r (List.mem_cons_self ..)) (qs rs ++ 34 :: t)
    rw [qs_cons, List.length_append] at hk
    have hpos : 0 < (qRune r).length := List.length_pos_iff.2 h4
    obtain ⟨k, rfl⟩ : ∃ m, k = m + 1 := ⟨k - 1, by omega⟩
    rw [qs_cons, List.append_assoc]
    simp only [unqL]
    rw [if_neg h2, h1]
    simp only
    rw [unq_qs rs k (acc ++ enc r) t (fun q hq => h q (List.mem_cons_of_mem _ hq)) (by omega), encs_cons, List.append_assoc]
theorem lit_q (rs : List Nat) (h : ∀ r ∈ rs, scalar r) (t : List UInt8) : litL ((34 :: (qs rs ++ [34])) ++ t) = .ok (encs rs, t) := by
  rw [show (34 :: (qs rs ++ [34])) ++ t = 34 :: (qs rs ++ 34 :: t) by simp]
  simp only [litL, if_true]
  have := unq_qs rs ((qs rs ++ 34 :: t).length + 1) [] t h (by rw [List.length_append]; omega)
  simpa using this
end Go.Proofs.YtfmenojhojmedaaDoorV
