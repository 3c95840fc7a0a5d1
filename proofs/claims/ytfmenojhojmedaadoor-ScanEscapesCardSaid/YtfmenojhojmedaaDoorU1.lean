/- Plain lemmas of this session's own: code points and their bytes: what is decoded, encoded, valid. -/
import Derived.Lib.MapLaws
import Derived.Lib.ValidLaws
import Derived.Lib.RuneBytes
set_option linter.unusedVariables false
set_option linter.unusedSimpArgs false
namespace Go.Proofs.YtfmenojhojmedaaDoorU
open Go.Lib
def scalar (r : Nat) : Prop := r < 55296 ∨ (57344 ≤ r ∧ r ≤ 1114111)
instance (r : Nat) : Decidable (scalar r) := by unfold scalar; infer_instance
def enc (r : Nat) : List UInt8 := encodeRune (r : Int)
theorem byte_of {x : Int} (h0 : 0 ≤ x) (h1 : x < 256) : (x.toNat.toUInt8).toNat = x.toNat := by simp; omega
theorem enc_1 {r : Nat} (h : r ≤ 127) : ∃ a : UInt8, enc r = [a] ∧ a.toNat = r := by
  unfold enc encodeRune
  rw [encodeRuneZ_one (by omega) (by omega)]
  exact ⟨_, rfl, by rw [byte_of (by omega) (by omega)]; omega⟩
theorem enc_2 {r : Nat} (h0 : 128 ≤ r) (h : r ≤ 2047) : ∃ a b : UInt8, enc r = [a, b] ∧ a.toNat = 192 + r / 64 ∧ b.toNat = 128 + r % 64 := by
  unfold enc encodeRune
  rw [encodeRuneZ_two (by omega) (by omega)]
  exact ⟨_, _, rfl, by rw [byte_of (by omega) (by omega)]; omega, by rw [byte_of (by omega) (by omega)]; omega⟩
theorem enc_3 {r : Nat} (h : (2048 ≤ r ∧ r < 55296) ∨ (57343 < r ∧ r ≤ 65535)) : ∃ a b c : UInt8, enc r = [a, b, c] ∧ a.toNat = 224 + r / 4096 ∧ b.toNat = 128 + r / 64 % 64 ∧ c.toNat = 128 + r % 64 := by
  unfold enc encodeRune
  rw [encodeRuneZ_three (by omega)]
  exact ⟨_, _, _, rfl, by rw [byte_of (by omega) (by omega)]; omega, by rw [byte_of (by omega) (by omega)]; omega, by rw [byte_of (by omega) (by omega)]; omega⟩
theorem enc_4 {r : Nat} (h0 : 65536 ≤ r) (h : r ≤ 1114111) : ∃ a b c d : UInt8, enc r = [a, b, c, d] ∧ a.toNat = 240 + r / 262144 ∧ b.toNat = 128 + r / 4096 % 64 ∧ c.toNat = 128 + r / 64 % 64 ∧ d.toNat = 128 + r % 64 := by
  unfold enc encodeRune
  rw [encodeRuneZ_four (by omega) (by omega)]
  exact ⟨_, _, _, _, rfl, by rw [byte_of (by omega) (by omega)]; omega, by rw [byte_of (by omega) (by omega)]; omega, by rw [byte_of (by omega) (by omega)]; omega, by rw [byte_of (by omega) (by omega)]; omega⟩
theorem scalar_cases {r : Nat} (h : scalar r) : r ≤ 127 ∨ (128 ≤ r ∧ r ≤ 2047) ∨ ((2048 ≤ r ∧ r < 55296) ∨ (57343 < r ∧ r ≤ 65535)) ∨ (65536 ≤ r ∧ r ≤ 1114111) := by unfold scalar at h; omega
theorem decodeL_enc {r : Nat} (h : scalar r) (t : List UInt8) : decodeL (enc r ++ t) = (r, (enc r).length) := by
  rw [decodeL_N]
  rcases scalar_cases h with h | ⟨h0, h1⟩ | h | ⟨h0, h1⟩
  · obtain ⟨a, e, ha⟩ := enc_1 h
    rw [e]
    simp only [List.singleton_append, List.length_cons, List.getD_cons_zero, List.length_nil, ha]
    unfold decodeN
    rw [if_pos (by omega)]
  · obtain ⟨a, b, e, ha, hb⟩ := enc_2 h0 h1
    rw [e]
    simp only [List.cons_append, List.nil_append, List.length_cons, List.getD_cons_zero, List.getD_cons_succ, List.length_nil, ha, hb]
    unfold decodeN
    rw [if_neg (by omega), if_pos (by omega), if_pos (by omega)]
    have m1 : (192 + r / 64) % 32 = r / 64 := by omega
    have m2 : (128 + r % 64) % 64 = r % 64 := by omega
    rw [m1, m2, show r / 64 * 64 + r % 64 = r by omega]
  · obtain ⟨a, b, c, e, ha, hb, hc⟩ := enc_3 h
    rw [e]
    simp only [List.cons_append, List.nil_append, List.length_cons, List.getD_cons_zero, List.getD_cons_succ, List.length_nil, ha, hb, hc]
    unfold decodeN
    rw [if_neg (by omega), if_neg (by omega), if_pos (by omega), if_pos (by omega)]
    have m1 : (224 + r / 4096) % 16 = r / 4096 := by omega
    have m2 : (128 + r / 64 % 64) % 64 = r / 64 % 64 := by omega
    have m3 : (128 + r % 64) % 64 = r % 64 := by omega
    rw [m1, m2, m3, show r / 4096 * 4096 + r / 64 % 64 * 64 + r % 64 = r by omega]
  · obtain ⟨a, b, c, d, e, ha, hb, hc, hd⟩ := enc_4 h0 h1
    rw [e]
    simp only [List.cons_append, List.nil_append, List.length_cons, List.getD_cons_zero, List.getD_cons_succ, List.length_nil, ha, hb, hc, hd]
    unfold decodeN
    rw [if_neg (by omega), if_neg (by omega), if_neg (by omega), if_pos (by omega), if_pos (by omega)]
    have m1 : (240 + r / 262144) % 8 = r / 262144 := by omega
    have m2 : (128 + r / 4096 % 64) % 64 = r / 4096 % 64 := by omega
    have m3 : (128 + r / 64 % 64) % 64 = r / 64 % 64 := by omega
    have m4 : (128 + r % 64) % 64 = r % 64 := by omega
    rw [m1, m2, m3, m4, show r / 262144 * 262144 + r / 4096 % 64 * 4096 + r / 64 % 64 * 64 + r % 64 = r by omega]
theorem enc_len {r : Nat} (h : scalar r) : 1 ≤ (enc r).length ∧ (enc r).length ≤ 4 := by
  have := encodeRuneZ_length (r : Int)
  unfold enc encodeRune
  rw [List.length_map]
  exact this
theorem enc_ne {r : Nat} (h : scalar r) : enc r ≠ [] := by
  have := (enc_len h).1
  intro e
  rw [e] at this
  simp at this
/-- The first code point's bytes, and the rest. -/
def dec (l : List UInt8) : Option (List UInt8 × List UInt8) := if l = [] ∨ (decodeL l).1 = 65533 ∧ (decodeL l).2 = 1 then none else some (l.take (decodeL l).2, l.drop (decodeL l).2)
theorem dec_enc {r : Nat} (h : scalar r) (t : List UInt8) : dec (enc r ++ t) = some (enc r, t) := by
  unfold dec
  rw [decodeL_enc h t]
  have hne : ¬ (enc r ++ t = [] ∨ r = 65533 ∧ (enc r).length = 1) := by
    rintro (h1 | ⟨h1, h2⟩)
    · exact enc_ne h (List.append_eq_nil_iff.1 h1).1
    · subst h1
      exact absurd h2 (by decide)
  rw [if_neg hne]
  simp
theorem decodeL_scalar {l : List UInt8} (hne : l ≠ []) (h : ¬ ((decodeL l).1 = 65533 ∧ (decodeL l).2 = 1)) : scalar (decodeL l).1 := by
  rw [decodeL_N] at h ⊢
  have k0 := (l.getD 0 0).toNat_lt
  have k1 := (l.getD 1 0).toNat_lt
  have k2 := (l.getD 2 0).toNat_lt
  have k3 := (l.getD 3 0).toNat_lt
  unfold scalar
  rcases decodeN_shape l.length (l.getD 0 0).toNat (l.getD 1 0).toNat (l.getD 2 0).toNat (l.getD 3 0).toNat with ⟨c, e⟩ | ⟨c1, c2, c3, cv, e⟩ | ⟨c1, c2, c3, c4, cv, cs, e⟩ | ⟨c1, c2, c3, c4, c5, cv, cw, e⟩ | e
  all_goals rw [e] at h ⊢
  all_goals simp only at h ⊢
  all_goals omega
theorem dec_some {l p t : List UInt8} (h : dec l = some (p, t)) : ∃ r, scalar r ∧ p = enc r ∧ l = p ++ t := by
  unfold dec at h
  by_cases hc : l = [] ∨ (decodeL l).1 = 65533 ∧ (decodeL l).2 = 1
  · rw [if_pos hc] at h; simp at h
  rw [if_neg hc] at h
  simp only [Option.some.injEq, Prod.mk.injEq] at h
  obtain ⟨rfl, rfl⟩ := h
  have hne : l ≠ [] := fun e => hc (.inl e)
  have hv : ¬ ((decodeL l).1 = 65533 ∧ (decodeL l).2 = 1) := fun e => hc (.inr e)
  exact ⟨(decodeL l).1, decodeL_scalar hne hv, (encode_decode l hne hv).symm, (List.take_append_drop _ _).symm⟩
theorem dec_local {l p t t' : List UInt8} (h : dec l = some (p, t)) : dec (p ++ t') = some (p, t') := by
  obtain ⟨r, hr, rfl, _⟩ := dec_some h
  exact dec_enc hr t'
theorem dec_nil : dec [] = none := by simp [dec]
/-- A code point's bytes, cut: none. -/
theorem dec_cut {r : Nat} (hr : scalar r) {j : Nat} (hj : j < (enc r).length) : dec ((enc r).take j) = none := by
  by_cases h0 : j = 0
  · subst h0
    simp [dec_nil]
  unfold dec
  rw [if_pos]
  right
  rw [decodeL_N]
  have hl : ((enc r).take j).length = j := by rw [List.length_take]; omega
  have hg : ((enc r).take j).getD 0 0 = (enc r).getD 0 0 := by
    simp only [List.getD, List.getElem?_take]
    rw [if_pos (by omega)]
  rw [hl, hg]
  generalize ((List.take j (enc r)).getD 1 0).toNat = b1
  generalize ((List.take j (enc r)).getD 2 0).toNat = b2
  generalize ((List.take j (enc r)).getD 3 0).toNat = b3
  rcases scalar_cases hr with h | ⟨h1, h2⟩ | h | ⟨h1, h2⟩
  · obtain ⟨a, e, ha⟩ := enc_1 h
    rw [e] at hj
    simp at hj
    omega
  · obtain ⟨a, b, e, ha, hb⟩ := enc_2 h1 h2
    rw [e] at hj ⊢
    simp only [List.length_cons, List.length_nil, List.getD_cons_zero] at hj ⊢
    unfold decodeN
    rw [if_neg (by omega), if_neg (by omega), if_neg (by omega), if_neg (by omega)]
    exact ⟨rfl, rfl⟩
  · obtain ⟨a, b, c, e, ha, hb, hc⟩ := enc_3 h
    rw [e] at hj ⊢
    simp only [List.length_cons, List.length_nil, List.getD_cons_zero] at hj ⊢
    unfold decodeN
    rw [if_neg (by omega), if_neg (by omega), if_neg (by omega), if_neg (by omega)]
    exact ⟨rfl, rfl⟩
  · obtain ⟨a, b, c, d, e, ha, hb, hc, hd⟩ := enc_4 h1 h2
    rw [e] at hj ⊢
    simp only [List.length_cons, List.length_nil, List.getD_cons_zero] at hj ⊢
    unfold decodeN
    rw [if_neg (by omega), if_neg (by omega), if_neg (by omega), if_neg (by omega)]
    exact ⟨rfl, rfl⟩
theorem validD_enc {r : Nat} (hr : scalar r) (t : List UInt8) : validD (enc r ++ t) = validD t := by
  have hne : enc r ++ t ≠ [] := fun e => enc_ne hr (List.append_eq_nil_iff.1 e).1
  rw [validD_step _ hne, decodeL_enc hr t]
  simp only
  rw [if_neg, List.drop_left]
  rintro ⟨h1, h2⟩
  subst h1
  exact absurd h2 (by decide)
theorem validD_none {l : List UInt8} (hne : l ≠ []) (h : dec l = none) : validD l = false := by
  unfold dec at h
  rw [validD_step _ hne]
  by_cases hc : (decodeL l).1 = 65533 ∧ (decodeL l).2 = 1
  · rw [if_pos hc]
  · rw [if_neg] at h
    · simp at h
    · rintro (h1 | h1)
      · exact hne h1
      · exact hc h1
/-- Code points' bytes. -/
def encs (rs : List Nat) : List UInt8 := (rs.map enc).flatten
theorem encs_cons (r : Nat) (rs : List Nat) : encs (r :: rs) = enc r ++ encs rs := by simp [encs]
theorem encs_append (a b : List Nat) : encs (a ++ b) = encs a ++ encs b := by simp [encs]
theorem validD_encs : ∀ (rs : List Nat), (∀ r ∈ rs, scalar r) → validD (encs rs) = true
  | [], _ => by simp [encs, validD_nil]
  | r :: rs, h => by rw [encs_cons, validD_enc (h r (by simp))]; exact validD_encs rs fun x hx => h x (by simp [hx])
theorem validD_iff : ∀ (n : Nat) (l : List UInt8), l.length ≤ n → validD l = true → ∃ rs : List Nat, (∀ r ∈ rs, scalar r) ∧ l = encs rs := by
  intro n
  induction n with
  | zero =>
    intro l hl _
    obtain rfl : l = [] := List.length_eq_zero_iff.1 (by omega)
    exact ⟨[], by simp, rfl⟩
  | succ n ih =>
    intro l hl hv
    by_cases hne : l = []
    · subst hne
      exact ⟨[], by simp, rfl⟩
    cases hd : dec l with
    | none => rw [validD_none hne hd] at hv; cases hv
    | some x =>
      obtain ⟨p, t⟩ := x
      obtain ⟨r, hr, rfl, rfl⟩ := dec_some hd
      rw [validD_enc hr] at hv
      have := (enc_len hr).1
      rw [List.length_append] at hl
      obtain ⟨rs, h1, h2⟩ := ih t (by omega) hv
      exact ⟨r :: rs, by intro x hx; rcases List.mem_cons.1 hx with rfl | h; exact hr; exact h1 x h, by rw [encs_cons, h2]⟩
theorem validD_app {a b : List UInt8} (ha : validD a = true) (hb : validD b = true) : validD (a ++ b) = true := by
  obtain ⟨x, hx, rfl⟩ := validD_iff _ a (Nat.le_refl _) ha
  obtain ⟨y, hy, rfl⟩ := validD_iff _ b (Nat.le_refl _) hb
  rw [← encs_append]
  exact validD_encs _ fun r hr => by
    rcases List.mem_append.1 hr with h | h
    · exact hx r h
    · exact hy r h
theorem enc_inj {r q : Nat} (hr : scalar r) (hq : scalar q) (h : enc r = enc q) : r = q := by
  have h1 := decodeL_enc hr []
  have h2 := decodeL_enc hq []
  rw [h] at h1
  rw [h1] at h2
  exact (Prod.mk.inj h2).1
end Go.Proofs.YtfmenojhojmedaaDoorU
