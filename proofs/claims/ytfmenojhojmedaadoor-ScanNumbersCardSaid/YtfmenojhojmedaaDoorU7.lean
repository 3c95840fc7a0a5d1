/- Plain lemmas of this session's own: a number's digits, read. -/
import Derived.Test.YtfmenojhojmedaaDoorC8
import Derived.Test.YtfmenojhojmedaaDoorG0
import Derived.Lib.ItoaMem
import Derived.Lib.ItoaLen
set_option linter.unusedVariables false
set_option linter.unusedSimpArgs false
namespace Go.Proofs.YtfmenojhojmedaaDoorV
open Go.RowKit Go.Lib Go.Proofs.YtfmenojhojmedaaDoorG Go.Proofs.YtfmenojhojmedaaDoorX
/-- Nothing that begins with a digit. -/
def NoDigit (l : List UInt8) : Prop := ∀ c t, l = c :: t → c.toNat < 48 ∨ 57 < c.toNat
theorem rd_done {l : List UInt8} (h : NoDigit l) (v : Int) (b : Bool) (i : Nat) : rdLoop l v b i = (v, b, i) := by
  cases l with
  | nil => rfl
  | cons c t => rw [rdLoop, if_pos (h c t rfl)]
theorem dig_nat (u : Nat) (h : u < 10) : (UInt8.ofNat (48 + u)).toNat = 48 + u := by
  rw [UInt8.toNat_ofNat']
  exact Nat.mod_eq_of_lt (by omega)
theorem rd_digits : ∀ (u : Nat), u ≤ 9007199254740991 → ∀ (l : List UInt8) (i : Nat), rdLoop (decDigits u ++ l) 0 false i = rdLoop l (u : Int) false (i + nDigits u) := by
  intro u
  induction u using Nat.strongRecOn with
  | ind u ih =>
    intro hu l i
    by_cases h : u < 10
    · rw [decDigits_one h, nDigits_small h, List.singleton_append, rdLoop, dig_nat u h, if_neg (by omega), if_neg (by simp; omega)]
      congr 1
      omega
    · rw [decDigits, dif_neg h, nDigits_big h, List.append_assoc, ih (u / 10) (by omega) (by omega), List.singleton_append, rdLoop, dig_nat (u % 10) (by omega), if_neg (by omega), if_neg (by simp; omega)]
      congr 1
      omega
theorem head_digits : ∀ (u : Nat), ∃ (c : UInt8) (t : List UInt8), decDigits u = c :: t ∧ 48 ≤ c.toNat ∧ c.toNat ≤ 57 ∧ (c = 48 → u = 0) := by
  intro u
  induction u using Nat.strongRecOn with
  | ind u ih =>
    by_cases h : u < 10
    · refine ⟨UInt8.ofNat (48 + u), [], decDigits_one h, by rw [dig_nat u h]; omega, by rw [dig_nat u h]; omega, fun e => ?_⟩
      have := dig_nat u h
      rw [e] at this
      have h48 : (48 : UInt8).toNat = 48 := rfl
      omega
    · obtain ⟨c, t, e, h1, h2, h3⟩ := ih (u / 10) (by omega)
      refine ⟨c, t ++ [UInt8.ofNat (48 + u % 10)], by rw [decDigits, dif_neg h, e]; rfl, h1, h2, fun hc => ?_⟩
      have := h3 hc
      omega
theorem readR_digits {u : Nat} (hu : u ≤ 9007199254740991) {l : List UInt8} (hl : NoDigit l) (less : Bool) (h0 : less = true → 1 ≤ u) :
    readR (decDigits u ++ l) less = if less = true then (-(u : Int), (nDigits u : Int) + 1, 0) else ((u : Int), (nDigits u : Int), 0) := by
  have hr : rdLoop (decDigits u ++ l) 0 false 0 = ((u : Int), false, nDigits u) := by
    rw [rd_digits u hu l 0, rd_done hl, Nat.zero_add]
  obtain ⟨c, t, e, h1, h2, h3⟩ := head_digits u
  have hpos := nDigits_pos u
  have hh : (decDigits u ++ l).head? = some c := by rw [e]; rfl
  unfold readR
  rw [hr, hh]
  simp only [Option.some.injEq]
  rw [if_neg, if_neg Bool.false_ne_true]
  rintro (h | ⟨hc, h⟩)
  · omega
  · have hz := h3 hc
    subst hz
    rw [nDigits_small (by decide)] at h
    rcases h with h | h
    · omega
    · have := h0 h
      omega
theorem app_list (a b : ByteArray) : (a ++ b).data.toList = a.data.toList ++ b.data.toList := by simp
theorem itoaS_list (n : Int) : (itoaS n).data.toList = itoa n := by simp [itoaS]
theorem itoaS_size (n : Int) : (itoaS n).size = (itoa n).length := by rw [← size_list, itoaS_list]
theorem prefix_minus (t : List UInt8) : trimPrefix (45 :: t) [45] = t := by
  unfold trimPrefix
  have : hasPrefix (45 :: t) [45] = true := by unfold hasPrefix; simp [List.isPrefixOf]
  rw [if_pos this]
  rfl
theorem prefix_none {c : UInt8} {t : List UInt8} (h : c ≠ 45) : trimPrefix (c :: t) [45] = c :: t := by
  unfold trimPrefix
  have : hasPrefix (c :: t) [45] = false := by
    unfold hasPrefix
    have h2 : ((45 : UInt8) == c) = false := beq_eq_false_iff_ne.2 (Ne.symm h)
    simp [List.isPrefixOf, h2]
  rw [this]
  rfl
/-- A number is read from its digits, whatever follows except a digit. -/
theorem readS_num {n : Int} (h0 : -9007199254740991 ≤ n) (h1 : n ≤ 9007199254740991) {b : ByteArray} (hb : NoDigit b.data.toList) : readS (itoaS n ++ b) = (n, ((itoaS n).size : Int), 0) := by
  have hlist : (itoaS n ++ b).data.toList = itoa n ++ b.data.toList := by rw [app_list, itoaS_list]
  have hsize : (itoaS n ++ b).size = (itoa n).length + b.data.toList.length := by rw [← size_list, hlist, List.length_append]
  obtain ⟨u, hu⟩ : ∃ u : Nat, n = (u : Int) ∨ (n = -(u : Int) ∧ 1 ≤ u) := by
    by_cases h : 0 ≤ n
    · exact ⟨n.toNat, .inl (by omega)⟩
    · exact ⟨(-n).toNat, .inr ⟨by omega, by omega⟩⟩
  have hlen := decDigits_length u
  obtain ⟨c, t, e, c1, c2, c3⟩ := head_digits u
  rcases hu with rfl | ⟨rfl, hu1⟩
  · rw [itoa_nonneg] at hlist hsize
    have hbh : behind (itoaS (u : Int) ++ b) = decDigits u ++ b.data.toList := by
      unfold behind
      rw [hlist, e, List.cons_append]
      exact prefix_none (by rintro rfl; exact absurd c1 (by decide))
    unfold readS
    rw [hbh, if_neg (by rw [e]; simp), readR_digits (by omega) hb _ (by rw [hsize, List.length_append]; simp), itoaS_size, itoa_nonneg, hlen]
    rw [hsize, List.length_append]
    simp
  · rw [itoa_neg u hu1] at hlist hsize
    have hbh : behind (itoaS (-(u : Int)) ++ b) = decDigits u ++ b.data.toList := by
      unfold behind
      rw [hlist, List.cons_append]
      exact prefix_minus _
    unfold readS
    rw [hbh, if_neg (by rw [e]; simp), readR_digits (by omega) hb _ (fun _ => hu1), itoaS_size, itoa_neg u hu1, List.length_cons, hlen]
    rw [hsize, List.length_append, List.length_cons]
    have : decide ((decDigits u).length + b.data.toList.length < (decDigits u).length + 1 + b.data.toList.length) = true := decide_eq_true (by omega)
    rw [this, if_pos rfl]
    rfl
end Go.Proofs.YtfmenojhojmedaaDoorV
