/- Plain lemmas of this session's own: loops over a string's bytes, as the printed functions have them. -/
import Derived.Test.YtfgibjkgiolonaaWm
import Derived.Lib.IndexLaws
import Derived.Lib.IndexBytes
import Derived.Lib.Split
set_option linter.unusedVariables false
set_option linter.unusedSimpArgs false
namespace Go.Proofs.YtfgibjkgiolonaaX
open Go.RowKit Go.Proofs.YtfgibjkgiolonaaW.PrintWords
theorem wrap_succ {i n : Nat} (h : i < n) (hn : n ≤ 140737488351232) : wrap64 ((i : Int) + 1) = ((i + 1 : Nat) : Int) := by unfold wrap64; omega
theorem bt_nat {s : ByteArray} {i : Nat} (h : i < s.size) : bt s (i : Int) = (s[i].toNat : Int) := (bt_at s (i : Int) h).symm
theorem bt_list {s : ByteArray} {i : Nat} (h : i < s.size) : s.data.toList[i]? = some s[i] := by
 have hd : i < s.data.size := h
 rw [Array.getElem?_toList, Array.getElem?_eq_getElem hd]
 rfl
def allSeg (P : Int → Bool) (s : ByteArray) (i m : Nat) : Bool := ((s.data.toList.take m).drop i).all fun b => P b.toNat
theorem allSeg_end (P : Int → Bool) (s : ByteArray) (m : Nat) : allSeg P s m m = true := by
 unfold allSeg
 rw [List.drop_eq_nil_of_le (by rw [List.length_take]; omega)]
 rfl
theorem allSeg_step (P : Int → Bool) (s : ByteArray) {i m : Nat} (h : i < m) (hm : m ≤ s.size) : allSeg P s i m = (P (bt s i) && allSeg P s (i + 1) m) := by
 unfold allSeg
 have hl : (s.data.toList.take m).length = m := by rw [List.length_take, Array.length_toList]; exact Nat.min_eq_left hm
 rw [List.drop_eq_getElem_cons (by rw [hl]; exact h), List.all_cons, bt_nat (by omega : i < s.size)]
 congr 2
 rw [List.getElem_take]
 have := bt_list (s := s) (i := i) (by omega)
 rw [List.getElem?_eq_getElem (by rw [Array.length_toList]; exact Nat.lt_of_lt_of_le h hm)] at this
 rw [Option.some.inj this]
theorem allSeg_zero (P : Int → Bool) (s : ByteArray) : allSeg P s 0 s.size = s.data.toList.all fun b => P b.toNat := by
 unfold allSeg
 rw [List.take_of_length_le (by rw [Array.length_toList]; exact Nat.le_refl _), List.drop_zero]
theorem allSeg_congr {P Q : Int → Bool} (h : ∀ n, n < 256 → P ((n : Nat) : Int) = Q ((n : Nat) : Int)) (s : ByteArray) (i m : Nat) : allSeg P s i m = allSeg Q s i m := by
 unfold allSeg
 congr 1
 funext b
 exact h b.toNat b.toNat_lt
theorem scan {g : Nat → Int → Option Bool} {P : Int → Bool} {s : ByteArray} {m : Nat} {fin : Bool} (hm : m ≤ s.size)
  (hend : Ev (fun k => g k (m : Int)) fin)
  (hyes : ∀ i : Nat, i < m → P (bt s i) = true → ∀ r, Ev (fun k => g k ((i + 1 : Nat) : Int)) r → Ev (fun k => g k (i : Int)) r)
  (hno : ∀ i : Nat, i < m → P (bt s i) = false → Ev (fun k => g k (i : Int)) false) : ∀ d i : Nat, m - i = d → i ≤ m → Ev (fun k => g k (i : Int)) (allSeg P s i m && fin) := by
 intro d
 induction d with
 | zero =>
  intro i hd hi
  obtain rfl : i = m := by omega
  rw [allSeg_end, Bool.true_and]
  exact hend
 | succ d ih =>
  intro i hd hi
  have hlt : i < m := by omega
  rw [allSeg_step P s hlt hm]
  cases hp : P (bt s i) with
  | true =>
   rw [Bool.true_and]
   exact hyes i hlt hp _ (ih (i + 1) (by omega) (by omega))
  | false =>
   rw [Bool.false_and, Bool.false_and]
   exact hno i hlt hp
theorem indexByte_is {l : List UInt8} {c : UInt8} {i : Nat} (h : l[i]? = some c) (h' : ∀ j, j < i → l[j]? ≠ some c) : Lib.indexByte l c = i := by
 have hg := Lib.indexByte_ge l c
 by_cases h0 : 0 ≤ Lib.indexByte l c
 ·obtain ⟨o, ho⟩ := Int.eq_ofNat_of_zero_le h0
  obtain ⟨h1, h2⟩ := Lib.indexByte_some ho
  rw [ho]
  rcases Nat.lt_trichotomy o i with hl | rfl | hl
  ·exact absurd h1 (h' o hl)
  ·rfl
  ·exact absurd h (h2 i hl)
 ·exact absurd h (Lib.indexByte_none (by omega) i)
theorem indexByte_no {l : List UInt8} {c : UInt8} (h' : ∀ j, j < l.length → l[j]? ≠ some c) : Lib.indexByte l c = -1 := by
 have hg := Lib.indexByte_ge l c
 by_cases h0 : 0 ≤ Lib.indexByte l c
 ·obtain ⟨o, ho⟩ := Int.eq_ofNat_of_zero_le h0
  obtain ⟨h1, h2⟩ := Lib.indexByte_some ho
  exact absurd h1 (h' o (List.getElem?_eq_some_iff.1 h1).1)
 ·omega
theorem size_list (s : ByteArray) : s.data.toList.length = s.size := by rw [Array.length_toList]; rfl
theorem byte_eq {s : ByteArray} {i : Nat} (h : i < s.size) (c : UInt8) : bt s (i : Int) = (c.toNat : Int) ↔ s.data.toList[i]? = some c := by
 rw [bt_nat h, bt_list h]
 constructor
 ·intro e
  have : s[i].toNat = c.toNat := by omega
  rw [UInt8.toNat_inj.1 this]
 ·intro e
  rw [Option.some.inj e]
theorem find {g : Nat → Int → Option Int} {s : ByteArray} {c : UInt8}
  (hend : Ev (fun k => g k (s.size : Int)) (-1))
  (hyes : ∀ i : Nat, i < s.size → bt s i = (c.toNat : Int) → Ev (fun k => g k (i : Int)) i)
  (hno : ∀ i : Nat, i < s.size → bt s i ≠ (c.toNat : Int) → ∀ r, Ev (fun k => g k ((i + 1 : Nat) : Int)) r → Ev (fun k => g k (i : Int)) r) :
  ∀ d i : Nat, s.size - i = d → i ≤ s.size → (∀ j, j < i → s.data.toList[j]? ≠ some c) → Ev (fun k => g k (i : Int)) (Lib.indexByte s.data.toList c) := by
 intro d
 induction d with
 | zero =>
  intro i hd hi hj
  obtain rfl : i = s.size := by omega
  rw [indexByte_no (fun j h => hj j (by rw [size_list] at h; exact h))]
  exact hend
 | succ d ih =>
  intro i hd hi hj
  have hlt : i < s.size := by omega
  by_cases e : bt s i = (c.toNat : Int)
  ·rw [indexByte_is ((byte_eq hlt c).1 e) hj]
   exact hyes i hlt e
  ·refine hno i hlt e _ (ih (i + 1) (by omega) (by omega) fun j hj' => ?_)
   by_cases h : j = i
   ·subst h
    exact fun h => e ((byte_eq hlt c).2 h)
   ·exact hj j (by omega)
theorem scanAny {g : Nat → Int → Option Bool} {P : Int → Bool} {s : ByteArray} {m : Nat} (hm : m ≤ s.size)
  (hend : Ev (fun k => g k (m : Int)) false)
  (hyes : ∀ i : Nat, i < m → P (bt s i) = true → Ev (fun k => g k (i : Int)) true)
  (hno : ∀ i : Nat, i < m → P (bt s i) = false → ∀ r, Ev (fun k => g k ((i + 1 : Nat) : Int)) r → Ev (fun k => g k (i : Int)) r) : ∀ d i : Nat, m - i = d → i ≤ m → Ev (fun k => g k (i : Int)) (!allSeg (fun c => !P c) s i m) := by
 intro d
 induction d with
 | zero =>
  intro i hd hi
  obtain rfl : i = m := by omega
  rw [allSeg_end]
  exact hend
 | succ d ih =>
  intro i hd hi
  have hlt : i < m := by omega
  rw [allSeg_step _ s hlt hm]
  cases hp : P (bt s i) with
  | true =>
   simp only [hp, Bool.not_true, Bool.false_and, Bool.not_false]
   exact hyes i hlt hp
  | false =>
   simp only [hp, Bool.not_false, Bool.true_and]
   exact hno i hlt hp _ (ih (i + 1) (by omega) (by omega))
def repS (s : ByteArray) (n : Nat) : ByteArray := ⟨((List.replicate n s.data.toList).flatten).toArray⟩
theorem bytes_ext {s t : ByteArray} (h : s.data.toList = t.data.toList) : s = t := by
 obtain ⟨s⟩ := s
 obtain ⟨t⟩ := t
 congr 1
 exact Array.toList_inj.1 h
end Go.Proofs.YtfgibjkgiolonaaX
