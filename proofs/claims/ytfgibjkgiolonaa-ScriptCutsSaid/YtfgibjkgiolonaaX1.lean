/- Plain lemmas of this session's own: loops over a string's bytes, as the printed functions have them. -/
import Derived.Test.YtfgibjkgiolonaaWWords
import Derived.Lib.IndexLaws
import Derived.Lib.IndexBytes
import Derived.Lib.Split
set_option linter.unusedVariables false
set_option linter.unusedSimpArgs false
namespace Go.Proofs.YtfgibjkgiolonaaX
open Go.RowKit Go.Proofs.YtfgibjkgiolonaaW.PrintWords
theorem wrap_succ {i n : Nat} (h : i < n) (hn : n ≤ 140737488351232) : wrap64 ((i : Int) + 1) = ((i + 1 : Nat) : Int) := by unfold wrap64; omega
theorem bt_nat {s : ByteArray} {i : Nat} (h : i < s.size) : bt s (i : Int) = (s[i].toNat : Int) := (bt_at s (i : Int) h).symm
theorem bt_list {s : ByteArray} {i : Nat} (h : i < s.size) : s.data.toList[i]? = some s[i] := by
 have hd : i < s.data.size := h
 rw [Array.getElem?_toList, Array.getElem?_eq_getElem hd]
 rfl
/-- All bytes from i on, before m, are of P. -/
def allSeg (P : Int → Bool) (s : ByteArray) (i m : Nat) : Bool := ((s.data.toList.take m).drop i).all fun b => P b.toNat
theorem allSeg_end (P : Int → Bool) (s : ByteArray) (m : Nat) : allSeg P s m m = true := by
 unfold allSeg
 rw [List.drop_eq_nil_of_le (by rw [List.length_take]; omega)]
 rfl
theorem allSeg_step (P : Int → Bool) (s : ByteArray) {i m : Nat} (h : i < m) (hm : m ≤ s.size) : allSeg P s i m = (P (bt s i) && allSeg P s (i + 1) m) := by
 unfold allSeg
 have hl : (s.data.toList.take m).length = m := by rw [List.length_take, Array.length_toList]; exact Nat.min_eq_left hm
 rw [List.drop_eq_getElem_cons (by rw [hl]; exact h), List.all_cons, bt_nat (by omega : i < s.size)]
 congr 2
 rw [List.getElem_take]
 have := bt_list (s := s) (i := i) (by omega)
 rw [List.getElem?_eq_getElem (by rw [Array.length_toList]; exact Nat.lt_of_lt_of_le h hm)] at this
 rw [Option.some.inj this]
theorem allSeg_zero (P : Int → Bool) (s : ByteArray) : allSeg P s 0 s.size = s.data.toList.all fun b => P b.toNat := by
 unfold allSeg
 rw [List.take_of_length_le (by rw [Array.length_toList]; exact Nat.le_refl _), List.drop_zero]
theorem allSeg_congr {P Q : Int → Bool} (h : ∀ n, n < 256 → P ((n : Nat) : Int) = Q ((n : Nat) : Int)) (s : ByteArray) (i m : Nat) : allSeg P s i m = allSeg Q s i m := by
 unfold allSeg
 congr 1
 funext b
 exact h b.toNat b.toNat_lt
/-- A loop that goes through a string's bytes from a place on, and leaves with false where one is not of P. -/
theorem scan {g : Nat → Int → Option Bool} {P : Int → Bool} {s : ByteArray} {m : Nat} {fin : Bool} (hm : m ≤ s.size)
  (hend : Ev (fun k => g k (m : Int)) fin)
  (hyes : ∀ i : Nat, i < m → P (bt s i) = true → ∀ r, Ev (fun k => g k ((i + 1 : Nat) : Int)) r → Ev (fun k => g k (i : Int)) r)
  (hno : ∀ i : Nat, i < m → P (bt s i) = false → Ev (fun k => g k (i : Int)) false) : ∀ d i : Nat, m - i = d → i ≤ m → Ev (fun k => g k (i : Int)) (allSeg P s i m && fin) := by
 intro d
 induction d with
 | zero =>
  intro i hd hi
  obtain rfl : i = m := by omega
  rw [allSeg_end, Bool.true_and]
  exact hend
 | succ d ih =>
  intro i hd hi
  have hlt : i < m := by omega
  rw [allSeg_step P s hlt hm]
  cases hp : P (bt s i) with
  | true =>
   rw [Bool.true_and]
   exact hyes i hlt hp _ (ih (i + 1) (by omega) (by omega))
  | false =>
   rw [Bool.false_and, Bool.false_and]
   exact hno i hlt hp
theorem indexByte_is {l : List UInt8} {c : UInt8} {i : Nat} (h : l[i]? = some c) (h' : ∀ j, j < i → l[j]? ≠ some c) : Lib.indexByte l c = i := by
 have hg := Lib.indexByte_ge l c
 by_cases h0 : 0 ≤ Lib.indexByte l c
 ·obtain ⟨o, ho⟩ := Int.eq_ofNat_of_zero_le h0
  obtain ⟨h1, h2⟩ := Lib.indexByte_some ho
  rw [ho]
  rcases Nat.lt_trichotomy o i with hl | rfl | hl
  ·exact absurd h1 (h' o hl)
  ·rfl
  ·exact absurd h (h2 i hl)
 ·exact absurd h (Lib.indexByte_none (by omega) i)
theorem indexByte_no {l : List UInt8} {c : UInt8} (h' : ∀ j, j < l.length → l[j]? ≠ some c) : Lib.indexByte l c = -1 := by
 have hg := Lib.indexByte_ge l c
 by_cases h0 : 0 ≤ Lib.indexByte l c
 ·obtain ⟨o, ho⟩ := Int.eq_ofNat_of_zero_le h0
  obtain ⟨h1, h2⟩ := Lib.indexByte_some ho
  exact absurd h1 (h' o (List.getElem?_eq_some_iff.1 h1).1)
 ·omega
theorem size_list (s : ByteArray) : s.data.toList.length = s.size := by rw [Array.length_toList]; rfl
theorem byte_eq {s : ByteArray} {i : Nat} (h : i < s.size) (c : UInt8) : bt s (i : Int) = (c.toNat : Int) ↔ s.data.toList[i]? = some c := by
 rw [bt_nat h, bt_list h]
 constructor
 ·intro e
  have : s[i].toNat = c.toNat := by omega
  rw [UInt8.toNat_inj.1 this]
 ·intro e
  rw [Option.some.inj e]
/-- The loop that looks for a byte's first place. -/
theorem find {g : Nat → Int → Option Int} {s : ByteArray} {c : UInt8}
  (hend : Ev (fun k => g k (s.size : Int)) (-1))
  (hyes : ∀ i : Nat, i < s.size → bt s i = (c.toNat : Int) → Ev (fun k => g k (i : Int)) i)
  (hno : ∀ i : Nat, i < s.size → bt s i ≠ (c.toNat : Int) → ∀ r, Ev (fun k => g k ((i + 1 : Nat) : Int)) r → Ev (fun k => g k (i : Int)) r) :
  ∀ d i : Nat, s.size - i = d → i ≤ s.size → (∀ j, j < i → s.data.toList[j]? ≠ some c) → Ev (fun k => g k (i : Int)) (Lib.indexByte s.data.toList c) := by
 intro d
 induction d with
 | zero =>
  intro i hd hi hj
  obtain rfl : i = s.size := by omega
  rw [indexByte_no (fun j h => hj j (by rw [size_list] at h; exact h))]
  exact hend
 | succ d ih =>
  intro i hd hi hj
  have hlt : i < s.size := by omega
  by_cases e : bt s i = (c.toNat : Int)
  ·rw [indexByte_is ((byte_eq hlt c).1 e) hj]
   exact hyes i hlt e
  ·refine hno i hlt e _ (ih (i + 1) (by omega) (by omega) fun j hj' => ?_)
   by_cases h : j = i
   ·subst h
    exact fun h => e ((byte_eq hlt c).2 h)
   ·exact hj j (by omega)
/-- A loop that leaves with true where a byte is of P. -/
theorem scanAny {g : Nat → Int → Option Bool} {P : Int → Bool} {s : ByteArray} {m : Nat} (hm : m ≤ s.size)
  (hend : Ev (fun k => g k (m : Int)) false)
  (hyes : ∀ i : Nat, i < m → P (bt s i) = true → Ev (fun k => g k (i : Int)) true)
  (hno : ∀ i : Nat, i < m → P (bt s i) = false → ∀ r, Ev (fun k => g k ((i + 1 : Nat) : Int)) r → Ev (fun k => g k (i : Int)) r) : ∀ d i : Nat, m - i = d → i ≤ m → Ev (fun k => g k (i : Int)) (!allSeg (fun c => !P c) s i m) := by
 intro d
 induction d with
 | zero =>
  intro i hd hi
  obtain rfl : i = m := by omega
  rw [allSeg_end]
  exact hend
 | succ d ih =>
  intro i hd hi
  have hlt : i < m := by omega
  rw [allSeg_step _ s hlt hm]
  cases hp : P (bt s i) with
  | true =>
   simp only [hp, Bool.not_true, Bool.false_and, Bool.not_false]
   exact hyes i hlt hp
  | false =>
   simp only [hp, Bool.not_false, Bool.true_and]
   exact hno i hlt hp _ (ih (i + 1) (by omega) (by omega))
/-- A text so many times. -/
def repS (s : ByteArray) (n : Nat) : ByteArray := ⟨((List.replicate n s.data.toList).flatten).toArray⟩
theorem repS_list (s : ByteArray) (n : Nat) : (repS s n).data.toList = (List.replicate n s.data.toList).flatten := by simp [repS]
theorem repS_size (s : ByteArray) (n : Nat) : (repS s n).size = n * s.size := by
 rw [← size_list, repS_list, List.length_flatten]
 simp [size_list]
theorem bytes_ext {s t : ByteArray} (h : s.data.toList = t.data.toList) : s = t := by
 obtain ⟨s⟩ := s
 obtain ⟨t⟩ := t
 congr 1
 exact Array.toList_inj.1 h
theorem rep_double (l : List UInt8) (m : Nat) : (List.replicate m (l ++ l)).flatten = (List.replicate (2 * m) l).flatten := by
 induction m with
 | zero => rfl
 | succ m ih => rw [List.replicate_succ, List.flatten_cons, ih, show 2 * (m + 1) = 2 * m + 1 + 1 from by omega, List.replicate_succ, List.replicate_succ, List.flatten_cons, List.flatten_cons, List.append_assoc]
theorem repS_double (s : ByteArray) (m : Nat) : repS (s ++ s) m = repS s (2 * m) := by
 apply bytes_ext
 rw [repS_list, repS_list, ← rep_double, ByteArray.data_append, Array.toList_append]
theorem repS_succ (s : ByteArray) (m : Nat) : s ++ repS s m = repS s (m + 1) := by
 apply bytes_ext
 rw [ByteArray.data_append, Array.toList_append, repS_list, repS_list, List.replicate_succ, List.flatten_cons]
/-- What outlawkit.Times tells. -/
theorem times_ev {l0 : Nat → ByteArray → Int → ByteArray → Option ByteArray}
  (h : ∀ k x0 x1 x5, l0 (k + 1) x0 x1 x5 = if x1 > 0 then (if (Int.tmod x1 2) = 1 then (if x5.size + x0.size ≤ 9223372036854775807 then (if x0.size + x0.size ≤ 9223372036854775807 then (l0 k (x0 ++ x0) (wrap64 (Int.tdiv x1 2)) (x5 ++ x0)) else (none)) else (none)) else (if x0.size + x0.size ≤ 9223372036854775807 then (l0 k (x0 ++ x0) (wrap64 (Int.tdiv x1 2)) x5) else (none))) else (some x5)) :
  ∀ (n : Nat) (s out : ByteArray), n ≤ 4611686018427387904 → out.size + 2 * (n * s.size) ≤ 9223372036854775807 → Ev (fun k => l0 k s (n : Int) out) (out ++ repS s n) := by
 intro n
 induction n using Nat.strongRecOn with
 | _ n ih =>
 intro s out hn hb
 by_cases h0 : n = 0
 ·subst h0
  refine Ev.step (f := fun _ => some out) (fun k => ?_) ?_
  ·rw [h, if_neg (by omega)]
  ·have : out ++ repS s 0 = out := by
    apply bytes_ext
    simp [ByteArray.data_append, repS_list]
   rw [this]
   exact Ev.now _
 ·have hw : wrap64 (Int.tdiv (n : Int) 2) = ((n / 2 : Nat) : Int) := by
   rw [Int.tdiv_eq_ediv_of_nonneg (by omega)]
   unfold wrap64
   omega
  have hm : Int.tmod (n : Int) 2 = ((n % 2 : Nat) : Int) := by
   rw [Int.tmod_eq_emod_of_nonneg (by omega)]
   omega
  have hs1 : s.size ≤ n * s.size := Nat.le_mul_of_pos_left _ (by omega)
  have hss : (s ++ s).size = 2 * s.size := by rw [ByteArray.size_append]; omega
  have hhalf : n / 2 * (2 * s.size) ≤ n * s.size := by
   rw [← Nat.mul_assoc]
   exact Nat.mul_le_mul_right _ (by omega)
  by_cases ho : n % 2 = 1
  ·have hsplit : n / 2 * (2 * s.size) + s.size = n * s.size := by
    have : n * s.size = (2 * (n / 2) + 1) * s.size := by congr 1; omega
    rw [this, Nat.add_mul, Nat.one_mul, Nat.mul_comm 2 (n / 2), Nat.mul_assoc]
   refine Ev.step (f := fun k => l0 k (s ++ s) ((n / 2 : Nat) : Int) (out ++ s)) (fun k => ?_) ?_
   ·rw [h, if_pos (by omega), if_pos (by omega), if_pos (by omega), if_pos (by omega), hw]
   ·have := ih (n / 2) (by omega) (s ++ s) (out ++ s) (by omega) (by rw [ByteArray.size_append, hss]; omega)
    rw [repS_double] at this
    have e : out ++ s ++ repS s (2 * (n / 2)) = out ++ repS s n := by
     rw [ByteArray.append_assoc, repS_succ]
     congr 2
     omega
    rw [e] at this
    exact this
  ·refine Ev.step (f := fun k => l0 k (s ++ s) ((n / 2 : Nat) : Int) out) (fun k => ?_) ?_
   ·rw [h, if_pos (by omega), if_neg (by omega), if_pos (by omega), hw]
   ·have := ih (n / 2) (by omega) (s ++ s) out (by omega) (by rw [hss]; omega)
    rw [repS_double, show 2 * (n / 2) = n from by omega] at this
    exact this
/-- What outlawkit.Pick tells at a number above 0: one from 0 on, below it. -/
theorem pick_of {f : Int → Int → Option Int} (h : ∀ a0 a1, f a0 a1 = if a1 < 1 then (some 0) else (if a1 = 0 then (none) else (if (Int.tmod a0 a1) < 0 then (some (wrap64 ((Int.tmod a0 a1) + a1))) else (some (Int.tmod a0 a1))))) (n m : Int) (hm : 1 ≤ m) (hM : m ≤ 4611686018427387904) : f n m = some (n % m) := by
 rw [h, if_neg (by omega), if_neg (by omega)]
 have h1 := Int.tmod_lt_of_pos n (show 0 < m from by omega)
 have h2 := Int.emod_nonneg n (show m ≠ 0 from by omega)
 have h3 := Int.emod_lt_of_pos n (show 0 < m from by omega)
 have h4 : Int.tmod n m = n % m ∨ Int.tmod n m = n % m - m := by
  rw [Int.tmod_eq_emod]
  split
  ·exact .inl (by omega)
  ·exact .inr (by rw [Int.natAbs_of_nonneg (by omega)])
 have h5 : n < 0 ∨ Int.tmod n m = n % m := by
  by_cases hn : n < 0
  ·exact .inl hn
  ·exact .inr (Int.tmod_eq_emod_of_nonneg (by omega))
 have h6 : 0 ≤ n → ¬ Int.tmod n m < 0 := fun hn => by rw [Int.tmod_eq_emod_of_nonneg hn]; omega
 have h7 : n < 0 → Int.tmod n m ≤ 0 := fun hn => by
  have := Int.neg_tmod n m
  have h8 := Int.tmod_nonneg m (show 0 ≤ -n from by omega)
  omega
 by_cases h : Int.tmod n m < 0
 ·rw [if_pos h]
  congr 1
  unfold wrap64
  omega
 ·rw [if_neg h]
  congr 1
  omega
theorem pick_range (n m : Int) (hm : 1 ≤ m) : 0 ≤ n % m ∧ n % m < m := ⟨Int.emod_nonneg n (by omega), Int.emod_lt_of_pos n (by omega)⟩
end Go.Proofs.YtfgibjkgiolonaaX
