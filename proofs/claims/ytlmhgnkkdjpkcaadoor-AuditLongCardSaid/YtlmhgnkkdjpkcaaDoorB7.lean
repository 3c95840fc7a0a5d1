/- slices.Delete and slices.BinarySearch at []string, of a row that the call owns; texts in order. -/
import Derived.Test.YtlmhgnkkdjpkcaaDoorB6
import Derived.Sort.Walk0
set_option linter.unusedVariables false
set_option linter.unusedSimpArgs false
namespace Go.Proofs.YtlmhgnkkdjpkcaaDoorG
open Go.RowKit Go.Proofs.YtlmhgnkkdjpkcaaDoorM
def lessS (a b : ByteArray) : Bool := Op.bytesLess a.toList b.toList
theorem lessS_eq (a b : ByteArray) : lessS a b = true ↔ a.toList < b.toList := by unfold lessS; rw [bytesLess_eq]; simp
theorem lessS_irrefl (a : ByteArray) : lessS a a = false := by
 cases h : lessS a a with
 | false => rfl
 | true => exact absurd ((lessS_eq a a).1 h) (List.lt_irrefl _)
theorem lessS_trans {a b c : ByteArray} (h : lessS a b = true) (k : lessS b c = true) : lessS a c = true := (lessS_eq a c).2 (List.lt_trans ((lessS_eq a b).1 h) ((lessS_eq b c).1 k))
theorem toList_inj {s t : ByteArray} (h : s.toList = t.toList) : s = t := Go.WideShapes.bytes_inj (by rw [ByteArray.toList_eq, ByteArray.toList_eq] at h; exact h)
theorem lessS_total {a b : ByteArray} (h : a ≠ b) (k : lessS a b = false) : lessS b a = true := by
 rw [lessS_eq]
 rcases Classical.em (b.toList < a.toList) with h' | h'
 ·exact h'
 ·have h1 : ¬ a.toList < b.toList := fun e => by rw [(lessS_eq a b).2 e] at k; cases k
  exact absurd (toList_inj (List.le_antisymm (List.not_lt.1 h') (List.not_lt.1 h1))) h
def posS (x : ByteArray) (l : List ByteArray) : Nat := (l.takeWhile fun y => lessS y x).length
def hasS (x : ByteArray) (l : List ByteArray) : Bool := decide (l[posS x l]? = some x)
theorem posS_le (x : ByteArray) (l : List ByteArray) : posS x l ≤ l.length := (List.takeWhile_sublist _).length_le
def Rising (l : List ByteArray) : Prop := l.Pairwise fun a b => lessS a b = true
theorem posS_cons (x y : ByteArray) (l : List ByteArray) : posS x (y :: l) = if lessS y x = true then posS x l + 1 else 0 := by
 unfold posS
 rw [List.takeWhile_cons]
 split <;> simp_all
theorem posS_low {x : ByteArray} : ∀ {l : List ByteArray} {t : Nat} (ht : t < posS x l) (hl : t < l.length), lessS l[t] x = true := by
 intro l
 induction l with
 | nil => intro t ht hl; simp at hl
 | cons y l ih =>
  intro t ht hl
  rw [posS_cons] at ht
  by_cases h : lessS y x = true
  ·rw [if_pos h] at ht
   cases t with
   | zero => exact h
   | succ t => exact ih (by omega) (by simpa using hl)
  ·rw [if_neg h] at ht; omega
theorem posS_at {x : ByteArray} : ∀ {l : List ByteArray} (hl : posS x l < l.length), lessS l[posS x l] x = false := by
 intro l
 induction l with
 | nil => intro hl; simp at hl
 | cons y l ih =>
  intro hl
  by_cases h : lessS y x = true
  ·have e : posS x (y :: l) = posS x l + 1 := by rw [posS_cons, if_pos h]
   have hl2 : posS x l < l.length := by rw [e] at hl; simpa using hl
   have := ih hl2
   simp only [e, List.getElem_cons_succ]
   exact this
  ·have e : posS x (y :: l) = 0 := by rw [posS_cons, if_neg h]
   simp only [e, List.getElem_cons_zero]
   simpa using h
theorem posS_high {x : ByteArray} {l : List ByteArray} (hr : Rising l) {t : Nat} (ht : posS x l ≤ t) (hl : t < l.length) : lessS l[t] x = false := by
 have hk : posS x l < l.length := by omega
 by_cases e : posS x l = t
 ·subst e
  exact posS_at hk
 ·have h1 : lessS l[posS x l] l[t] = true := List.pairwise_iff_getElem.1 hr _ _ hk hl (by omega)
  cases h : lessS l[t] x with
  | false => rfl
  | true =>
   have := lessS_trans h1 h
   rw [posS_at hk] at this
   cases this
set_option maxHeartbeats 1000000 in
theorem search_own (w : World) (B : Nat) (v : Value) (l : List ByteArray) (x : ByteArray) (ho : OwnS w B v l) (hr : Rising l) (hl : l.length ≤ 1000000000) :
  Calls Tryd.prog 52 #[v, .string x] w fun e w' => e = .returned (.tuple #[.int .i64 (posS x l : Nat), .bool (hasS x l)]) ∧ ∃ q, w' = w.drewN q := by
 rcases ho.2 with ⟨rfl, h0⟩ | ⟨g, cap, cur, rfl, hBg, hg, hn, hm, hs, ht⟩
 ·obtain rfl : l = [] := List.eq_nil_of_length_eq_zero h0
  refine (Tryd.slices_BinarySearch_string_empty none 0 x w).mono ?_
  rintro e w' ⟨rfl, rfl⟩
  exact ⟨rfl, 0, rfl⟩
 ·have hcs := own_cells ho
  refine (Tryd.slices_BinarySearch_string g 0 l.length cap (fun j => l.getD j x) x w (by omega) (fun j hj => hcs j _ (by rw [List.getElem?_map, List.getElem?_eq_getElem hj]; simp [List.getD, List.getElem?_eq_getElem hj]))).mono ?_
  have hgo : Lib.bsGo (fun t => Op.bytesLess (l.getD t x).toList x.toList) l.length 0 l.length = posS x l := by
   refine Lib.bsGo_spec _ (posS x l) (fun t ht => ?_) (fun t ht => ?_) _ 0 l.length (by omega) (Nat.zero_le _) (posS_le x l)
   ·have hl := Nat.lt_of_lt_of_le ht (posS_le x l)
    show lessS (l.getD t x) x = true
    rw [List.getD_eq_getElem?_getD, List.getElem?_eq_getElem hl]
    exact posS_low ht hl
   ·show lessS (l.getD t x) x = false
    by_cases hl : t < l.length
    ·rw [List.getD_eq_getElem?_getD, List.getElem?_eq_getElem hl]
     exact posS_high hr ht hl
    ·rw [List.getD_eq_getElem?_getD, List.getElem?_eq_none (by omega)]
     exact lessS_irrefl x
  rintro e w' ⟨rfl, hq⟩
  refine ⟨?_, hq⟩
  rw [hgo]
  have hb : decide (posS x l < l.length ∧ l.getD (posS x l) x = x) = hasS x l := by
   unfold hasS
   by_cases hk : posS x l < l.length
   ·simp [hk, List.getD_eq_getElem?_getD]
   ·have : l[posS x l]? = none := List.getElem?_eq_none (by omega)
    simp [hk, this]
  rw [hb]
set_option maxHeartbeats 1000000 in
theorem delete_own (w : World) (B i : Nat) (v : Value) (l : List ByteArray) (ho : OwnS w B v l) (hi : i < l.length) (hl : l.length ≤ 1000000000) :
  Calls Tryd.prog 54 #[v, .int .i64 (i : Int), .int .i64 ((i : Int) + 1)] w fun e w' => ∃ v', e = .returned v' ∧ OwnS w' B v' (l.take i ++ l.drop (i + 1)) ∧ Below B w w' := by
 rcases ho.2 with ⟨rfl, h0⟩ | ⟨g, cap, cur, rfl, hBg, hg, hn, hm, hs, ht⟩
 ·omega
 ·have ho2 : w.ownsRow B 9 1 (.slice (some ⟨g, 0, none⟩) l.length cap) l.length ((l.map (fun z : ByteArray => z.data.toList)).map Proofs.encStr) := by rw [Go.Lib.map_encStr]; exact ho
  obtain ⟨g', cap', e1, _, _, _, _, _, hH⟩ := Go.Lib.holds_of_ownsRow ho2 (fun e => by cases e)
  cases e1
  have hd := Tryd.slices_Delete_string g 0 cap i (i + 1) (l.map (fun z : ByteArray => z.data.toList)) w hH (by simpa using hn) hm (by omega) (by rw [List.length_map]; omega)
  rw [List.length_map] at hd
  refine hd.mono ?_
  rintro e w' ⟨rfl, q, rfl⟩
  have hlen : (l.take i ++ l.drop (i + 1)).length = l.length - (i + 1 - i) := by rw [List.length_append, List.length_take, List.length_drop]; omega
  have hy : ((l.map (fun z : ByteArray => z.data.toList)).take i ++ (l.map (fun z : ByteArray => z.data.toList)).drop (i + 1) ++ List.replicate (i + 1 - i) []).length = l.length := by simp; omega
  have hp := Go.Lib.ownsRow_putRow (q := q) ho2 hy (show l.length - (i + 1 - i) ≤ l.length by omega)
  refine ⟨_, rfl, ?_, Go.Lib.below_putRow (Below.refl _ _) hBg⟩
  unfold OwnS
  rw [hlen]
  have e2 : ((((l.map (fun z : ByteArray => z.data.toList)).take i ++ (l.map (fun z : ByteArray => z.data.toList)).drop (i + 1) ++ List.replicate (i + 1 - i) []).take (l.length - (i + 1 - i))).map Proofs.encStr) = (l.take i ++ l.drop (i + 1)).map Value.string := by
   rw [List.take_left' (by simp; omega), ← List.map_take, ← List.map_drop, ← List.map_append, Go.Lib.map_encStr]
  rw [e2] at hp
  exact hp
end Go.Proofs.YtlmhgnkkdjpkcaaDoorG
