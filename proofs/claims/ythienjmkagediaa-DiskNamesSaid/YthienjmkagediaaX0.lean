/- Words of this session's own: a block of bytes that a conversion of a string has laid, read and written. -/
import Derived.Below
import Derived.WalkKit
import Derived.Laws.IdiomStrings
import Derived.Laws.BytesArg
import Derived.Test.YthienjmkagediaaWWords
set_option linter.unusedVariables false
set_option linter.unusedSimpArgs false
namespace Go.Proofs.YthienjmkagediaaX
open Go.RowKit Go.Proofs.YthienjmkagediaaW.PrintWords
/-- Block g holds these numbers at its head, none of them frozen. -/
def RowI (w : World) (g : Nat) (xs : List Int) : Prop :=
  ∃ (C : Array Value) (e lo hi : Nat), w.heap[g]? = some (.cells C e (lo, hi)) ∧ (xs.length ≤ lo ∨ hi = 0) ∧ ∀ j, j < xs.length → C[j]? = some (.int .u8 (xs.getD j 0))
theorem RowI.lt {w : World} {g : Nat} {xs : List Int} (h : RowI w g xs) : g < w.heap.size := by
  obtain ⟨C, e, lo, hi, hh, _⟩ := h
  exact (Array.getElem?_eq_some_iff.1 hh).1
theorem RowI.cell {w : World} {g : Nat} {xs : List Int} (h : RowI w g xs) {j : Nat} (hj : j < xs.length) : w.cell? ⟨g, j, none⟩ = some (.int .u8 (xs.getD j 0)) := by
  obtain ⟨C, e, lo, hi, hh, hl, hc⟩ := h
  simp only [World.cell?, hh]
  simpa using hc j hj
theorem RowI.frozen {w : World} {g : Nat} {xs : List Int} (h : RowI w g xs) {j : Nat} (hj : j < xs.length) : w.frozen? ⟨g, j, none⟩ = false := by
  obtain ⟨C, e, lo, hi, hh, hl, hc⟩ := h
  simp only [World.frozen?, hh]
  rw [Bool.and_eq_false_iff]
  rcases hl with hl | hl
  · exact .inl (decide_eq_false (by omega))
  · exact .inr (decide_eq_false (by omega))
theorem RowI.of_block {w w' : World} {g : Nat} {xs : List Int} (h : RowI w g xs) (hb : w'.heap[g]? = w.heap[g]?) : RowI w' g xs := by
  obtain ⟨C, e, lo, hi, hh, hl, hc⟩ := h
  exact ⟨C, e, lo, hi, hb.trans hh, hl, hc⟩
theorem RowI.set {w : World} {g : Nat} {xs : List Int} (h : RowI w g xs) {j : Nat} (hj : j < xs.length) (x : Int) : RowI (w.setCell ⟨g, j, none⟩ (.int .u8 x)) g (xs.set j x) := by
  obtain ⟨C, e, lo, hi, hh, hl, hc⟩ := h
  refine ⟨C.setIfInBounds j (.int .u8 x), e, lo, hi, ?_, by rw [List.length_set]; exact hl, fun i hi => ?_⟩
  · simp only [World.setCell, Array.getElem?_modify]
    simp [hh]
  · rw [List.length_set] at hi
    rw [Array.getElem?_setIfInBounds]
    by_cases e : j = i
    · subst e
      have hs : j < C.size := (Array.getElem?_eq_some_iff.1 (hc j hj)).1
      rw [if_pos rfl, if_pos hs]
      simp [List.getD, List.getElem?_set, hj]
    · rw [if_neg e, hc i hi]
      simp [List.getD, List.getElem?_set, e]
theorem RowI.below {B : Nat} {w w' : World} {g : Nat} {xs : List Int} (h : RowI w g xs) (hb : Below B w w') (hg : g < B) : RowI w' g xs := h.of_block (hb.block g hg)
theorem RowI.of_string (w : World) (s : ByteArray) (cap e : Nat) (m : Nat × Nat) (hm : s.size ≤ m.1 ∨ m.2 = 0) : RowI (w.alloc (.cells (bytesRow s cap) e m)) w.heap.size (bytesOf s) := by
  have hlen := bytesOf_length s
  refine ⟨bytesRow s cap, e, m.1, m.2, ?_, by rw [hlen]; exact hm, fun j hj => ?_⟩
  · show (w.heap.push _)[w.heap.size]? = _
    simp
  · rw [hlen] at hj
    have hj' : j < s.data.size := hj
    unfold bytesRow bytesOf
    rw [Array.getElem?_append_left (by simpa using hj')]
    have hx : s.data[j]? = some s.data[j] := Array.getElem?_eq_getElem hj'
    simp [List.getD, hx]
theorem bytesRow_size (s : ByteArray) (cap : Nat) : s.size ≤ (bytesRow s cap).size := by
  unfold bytesRow
  simp only [Array.size_append, Array.size_map]
  exact Nat.le_add_right _ _
theorem strOfNums_map (s : ByteArray) (f : UInt8 → UInt8) : strOfNums (s.data.toList.map fun b => ((f b).toNat : Int)) = ⟨s.data.map f⟩ := by
  unfold strOfNums
  congr 1
  apply Array.toList_inj.1
  simp [Function.comp_def]
theorem size_one_ (x : UInt8) : (⟨#[x]⟩ : ByteArray).size = 1 := rfl
theorem size_two_ (x y : UInt8) : (⟨#[x, y]⟩ : ByteArray).size = 2 := rfl
theorem size_three_ (x y z : UInt8) : (⟨#[x, y, z]⟩ : ByteArray).size = 3 := rfl
theorem bneNil_ (l : List UInt8) : (l != []) = !l.isEmpty := by cases l <;> rfl
theorem beqNil_ (l : List UInt8) : (l == []) = l.isEmpty := by cases l <;> rfl
end Go.Proofs.YthienjmkagediaaX
