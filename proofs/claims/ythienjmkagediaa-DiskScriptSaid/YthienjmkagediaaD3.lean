/- The law DiskCrash, walked: it says yes. -/
import Derived.Test.YthienjmkagediaaN2
import Derived.Test.YthienjmkagediaaN4
set_option linter.unusedVariables false
set_option linter.unusedSimpArgs false
namespace Go.Proofs.YthienjmkagediaaM
open Go.RowKit Go.Proofs.YthienjmkagediaaW.PrintMore
/-- A sector of a text's bytes. -/
def pad (s : ByteArray) : List UInt8 := s.data.toList ++ zeros (512 - s.size)
theorem size_list (s : ByteArray) : s.data.toList.length = s.size := by rw [Array.length_toList]; rfl
theorem pad_length {s : ByteArray} (h : s.size ≤ 512) : (pad s).length = 512 := by
  unfold pad
  rw [List.length_append, zeros_length, size_list]
  omega
theorem pad_bs (s : ByteArray) : s ++ bs (zeros (512 - s.size)) = bs (pad s) := by
  unfold pad
  rw [← bs_append, bs_data]
/-- The first k texts, written each into its sector; all of them, one behind the other. -/
def firstP (l : List ByteArray) (k : Nat) : List (Nat × List UInt8) := (List.range k).map fun i => (i, pad (l.getD i ByteArray.empty))
def firstD (l : List ByteArray) (k : Nat) : List UInt8 := (List.range k).flatMap fun i => pad (l.getD i ByteArray.empty)
theorem firstP_succ (l : List ByteArray) (k : Nat) : firstP l (k + 1) = firstP l k ++ [(k, pad (l.getD k ByteArray.empty))] := by
  unfold firstP
  rw [List.range_succ, List.map_append]
  rfl
theorem firstD_succ (l : List ByteArray) (k : Nat) : firstD l (k + 1) = firstD l k ++ pad (l.getD k ByteArray.empty) := by
  unfold firstD
  rw [List.range_succ, List.flatMap_append]
  simp
theorem firstP_length (l : List ByteArray) (k : Nat) : (firstP l k).length = k := by simp [firstP]
theorem firstD_length (l : List ByteArray) (h : ∀ i, (l.getD i ByteArray.empty).size ≤ 512) : ∀ k, (firstD l k).length = k * 512
  | 0 => rfl
  | k + 1 => by
    rw [firstD_succ, List.length_append, firstD_length l h k, pad_length (h k)]
    omega
theorem firstP_get (l : List ByteArray) (n i : Nat) (h : i < n) : (firstP l n).getD i (0, []) = (i, pad (l.getD i ByteArray.empty)) := by
  unfold firstP
  rw [List.getD_eq_getElem?_getD, List.getElem?_map, List.getElem?_range h]
  rfl
theorem firstD_take (l : List ByteArray) (h : ∀ i, (l.getD i ByteArray.empty).size ≤ 512) (n k : Nat) (hk : k ≤ n) : (firstD l n).take (k * 512) = firstD l k := by
  obtain ⟨m, rfl⟩ : ∃ m, n = k + m := ⟨n - k, by omega⟩
  clear hk
  induction m with
  | zero => rw [Nat.add_zero, List.take_of_length_le (by rw [firstD_length l h]; exact Nat.le_refl _)]
  | succ m ih =>
    rw [show k + (m + 1) = (k + m) + 1 by omega, firstD_succ, List.take_append_of_le_length (by rw [firstD_length l h]; exact Nat.mul_le_mul_right _ (by omega)), ih]
theorem firstD_sec (l : List ByteArray) (h : ∀ i, (l.getD i ByteArray.empty).size ≤ 512) (n k : Nat) (hk : k < n) : sec (firstD l n) k = pad (l.getD k ByteArray.empty) := by
  have e : (firstD l n).take ((k + 1) * 512) = firstD l (k + 1) := firstD_take l h n (k + 1) hk
  have e2 : (firstD l n).take (k * 512) = firstD l k := firstD_take l h n k (by omega)
  have e3 := take_sec (firstD l n) n k (firstD_length l h n) hk
  rw [e, e2, firstD_succ] at e3
  exact List.append_cancel_left e3
/-- Written each into its sector, and synced, they lie one behind the other. -/
theorem firstP_sync (l : List ByteArray) (h : ∀ i, (l.getD i ByteArray.empty).size ≤ 512) (n : Nat) : ∀ k, k ≤ n → crashK (zeros (n * 512)) (firstP l n) (fun _ => 512) k = (firstD l n).take (k * 512) ++ zeros ((n - k) * 512)
  | 0, _ => by simp [crashK]
  | k + 1, hk => by
    have ih := firstP_sync l h n k (by omega)
    unfold crashK
    rw [ih, firstP_get l n k (by omega)]
    show splice _ (k * 512) (List.take 512 (pad _)) = _
    have e : List.take 512 (pad (l.getD k ByteArray.empty)) = sec (firstD l n) k := by
      rw [List.take_of_length_le (by rw [pad_length (h k)]; exact Nat.le_refl _), ← firstD_sec l h n k (by omega)]
    rw [e]
    exact sec_zero_step _ n k (firstD_length l h n) (by omega)
theorem firstP_syncs (l : List ByteArray) (h : ∀ i, (l.getD i ByteArray.empty).size ≤ 512) (n : Nat) : crashK (zeros (n * 512)) (firstP l n) (fun _ => 512) (firstP l n).length = firstD l n := by
  rw [firstP_length, firstP_sync l h n n (Nat.le_refl _), Nat.sub_self, Nat.zero_mul, List.take_of_length_le (by rw [firstD_length l h]; exact Nat.le_refl _)]
  simp [zeros]
/-- The first k writes of the second loop. -/
def nextP (at_ : List Int) (b : List ByteArray) (k : Nat) : List (Nat × List UInt8) := (List.range k).map fun i => (pickN (at_.getD i 0) 4, pad (b.getD i ByteArray.empty))
theorem nextP_succ (at_ : List Int) (b : List ByteArray) (k : Nat) : nextP at_ b (k + 1) = nextP at_ b k ++ [(pickN (at_.getD k 0) 4, pad (b.getD k ByteArray.empty))] := by
  unfold nextP
  rw [List.range_succ, List.map_append]
  rfl
theorem nextP_length (at_ : List Int) (b : List ByteArray) (k : Nat) : (nextP at_ b k).length = k := by simp [nextP]
theorem nextP_get (at_ : List Int) (b : List ByteArray) (n i : Nat) (h : i < n) : (nextP at_ b n).getD i (0, []) = (pickN (at_.getD i 0) 4, pad (b.getD i ByteArray.empty)) := by
  unfold nextP
  rw [List.getD_eq_getElem?_getD, List.getElem?_map, List.getElem?_range h]
  rfl
theorem nextP_step (D : List UInt8) (at_ : List Int) (b : List ByteArray) (c : Nat → Nat) (n k : Nat) (h : k < n) : crashK D (nextP at_ b n) c (k + 1) = splice (crashK D (nextP at_ b n) c k) (pickN (at_.getD k 0) 4 * 512) ((pad (b.getD k ByteArray.empty)).take (c k)) := by
  show splice _ _ _ = _
  rw [nextP_get at_ b n k h]
theorem getD_size {l : List ByteArray} {m : Nat} (h : lightB l m 512 = true) (i : Nat) : (l.getD i ByteArray.empty).size ≤ 512 := by
  unfold lightB at h
  rw [Bool.and_eq_true, List.all_eq_true] at h
  by_cases hi : i < l.length
  · rw [List.getD_eq_getElem?_getD, List.getElem?_eq_getElem hi, Option.getD_some]
    simpa using h.1 _ (List.getElem_mem hi)
  · rw [List.getD_eq_getElem?_getD, List.getElem?_eq_none (by omega)]
    exact Nat.zero_le _
theorem not_own_type {w : World} {B p g n : Nat} {v : Value} {D : List UInt8} {P : List (Nat × List UInt8)} (h : DiskAt w B p g n v D P) {k : Nat} {c : Array Value} {t : TypeId} {fr : Nat × Nat} (hk : w.heap[k]? = some (.cells c t fr)) (h1 : t ≠ 66) (h2 : t ≠ 69) (h3 : t ≠ 71) : ¬ Own p g v k := by
  rintro (rfl | rfl | e)
  · have := h.blk.symm.trans hk
    cases this
    exact h1 rfl
  · have := h.dur.symm.trans hk
    cases this
    exact h2 rfl
  · rcases h.pend.2 with ⟨rfl, _⟩ | ⟨q, cap, cur, rfl, _, hq, _⟩
    · cases e
    · cases e
      have := hq.symm.trans hk
      cases this
      exact h3 rfl
theorem own_far {w : World} {B p g n : Nat} {v : Value} {D : List UInt8} {P : List (Nat × List UInt8)} (h : DiskAt w B p g n v D P) {B' e size m : Nat} {u : Value} {xs : List Value} (ho : w.ownsRow B' e size u m xs) (h1 : e ≠ 66) (h2 : e ≠ 69) (h3 : e ≠ 71) : ∀ k, u.ownBlock = some k → ¬ Own p g v k := by
  intro k hk
  rcases ho.2 with ⟨rfl, _⟩ | ⟨q, cap, cur, rfl, _, hq, _⟩
  · cases hk
  · cases hk
    exact not_own_type h hq h1 h2 h3
end Go.Proofs.YthienjmkagediaaM
