/- slices.Insert, slices.Delete, slices.BinarySearch at []string, of a row that the call owns. -/
import Derived.Test.YtlmhgnkkdjpkcaaDoorM0
import Derived.Test.YtlmhgnkkdjpkcaaDoorShelf
import Derived.Lib.OwnBridge
import Derived.Lib.Hide
set_option linter.unusedVariables false
set_option linter.unusedSimpArgs false
namespace Go.Proofs.YtlmhgnkkdjpkcaaDoorG
open Go.RowKit Go.Proofs.YtlmhgnkkdjpkcaaDoorM
def OwnS (w : World) (B : Nat) (v : Value) (l : List ByteArray) : Prop := w.ownsRow B 9 1 v l.length (l.map Value.string)
theorem blk_setCells {b : Nat} {t : TypeId} : ∀ (vs : List Value) (o : Nat) (w : World) (c : List Value), Blk w b c t → o + vs.length ≤ c.length → Blk (w.setCells b o vs) b (splice c o vs) t := by
 intro vs
 induction vs with
 | nil => intro o w c h ho; simpa [World.setCells, splice] using h
 | cons v vs ih =>
  intro o w c h ho
  simp only [List.length_cons] at ho
  have := ih (o + 1) (w.setCell ⟨b, o, none⟩ v) (c.set o v) (h.set o v) (by rw [List.length_set]; omega)
  have e : splice (c.set o v) (o + 1) vs = splice c o (v :: vs) := by
   unfold splice
   rw [List.take_succ_eq_append_getElem (by rw [List.length_set]; omega), List.take_set_of_le (Nat.le_refl _), List.getElem_set_self, List.drop_set_of_lt (by omega)]
   simp [Nat.add_assoc, Nat.add_comm 1]
  rw [e] at this
  exact this
theorem below_setCells {b B : Nat} {w0 : World} : ∀ (vs : List Value) (o : Nat) (w : World), Below B w0 w → B ≤ b → Below B w0 (w.setCells b o vs) := by
 intro vs
 induction vs with
 | nil => intro o w h hb; exact h
 | cons v vs ih => intro o w h hb; exact ih (o + 1) _ (h.setCell (p := ⟨b, o, none⟩) hb v) hb
theorem heap_setCells_other {b i : Nat} (hi : i ≠ b) : ∀ (vs : List Value) (o : Nat) (w : World), (w.setCells b o vs).heap[i]? = w.heap[i]? := by
 intro vs
 induction vs with
 | nil => intro o w; rfl
 | cons v vs ih =>
  intro o w
  rw [World.setCells, ih]
  exact Below.heap_setCell _ _ _ _ hi
theorem own_blk {w : World} {B g : Nat} {l : List ByteArray} {n cap : Nat} (h : OwnS w B (.slice (some ⟨g, 0, none⟩) n cap) l) : ∃ r, n = l.length ∧ Blk w g (l.map Value.string ++ r) 9 ∧ (l.map Value.string ++ r).length = cap ∧ cap ≤ maxLen ∧ B ≤ g ∧ l.length ≤ cap := by
 rcases h.2 with ⟨e, _⟩ | ⟨g', cap', cur, e, hb, hg, h1, h2, h3, h4⟩
 ·cases e
 ·cases e
  refine ⟨cur.toList.drop l.length, rfl, ?_, ?_, h2, hb, h1⟩
  ·unfold Blk
   rw [hg, ← h4, Nat.mul_one, List.take_append_drop]
  ·rw [← h4, Nat.mul_one, List.take_append_drop, Array.length_toList, h3, Nat.mul_one]
theorem own_mk {w : World} {B g cap : Nat} {l : List ByteArray} {r : List Value} (hb : Blk w g (l.map Value.string ++ r) 9) (hc : (l.map Value.string ++ r).length = cap) (hm : cap ≤ maxLen) (hB : B ≤ g) : OwnS w B (.slice (some ⟨g, 0, none⟩) l.length cap) l := by
 have hl : l.length ≤ cap := by rw [← hc, List.length_append, List.length_map]; omega
 refine ⟨by simp, .inr ⟨g, cap, _, rfl, hB, hb, hl, hm, by simpa using hc, ?_⟩⟩
 rw [Nat.mul_one]
 simp
theorem own_mk' {w : World} {B g cap n : Nat} {l : List ByteArray} {r : List Value} (hn : l.length = n) (hb : Blk w g (l.map Value.string ++ r) 9) (hc : (l.map Value.string ++ r).length = cap) (hm : cap ≤ maxLen) (hB : B ≤ g) : OwnS w B (.slice (some ⟨g, 0, none⟩) n cap) l := by
 subst hn
 exact own_mk hb hc hm hB
theorem own_cells {w : World} {B g : Nat} {l : List ByteArray} {n cap : Nat} (h : OwnS w B (.slice (some ⟨g, 0, none⟩) n cap) l) : ∀ j v, (l.map Value.string)[j]? = some v → w.cell? ⟨g, 0 + j, none⟩ = some v := by
 obtain ⟨r, rfl, hb, _⟩ := own_blk h
 intro j v hj
 rw [Nat.zero_add, hb.cell, List.getElem?_append_left (List.getElem?_eq_some_iff.1 hj).1, hj]
theorem splice_mid (a b c b' : List Value) (h : b.length = b'.length) : splice (a ++ (b ++ c)) a.length b' = a ++ (b' ++ c) := by
 unfold splice
 rw [List.take_left, ← h, ← List.length_append, ← List.append_assoc a b c, List.drop_left]
theorem splice2 (A D r : List Value) (x u : Value) : splice (splice (A ++ D ++ x :: r) (A.length + 1) D) A.length [u] = A ++ u :: D ++ r := by
 have e1 : splice (A ++ D ++ x :: r) (A.length + 1) D = A ++ ((D ++ [x]).head (by simp) :: (D ++ r)) := by
  cases D with
  | nil =>
   simp [splice]
   rw [show A ++ x :: r = (A ++ [x]) ++ r by simp, List.take_left' (by simp)]
  | cons y D =>
   have := splice_mid (A ++ [y]) (D ++ [x]) r (y :: D) (by simp)
   simp only [List.length_append, List.length_cons, List.length_nil, Nat.zero_add, List.append_assoc, List.cons_append, List.nil_append] at this
   simp only [List.append_assoc, List.cons_append]
   exact this
 rw [e1]
 have := splice_mid A [(D ++ [x]).head (by simp)] (D ++ r) [u] rfl
 simp only [List.cons_append, List.nil_append] at this
 rw [this]
 simp
theorem splice3 (A D Z1 Z2 : List Value) (z u : Value) (h : Z1.length = D.length) : splice (splice (A ++ (z :: Z1) ++ Z2) A.length [u]) (A.length + 1) D = A ++ u :: D ++ Z2 := by
 have e1 := splice_mid A [z] (Z1 ++ Z2) [u] rfl
 have e2 := splice_mid (A ++ [u]) Z1 Z2 D h
 simp only [List.length_append, List.length_cons, List.length_nil, Nat.zero_add, List.append_assoc, List.cons_append, List.nil_append] at e1 e2 ⊢
 rw [e1, e2]
theorem blk_arr (w : World) (arr : Array Value) (t : TypeId) : Blk (w.alloc (.cells arr t)) w.heap.size arr.toList t := by
 have := Blk.new w arr.toList t
 rwa [Array.toArray_toList] at this
set_option maxHeartbeats 1000000 in
theorem insert_own (w : World) (B vb i : Nat) (v : Value) (l : List ByteArray) (u : ByteArray) (ho : OwnS w B v l) (hv : Blk w vb [.string u] 9) (hi : i ≤ l.length) (hne : v.ownBlock ≠ some vb) (hl : l.length ≤ 1000000000) (hB : B ≤ w.heap.size) :
  Calls Tryd.prog 53 #[v, .int .i64 (i : Int), .slice (some ⟨vb, 0, none⟩) 1 1] w fun e w' => ∃ v', e = .returned v' ∧ OwnS w' B v' (l.take i ++ u :: l.drop i) ∧ Below B w w' := by
 have hlen : (l.take i ++ u :: l.drop i).length = l.length + 1 := by simp; omega
 have hvs : ∀ j x, [Value.string u][j]? = some x → w.cell? ⟨vb, 0 + j, none⟩ = some x := fun j x hj => by rw [Nat.zero_add, hv.cell]; exact hj
 have h1v : ∀ x ∈ [Value.string u], x.oneCell' = true := fun x hx => by rw [List.mem_singleton] at hx; subst hx; rfl
 have h1c : ∀ x ∈ l.map Value.string, x.oneCell' = true := fun x hx => by obtain ⟨y, _, rfl⟩ := List.mem_map.1 hx; rfl
 have hz : ∀ n, (Builtin.zeroCells (Value.string ⟨#[]⟩).cells n).toList.length = n := fun n => by rw [Array.length_toList, size_zeroCells]; simp [Value.cells]
 rcases ho.2 with ⟨rfl, h0⟩ | ⟨g, cap, cur, rfl, hBg, hg, hn, hm, hs, ht⟩
 ·obtain rfl : l = [] := List.eq_nil_of_length_eq_zero h0
  obtain rfl : i = 0 := by simpa using hi
  refine (Tryd.slices_Insert_string_end_grow none 0 0 vb 0 1 1 [] [.string u] w (by decide) (by decide) (by decide) (by decide) rfl rfl (fun _ => rfl) (fun a e => by cases e) hvs h1v).mono ?_
  rintro e w' ⟨rfl, rfl⟩
  refine ⟨_, rfl, ?_, ((Below.refl _ _).drew).alloc hB _⟩
  refine own_mk (l := [u]) (r := (Builtin.zeroCells (Value.string ⟨#[]⟩).cells (grownCap w (0 + 1) 0 9 - (0 + 1))).toList) ?_ ?_ (grownCap_le_maxLen _ _ _ _ (by decide)) hB
  ·have := blk_arr w.drew (([] ++ [Value.string u]).toArray ++ Builtin.zeroCells (Value.string ⟨#[]⟩).cells (grownCap w (0 + 1) 0 9 - (0 + 1))) 9
   rw [Array.toList_append] at this
   exact this
  ·have := grownCap_ge w (0 + 1) 0 9
   rw [List.length_append, hz, List.length_map]
   simp only [List.length_cons, List.length_nil]
   omega
 ·obtain ⟨r, _, hb, hcap, hm, hBg, hlc⟩ := own_blk ho
  have hgv : vb ≠ g := fun e => hne (by rw [e]; rfl)
  have hlr : r.length = cap - l.length := by rw [List.length_append, List.length_map] at hcap; omega
  have hcs := own_cells ho
  by_cases hroom : l.length + 1 ≤ cap
  ·have hcell : ∀ j, j < cap → (w.cell? ⟨g, 0 + j, none⟩).isSome = true := fun j hj => by rw [Nat.zero_add, hb.cell, List.getElem?_eq_getElem (by omega)]; rfl
   by_cases hil : i < l.length
   ·refine (Tryd.slices_Insert_string_shift g 0 l.length cap i vb 0 1 1 (l.map Value.string) [.string u] w hil (by decide) hroom hm hgv (by simp) rfl hcs (fun j hj => hcell j (by omega)) (fun j hj => hb.frozen _) hvs h1c h1v 9 9 1 cap ?_ ?_ (by omega) (hv.frozen 0) (hv.frozen 1)).mono ?_
    ·unfold Blk at hv
     simp [World.shape?, hv]
    ·unfold Blk at hb
     have hc2 : (List.map Value.string l ++ r).toArray.size = cap := by simpa using hcap
     simp only [World.shape?, hb]
     simp at hc2 ⊢
     exact hc2
    rintro e w' ⟨rfl, rfl⟩
    refine ⟨_, rfl, ?_, below_setCells _ _ _ (below_setCells _ _ _ ((Below.refl _ _).drew) hBg) hBg⟩
    have hb1 := blk_setCells ((l.map Value.string).drop i) (0 + (i + 1)) w.drew _ hb.drew (by rw [hcap, List.length_drop, List.length_map]; omega)
    have hb2 := blk_setCells [.string u] (0 + i) _ _ hb1 (by rw [length_splice _ _ _ (by rw [hcap, List.length_drop, List.length_map]; omega), hcap]; simp; omega)
    obtain ⟨x, r, rfl⟩ := List.exists_cons_of_length_pos (l := r) (by omega)
    have hA : ((l.take i).map Value.string).length = i := by rw [List.length_map, List.length_take]; omega
    have hs2 := splice2 ((l.take i).map Value.string) ((l.drop i).map Value.string) r x (.string u)
    rw [hA, ← List.map_append, List.take_append_drop, List.map_drop] at hs2
    rw [Nat.zero_add, Nat.zero_add, hs2] at hb2
    refine own_mk' hlen (r := r) ?_ ?_ hm hBg
    ·rw [List.map_append, List.map_cons, List.map_drop, Nat.zero_add, Nat.zero_add]
     exact hb2
    ·rw [List.length_append, List.length_map, hlen]
     simp only [List.length_cons] at hlr
     omega
   ·obtain rfl : i = l.length := by omega
    refine (Tryd.slices_Insert_string_end_room g 0 l.length cap vb 0 1 1 [.string u] w (by decide) hroom hm rfl (fun j hj => ?_) (fun j hj => hb.frozen _) hvs h1v).mono ?_
    ·rw [Nat.zero_add, hb.cell, List.getElem?_eq_getElem (by omega)]; rfl
    rintro e w' ⟨rfl, rfl⟩
    refine ⟨_, rfl, ?_, below_setCells _ _ _ (Below.refl _ _) hBg⟩
    have hb2 := blk_setCells [.string u] (0 + l.length) _ _ hb (by rw [hcap]; simp; omega)
    refine own_mk' hlen (r := r.drop 1) ?_ (by simp; omega) hm hBg
    have e : splice (l.map Value.string ++ r) (0 + l.length) [.string u] = (l.take l.length ++ u :: l.drop l.length).map Value.string ++ r.drop 1 := by
     unfold splice
     simp [List.take_append, List.drop_append, List.drop_eq_nil_of_le]
    rw [← e]
    exact hb2
  ·have hbig : (l.length + 1) * 16 ≤ 140737488355328 := by omega
   by_cases hil : i < l.length
   ·refine (Tryd.slices_Insert_string_grow g 0 l.length cap i vb 0 1 1 (l.map Value.string) [.string u] w hil (by decide) hlc (by omega) hbig (by simp) rfl hcs hvs h1c h1v).mono ?_
    rintro e w' ⟨rfl, rfl⟩
    refine ⟨_, rfl, ?_, below_setCells _ _ _ ((below_setCells _ _ _ (((Below.refl _ _).alloc hB _).drew) hB).drew) hB⟩
    have hgc := grownCap_ge w (l.length + 1) cap 9
    have hb0 := (Blk.new w ((l.map Value.string).take i ++ (Builtin.zeroCells (Value.string ⟨#[]⟩).cells (l.length + 1 - i)).toList ++ (Builtin.zeroCells (Value.string ⟨#[]⟩).cells (grownCap w (l.length + 1) cap 9 - (l.length + 1))).toList) 9).drew
    have hb0l : ((l.map Value.string).take i ++ (Builtin.zeroCells (Value.string ⟨#[]⟩).cells (l.length + 1 - i)).toList ++ (Builtin.zeroCells (Value.string ⟨#[]⟩).cells (grownCap w (l.length + 1) cap 9 - (l.length + 1))).toList).length = grownCap w (l.length + 1) cap 9 := by
     rw [List.length_append, List.length_append, hz, hz, List.length_take, List.length_map]; omega
    have hb1 := blk_setCells [.string u] i _ _ hb0 (by rw [hb0l]; simp; omega)
    have hb2 := blk_setCells ((l.map Value.string).drop i) (i + 1) _ _ hb1.drew (by rw [length_splice _ _ _ (by rw [hb0l]; simp; omega), hb0l, List.length_drop, List.length_map]; omega)
    have hA : ((l.map Value.string).take i).length = i := by rw [List.length_take, List.length_map]; omega
    have e : splice (splice ((l.map Value.string).take i ++ (Builtin.zeroCells (Value.string ⟨#[]⟩).cells (l.length + 1 - i)).toList ++ (Builtin.zeroCells (Value.string ⟨#[]⟩).cells (grownCap w (l.length + 1) cap 9 - (l.length + 1))).toList) i [.string u]) (i + 1) ((l.map Value.string).drop i)
      = (l.take i ++ u :: l.drop i).map Value.string ++ (Builtin.zeroCells (Value.string ⟨#[]⟩).cells (grownCap w (l.length + 1) cap 9 - (l.length + 1))).toList := by
     generalize hZ1 : (Builtin.zeroCells (Value.string ⟨#[]⟩).cells (l.length + 1 - i)).toList = Z1
     generalize (Builtin.zeroCells (Value.string ⟨#[]⟩).cells (grownCap w (l.length + 1) cap 9 - (l.length + 1))).toList = Z2
     have hz1 : Z1.length = l.length + 1 - i := by rw [← hZ1, hz]
     obtain ⟨z, Z1, rfl⟩ := List.exists_cons_of_length_pos (l := Z1) (by omega)
     simp only [List.length_cons] at hz1
     have hs3 := splice3 ((l.map Value.string).take i) ((l.map Value.string).drop i) Z1 Z2 z (.string u) (by rw [List.length_drop, List.length_map]; omega)
     rw [hA] at hs3
     rw [hs3, List.map_append, List.map_cons, List.map_take, List.map_drop]
    rw [e] at hb2
    refine own_mk' hlen (r := (Builtin.zeroCells (Value.string ⟨#[]⟩).cells (grownCap w (l.length + 1) cap 9 - (l.length + 1))).toList) ?_ ?_ (grownCap_le_maxLen _ _ _ _ (by unfold maxLen; omega)) hB
    ·have e2 : (((l.map Value.string).take i).toArray ++ Builtin.zeroCells (Value.string ⟨#[]⟩).cells (l.length + 1 - i) ++ Builtin.zeroCells (Value.string ⟨#[]⟩).cells (grownCap w (l.length + 1) cap 9 - (l.length + 1))) = ((l.map Value.string).take i ++ (Builtin.zeroCells (Value.string ⟨#[]⟩).cells (l.length + 1 - i)).toList ++ (Builtin.zeroCells (Value.string ⟨#[]⟩).cells (grownCap w (l.length + 1) cap 9 - (l.length + 1))).toList).toArray := by
      apply Array.toList_inj.1
      simp
     rw [e2]
     exact hb2
    ·rw [List.length_append, hz, List.length_map, hlen]; omega
   ·obtain rfl : i = l.length := by omega
    refine (Tryd.slices_Insert_string_end_grow (some ⟨g, 0, none⟩) l.length cap vb 0 1 1 (l.map Value.string) [.string u] w (by decide) hlc (by omega) hbig (by simp) rfl (fun h => by cases h) (fun a ea j x hj => by cases ea; rw [addr_add]; exact hcs j x hj) hvs h1v).mono ?_
    rintro e w' ⟨rfl, rfl⟩
    refine ⟨_, rfl, ?_, ((Below.refl _ _).drew).alloc hB _⟩
    have hgc := grownCap_ge w (l.length + 1) cap 9
    have hb0 := Blk.new w.drew (l.map Value.string ++ [Value.string u] ++ (Builtin.zeroCells (Value.string ⟨#[]⟩).cells (grownCap w (l.length + 1) cap 9 - (l.length + 1))).toList) 9
    refine own_mk' hlen (r := (Builtin.zeroCells (Value.string ⟨#[]⟩).cells (grownCap w (l.length + 1) cap 9 - (l.length + 1))).toList) ?_ ?_ (grownCap_le_maxLen _ _ _ _ (by unfold maxLen; omega)) hB
    ·have e2 : ((l.map Value.string ++ [Value.string u]).toArray ++ Builtin.zeroCells (Value.string ⟨#[]⟩).cells (grownCap w (l.length + 1) cap 9 - (l.length + 1))) = ((l.take l.length ++ u :: l.drop l.length).map Value.string ++ (Builtin.zeroCells (Value.string ⟨#[]⟩).cells (grownCap w (l.length + 1) cap 9 - (l.length + 1))).toList).toArray := by
      apply Array.toList_inj.1
      simp
     rw [e2]
     exact Blk.new w.drew _ 9
    ·rw [List.length_append, hz, List.length_map, hlen]; omega
end Go.Proofs.YtlmhgnkkdjpkcaaDoorG
