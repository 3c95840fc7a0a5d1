/- A row of bytes that a conversion of a string has laid (or an append has grown out of it): appended to, read as a string. -/
import Derived.Lib.FrozenHead
import Derived.Laws.IdiomStrings
import Derived.Test.YtfgibjkgiolonaaX2
import Derived.Test.YtfgibjkgiolonaaGm
set_option linter.unusedVariables false
set_option linter.unusedSimpArgs false
namespace Go.Proofs.YtfgibjkgiolonaaS
open Go.RowKit Go.Lib Go.Proofs.YtfgibjkgiolonaaW.PrintWords Go.Proofs.YtfgibjkgiolonaaX Go.Proofs.YtfgibjkgiolonaaG
theorem heap_alloc_mark_ (w : World) (C : Array Value) (t : TypeId) (m : Nat × Nat) : (w.alloc (.cells C t m)).heap[w.heap.size]? = some (.cells C t m) := by
 show (w.heap.push _)[w.heap.size]? = _
 simp
def Thawed (n : Nat) (m : Nat × Nat) : Prop := n ≤ m.1 ∨ m.2 = 0
theorem thawed_frozen {w : World} {g n j : Nat} {t : TypeId} {cur : Array Value} {m : Nat × Nat} (h : w.heap[g]? = some (.cells cur t m)) (hm : Thawed n m) (hj : j < n) : w.frozen? ⟨g, j, none⟩ = false := by
 obtain ⟨lo, hi⟩ := m
 simp only [World.frozen?, h, Bool.and_eq_false_iff, decide_eq_false_iff_not]
 rcases hm with hm | hm
 ·left; simp only at hm; omega
 ·right; simp only at hm; omega
theorem stores_run (P : Program) (g o : Nat) (t : TypeId) (m : Nat × Nat) (n : Nat) (hm : Thawed n m) : ∀ (vs : List Value) (i : Nat) (cur : Array Value) (w : World), w.heap[g]? = some (.cells cur t m) → cur.size = n → o + i + vs.length ≤ n → (∀ v ∈ vs, v.oneCell' = true) →
  ∃ cur' : Array Value, (storeCells ⟨g, o, none⟩ vs i).run P w = .ok () (w.setRow g cur') ∧ cur'.toList = cur.toList.take (o + i) ++ vs ++ cur.toList.drop (o + i + vs.length)
 | [], i, cur, w, hg, hn, hl, h1 => ⟨cur, by simp only [storeCells]; rw [setRow_self w g cur t m hg]; rfl, by simp⟩
 | v :: rest, i, cur, w, hg, hn, hl, h1 => by
  rw [List.length_cons] at hl
  have hlt : o + i < cur.size := by omega
  have hadd : (⟨g, o, none⟩ : Addr).add i = ⟨g, o + i, none⟩ := by unfold Addr.add; split <;> simp_all
  have hst : (store ((⟨g, o, none⟩ : Addr).add i) v).run P w = .ok () (w.setRow g (cur.setIfInBounds (o + i) v)) := by
   rw [hadd, run_store P w _ v _ (h1 v (List.mem_cons_self)), show w.cell? ⟨g, o + i, none⟩ = some cur[o + i] by simp [World.cell?, hg, hlt]]
   simp [thawed_frozen hg hm (show o + i < n by omega), setCell_eq_setRow w g (o + i) cur t m v hg]
  obtain ⟨cur', hr, hc⟩ := stores_run P g o t m n hm rest (i + 1) (cur.setIfInBounds (o + i) v) (w.setRow g (cur.setIfInBounds (o + i) v)) (setRow_heap w g cur _ t _ hg) (by simpa using hn) (by omega) (fun x hx => h1 x (List.mem_cons_of_mem _ hx))
  refine ⟨cur', ?_, ?_⟩
  ·simp only [storeCells, Sem.run_bind, hst, Result.andThen_ok, hr, setRow_setRow]
  ·rw [hc]
   have e := list_seg_step cur.toList (o + i) v rest (by simp; omega)
   simpa [Array.toList_setIfInBounds, Nat.add_assoc, List.length_cons] using e
def RowM (w : World) (base : Nat) (v : Value) (xs : List Int) : Prop :=
 ∃ g cap cur m, v = .slice (some ⟨g, 0, none⟩) xs.length cap ∧ base ≤ g ∧ w.heap[g]? = some (.cells cur 5 m) ∧ Thawed cap m ∧ xs.length ≤ cap ∧ cap ≤ maxLen ∧ cur.size = cap ∧ cur.toList.take xs.length = nums .u8 xs
theorem RowM.grown {w w' : World} {base : Nat} {v : Value} {xs : List Int} (h : RowM w base v xs) {row : Option Nat} (hg : w.grownBy w' row) (hne : v.ownBlock ≠ row) : RowM w' base v xs := by
 obtain ⟨g, cap, cur, m, rfl, h1, h2, h3⟩ := h
 have hl : g < w.heap.size := (Array.getElem?_eq_some_iff.1 h2).1
 exact ⟨g, cap, cur, m, rfl, h1, (hg.block g hl (by simpa [Value.ownBlock] using hne)).trans h2, h3⟩
theorem RowM.below {w w' : World} {base : Nat} {v : Value} {xs : List Int} (h : RowM w base v xs) (hb : Below w.heap.size w w') : RowM w' base v xs := by
 obtain ⟨g, cap, cur, m, rfl, h1, h2, h3⟩ := h
 exact ⟨g, cap, cur, m, rfl, h1, (hb.block g (Array.getElem?_eq_some_iff.1 h2).1).trans h2, h3⟩
theorem strCells_nums (s : ByteArray) : strCells s = nums .u8 (bytesOf s) := by simp [nums, bytesOf, strCells]
theorem rowM_append (w : World) (base : Nat) (v : Value) (xs : List Int) (s : ByteArray) (ty : TypeId) (h : RowM w base v xs) (hb : base ≤ w.heap.size) (hl : xs.length + s.size ≤ 140737488355328) :
  ∃ v' w', (Builtin.append_ #[37, 9] ty #[v, .string s]).run Try.prog w = .ok v' w' ∧ RowM w' base v' (xs ++ bytesOf s) ∧ w.grownBy w' v.ownBlock ∧ (v'.ownBlock = v.ownBlock ∨ ∃ b, v'.ownBlock = some b ∧ w.heap.size ≤ b) := by
 obtain ⟨g, cap, cur, m, rfl, h1, h2, h3, h4, h5, h6, h7⟩ := h
 have hsz : (xs ++ bytesOf s).length = xs.length + s.size := by rw [List.length_append, bytesOf_length]
 have hcl : (nums .u8 (xs ++ bytesOf s)) = nums .u8 xs ++ strCells s := by rw [nums_append, strCells_nums]
 have hinfo : (Try.prog.info? 5).map (fun i => (i.zero, i.size, i.bytes)) = some (some (.int .u8 0), 1, 1) := by kernel_rfl
 obtain ⟨i0, hi0, hzz⟩ := Option.map_eq_some_iff.1 hinfo
 simp only [Prod.mk.injEq] at hzz
 obtain ⟨hz0, hs0, hy0⟩ := hzz
 by_cases hroom : xs.length + s.size ≤ cap
 ·obtain ⟨cur', hr, hc⟩ := stores_run Try.prog g xs.length 5 m cap h3 (strCells s) 0 cur w h2 h6 (by rw [strCells_length]; omega) (strCells_oneCell s)
  have hf := run_firstCells_string (P := Try.prog) w 1 s
  refine ⟨.slice (some ⟨g, 0, none⟩) (xs.length + s.size) cap, w.setRow g cur', ?_, ⟨g, cap, cur', m, by rw [hsz], h1, setRow_heap w g cur _ 5 _ h2, h3, by rw [hsz]; exact hroom, h5, ?_, ?_⟩, ⟨rfl, rfl, rfl, by simp, fun k _ hk => setRow_other w g k _ (fun e => hk (by simp [Value.ownBlock, e]))⟩, .inl rfl⟩
  ·simp [Builtin.append_, run_underlying Try.underlying37, run_underlying Try.underlying9, sizeOf, typeInfo, hi0, hs0, Builtin.lenOf, hroom, hf, Addr.add_lit, hr]
  ·have := congrArg List.length hc
   simp [strCells_length] at this
   omega
  ·rw [hc, hsz, hcl, Nat.add_zero, ← h7]
   have : (cur.toList.take xs.length ++ strCells s).length = xs.length + s.size := by simp [strCells_length]; omega
   rw [← this]
   exact List.take_left
 ·have hxl : (nums .u8 xs).length = xs.length := by simp [nums]
  have holds : ∀ j u, (nums .u8 xs)[j]? = some u → w.cell? ((⟨g, 0, none⟩ : Addr).add j) = some u := fun j u hu => by
   have hadd : (⟨g, 0, none⟩ : Addr).add j = ⟨g, j, none⟩ := by unfold Addr.add; split <;> simp_all
   rw [hadd, show w.cell? ⟨g, j, none⟩ = cur[j]? by simp [World.cell?, h2]]
   rw [← h7, List.getElem?_take] at hu
   split at hu
   ·simpa using hu
   ·cases hu
  have hr := run_append_grow_string (P := Try.prog) w 37 9 ty 5 i0 (.int .u8 0) Try.underlying37 Try.underlying9 hi0 hz0 ⟨g, 0, none⟩ xs.length cap (nums .u8 xs) (by rw [hs0, hxl, Nat.mul_one]) holds s (by omega) (by omega) (by rw [hy0]; exact growslice_fits (by omega) (by omega))
  have hge := grownCap_ge w (xs.length + s.size) cap 5
  have hcm2 : grownCap w (xs.length + s.size) cap 5 ≤ maxLen := grownCap_le_maxLen w (xs.length + s.size) cap 5 (by simp only [maxLen]; omega)
  refine ⟨_, _, hr, ⟨w.heap.size, _, _, (0, 0), by rw [hsz], hb, heap_alloc_new w.drew _, .inr rfl, by rw [hsz]; exact hge, hcm2, ?_, ?_⟩, ⟨rfl, rfl, rfl, by simp, fun k hk _ => Below.heap_alloc w.drew _ k hk⟩, .inr ⟨w.heap.size, by simp [Value.ownBlock], Nat.le_refl _⟩⟩
  ·have hz1 : (Value.int IntKind.u8 0).cells.size = 1 := rfl
   simp only [Array.size_append, List.size_toArray, size_zeroCells, hz1, hxl, strCells_length]
   omega
  ·rw [hsz, hcl]
   simp only [Array.toList_append, List.append_assoc]
   have : (nums .u8 xs ++ strCells s).length = xs.length + s.size := by rw [List.length_append, strCells_length, hxl]
   rw [← List.append_assoc, ← this]
   exact List.take_left
theorem bytesRow_is (s : ByteArray) (cap : Nat) (h : s.size ≤ cap) : (bytesRow s cap).size = cap ∧ (bytesRow s cap).toList.take s.size = nums .u8 (bytesOf s) := by
 have hd : s.data.size = s.size := rfl
 refine ⟨by unfold bytesRow; simp; omega, ?_⟩
 unfold bytesRow
 rw [Array.toList_append]
 have hl : (s.data.map (fun b => Value.int .u8 b.toNat)).toList.length = s.size := by simp
 rw [← hl, List.take_left]
 simp [nums, bytesOf]
theorem rowM_of (w : World) (s : ByteArray) (base : Nat) (hb : base ≤ w.heap.size) (hs : s.size ≤ 140737488351232) : ∃ v w', (convert 9 37 (.string s)).run Try.prog w = .ok v w' ∧ RowM w' base v (bytesOf s) ∧ Below w.heap.size w w' ∧ v.ownBlock = some w.heap.size := by
 have hr := run_bytes_of_string (P := Try.prog) w 9 37 5 s Try.underlying9 Try.underlying37 Try.underlying5
 have hge := grownCap_ge w s.size 0 5
 obtain ⟨h1, h2⟩ := bytesRow_is s _ hge
 refine ⟨_, _, hr, ⟨w.heap.size, _, _, _, by rw [bytesOf_length], hb, heap_alloc_mark_ w.drew _ _ _, .inl (by show _ ≤ (bytesRow s _).size; rw [h1]; exact Nat.le_refl _), by rw [bytesOf_length]; exact hge, grownCap_le_maxLen w s.size 0 5 (by simp only [maxLen]; omega), h1, by rw [bytesOf_length]; exact h2⟩, (Below.refl _ w).drew.alloc (Nat.le_refl _) _, by simp [Value.ownBlock]⟩
theorem rowM_reads {w : World} {base : Nat} {v : Value} {xs : List Int} (h : RowM w base v xs) (hl : xs.length ≤ 140737488351232) : ∃ A c, v = .slice A xs.length c ∧ ReadsInt w .u8 A xs.length xs := by
 obtain ⟨g, cap, cur, m, rfl, h1, h2, h3, h4, h5, h6, h7⟩ := h
 refine ⟨_, _, rfl, rfl, by omega, fun hp => ⟨_, rfl, fun j hj => ?_⟩⟩
 have hadd : (⟨g, 0, none⟩ : Addr).add j = ⟨g, j, none⟩ := by unfold Addr.add; split <;> simp_all
 rw [hadd, show w.cell? ⟨g, j, none⟩ = cur[j]? by simp [World.cell?, h2]]
 have h8 := congrArg (fun l => l[j]?) h7
 simp only [List.getElem?_take, if_pos hj, Array.getElem?_toList] at h8
 rw [h8]
 simp [nums, List.getD_eq_getElem?_getD, List.getElem?_eq_getElem hj]
end Go.Proofs.YtfgibjkgiolonaaS
