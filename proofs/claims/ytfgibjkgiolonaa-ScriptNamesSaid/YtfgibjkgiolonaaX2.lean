/- Plain lemmas of this session's own: blocks of cells, carried over calls that write one known block. -/
import Derived.Test.YtfgibjkgiolonaaWm
import Derived.Test.YtfgibjkgiolonaaX1
import Derived.Below
import Derived.Recover
import Derived.Defers
set_option linter.unusedVariables false
set_option linter.unusedSimpArgs false
namespace Go.Proofs.YtfgibjkgiolonaaX
open Go.RowKit
structure Else (B : Nat) (w w' : World) : Prop where
 os : w'.os = w.os
 tape : w'.tape = w.tape
 output : w'.output = w.output
 size : w.heap.size ≤ w'.heap.size
 block : ∀ k, k ≠ B → k < w.heap.size → w'.heap[k]? = w.heap[k]?
theorem Else.refl (B : Nat) (w : World) : Else B w w := ⟨rfl, rfl, rfl, Nat.le_refl _, fun _ _ _ => rfl⟩
theorem Else.trans {B : Nat} {a b c : World} (h : Else B a b) (k : Else B b c) : Else B a c :=
 ⟨k.os.trans h.os, k.tape.trans h.tape, k.output.trans h.output, Nat.le_trans h.size k.size, fun i hi hs => (k.block i hi (Nat.lt_of_lt_of_le hs h.size)).trans (h.block i hi hs)⟩
theorem Else.drew {B : Nat} {a w : World} (h : Else B a w) : Else B a w.drew := ⟨h.os, h.tape, h.output, h.size, h.block⟩
theorem Else.set {B : Nat} {a w : World} (h : Else B a w) (o : Nat) (v : Value) : Else B a (w.setCell ⟨B, o, none⟩ v) :=
 h.trans ⟨rfl, rfl, rfl, by simp [World.setCell], fun k hk _ => Below.heap_setCell _ _ _ _ hk⟩
theorem Else.alloc {B : Nat} {a w : World} (h : Else B a w) (o : Obj) : Else B a (w.alloc o) :=
 h.trans ⟨rfl, rfl, rfl, by simp, fun k _ hk => Below.heap_alloc _ _ _ hk⟩
theorem Else.setNew {B I : Nat} {a w : World} (h : Else B a w) (hI : a.heap.size ≤ I) (o : Nat) (v : Value) : Else B a (w.setCell ⟨I, o, none⟩ v) :=
 ⟨h.os, h.tape, h.output, Nat.le_trans h.size (by simp [World.setCell]), fun k hk hs => (Below.heap_setCell _ _ _ _ (by show k ≠ I; omega)).trans (h.block k hk hs)⟩
theorem Else.of_below {B n : Nat} {w w' : World} (h : Below n w w') (hn : w.heap.size ≤ n) : Else B w w' := ⟨h.os, h.tape, h.output, h.size, fun k _ hk => h.block k (Nat.lt_of_lt_of_le hk hn)⟩
theorem Else.below {B n : Nat} {w w' : World} (h : Else B w w') (hB : n ≤ B) (hn : n ≤ w.heap.size) : Below n w w' := ⟨h.os, h.tape, h.output, h.size, fun k hk => h.block k (by omega) (by omega)⟩
def Blk (w : World) (I : Nat) (c : Array Value) (t : TypeId) : Prop := w.heap[I]? = some (.cells c t (0, 0))
theorem Blk.lt {w : World} {I : Nat} {c : Array Value} {t : TypeId} (h : Blk w I c t) : I < w.heap.size := by
 by_cases hi : I < w.heap.size
 ·exact hi
 ·unfold Blk at h
  rw [Array.getElem?_eq_none (by omega)] at h
  simp at h
theorem Blk.cell {w : World} {I : Nat} {c : Array Value} {t : TypeId} (h : Blk w I c t) (o : Nat) : w.cell? ⟨I, o, none⟩ = c[o]? := by
 unfold Blk at h
 simp [World.cell?, h]
theorem Blk.frozen {w : World} {I : Nat} {c : Array Value} {t : TypeId} (h : Blk w I c t) (o : Nat) : w.frozen? ⟨I, o, none⟩ = false := by
 unfold Blk at h
 simp [World.frozen?, h]
theorem Blk.set {w : World} {I : Nat} {c : Array Value} {t : TypeId} (h : Blk w I c t) (o : Nat) (v : Value) : Blk (w.setCell ⟨I, o, none⟩ v) I (c.setIfInBounds o v) t := by
 unfold Blk at h ⊢
 simp [World.setCell, Array.getElem?_modify, h]
theorem Blk.setElse {w : World} {I J : Nat} {c : Array Value} {t : TypeId} (h : Blk w I c t) (hJ : I ≠ J) (o : Nat) (v : Value) : Blk (w.setCell ⟨J, o, none⟩ v) I c t := by
 unfold Blk at h ⊢
 rw [Below.heap_setCell _ _ _ _ hJ]
 exact h
theorem Blk.drew {w : World} {I : Nat} {c : Array Value} {t : TypeId} (h : Blk w I c t) : Blk w.drew I c t := h
theorem Blk.alloc {w : World} {I : Nat} {c : Array Value} {t : TypeId} (h : Blk w I c t) (o : Obj) : Blk (w.alloc o) I c t := by
 have hl := h.lt
 unfold Blk at h ⊢
 rw [Below.heap_alloc _ _ _ hl]
 exact h
theorem Blk.kept {w w' : World} {B I : Nat} {c : Array Value} {t : TypeId} (h : Blk w I c t) (hE : Else B w w') (hI : I ≠ B) : Blk w' I c t := by
 have hl := h.lt
 unfold Blk at h ⊢
 rw [hE.block I hI hl]
 exact h
theorem Blk.below {w w' : World} {B I : Nat} {c : Array Value} {t : TypeId} (h : Blk w I c t) (hb : Below B w w') (hI : I < B) : Blk w' I c t := by
 unfold Blk at h ⊢
 rw [hb.block I hI]
 exact h
theorem Blk.new (w : World) (c : Array Value) (t : TypeId) : Blk (w.alloc (.cells c t)) w.heap.size c t := by
 unfold Blk
 show (w.heap.push _)[w.heap.size]? = _
 simp
end Go.Proofs.YtfgibjkgiolonaaX
