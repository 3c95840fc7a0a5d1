import Derived.Below
import Derived.WalkKit
import Derived.Lib.Hide
import Derived.Laws.IdiomStrings
import Derived.Laws.CopyOwn
import Derived.Laws.MakeOwn
import Derived.Laws.Rows
import Derived.Laws.Tables
import Derived.Laws.CopyRow
import Derived.Deep.DeepAppendWide
import Derived.Deep.WholeRow
import Derived.Deep.MidRow
import Derived.Test.YtbbnjnpbaekfgaaProg
import Derived.Deep.RegionHeld3
import Derived.Deep.AppendLies
import Derived.Deep.DrawnRows
import Derived.Maps.AppendAt
import Derived.KernelRfl
import Derived.Recover
import Derived.Defers
import Derived.LoopTactic
import Derived.Tactics
import Derived.Tactics2
import Derived.RegionTactic
import Derived.ChangeAlike
import Derived.Test.YtbbnjnpbaekfgaaWMore
/- Plain lemmas of this session's own: blocks of memory, what is kept but for some of them, and rows of bytes. -/
set_option linter.unusedVariables false
set_option linter.unusedSimpArgs false
namespace Go.Proofs.YtbbnjnpbaekfgaaM
open Go.RowKit
/-- All blocks but those of S are as they were. -/
structure Elses (S : Nat → Prop) (w w' : World) : Prop where
  os : w'.os = w.os
  tape : w'.tape = w.tape
  output : w'.output = w.output
  size : w.heap.size ≤ w'.heap.size
  block : ∀ k, ¬ S k → k < w.heap.size → w'.heap[k]? = w.heap[k]?
section
variable {S T : Nat → Prop} {a b c w : World}
theorem Elses.refl (S : Nat → Prop) (w : World) : Elses S w w := ⟨rfl, rfl, rfl, Nat.le_refl _, fun _ _ _ => rfl⟩
theorem Elses.trans' (h : Elses S a b) (k : Elses T b c) (hT : ∀ i, T i → S i ∨ a.heap.size ≤ i) : Elses S a c :=
  ⟨k.os.trans h.os, k.tape.trans h.tape, k.output.trans h.output, Nat.le_trans h.size k.size, fun i hi hs =>
    (k.block i (fun ht => (hT i ht).elim hi (fun h2 => absurd hs (by omega))) (Nat.lt_of_lt_of_le hs h.size)).trans (h.block i hi hs)⟩
theorem Elses.trans (h : Elses S a b) (k : Elses S b c) : Elses S a c := h.trans' k fun _ h => .inl h
theorem Elses.mono (h : Elses S a b) (hS : ∀ i, S i → T i) : Elses T a b := ⟨h.os, h.tape, h.output, h.size, fun i hi hs => h.block i (fun x => hi (hS i x)) hs⟩
theorem Elses.mono' (h : Elses S a b) (hS : ∀ i, i < a.heap.size → S i → T i) : Elses T a b := ⟨h.os, h.tape, h.output, h.size, fun i hi hs => h.block i (fun x => hi (hS i hs x)) hs⟩
theorem Elses.drew (h : Elses S a w) : Elses S a w.drew := ⟨h.os, h.tape, h.output, h.size, h.block⟩
theorem Elses.alloc (h : Elses S a w) (o : Obj) : Elses S a (w.alloc o) :=
  ⟨h.os, h.tape, h.output, Nat.le_trans h.size (by simp), fun k hk hs => (Below.heap_alloc _ _ _ (Nat.lt_of_lt_of_le hs h.size)).trans (h.block k hk hs)⟩
theorem Elses.set (h : Elses S a w) {p : Addr} (hp : S p.block ∨ a.heap.size ≤ p.block) (v : Value) : Elses S a (w.setCell p v) :=
  ⟨h.os, h.tape, h.output, Nat.le_trans h.size (by simp [World.setCell]), fun k hk hs =>
    (Below.heap_setCell _ _ _ _ (fun e => hp.elim (fun x => hk (by rw [e]; exact x)) (fun x => by omega))).trans (h.block k hk hs)⟩
theorem Elses.setRow (h : Elses S a w) {g : Nat} (hp : S g ∨ a.heap.size ≤ g) (cs : Array Value) : Elses S a (w.setRow g cs) :=
  ⟨h.os, h.tape, h.output, Nat.le_trans h.size (by simp [World.setRow]), fun k hk hs =>
    (setRow_other w g k cs (fun e => hp.elim (fun x => hk (by rw [e]; exact x)) (fun x => by omega))).trans (h.block k hk hs)⟩
theorem Elses.grown (h : Elses S a w) {w' : World} {row : Option Nat} (hg : w.grownBy w' row) (hr : ∀ k, row = some k → S k ∨ a.heap.size ≤ k) : Elses S a w' :=
  ⟨hg.os.trans h.os, hg.tape.trans h.tape, hg.output.trans h.output, Nat.le_trans h.size hg.size, fun k hk hs =>
    (hg.block k (Nat.lt_of_lt_of_le hs h.size) (fun e => (hr k e.symm).elim hk (fun x => by omega))).trans (h.block k hk hs)⟩
theorem Elses.below (h : Elses S a w) {n : Nat} (hn : n ≤ a.heap.size) (hS : ∀ i, S i → n ≤ i) : Below n a w :=
  ⟨h.os, h.tape, h.output, h.size, fun k hk => h.block k (fun x => by have := hS k x; omega) (by omega)⟩
theorem Elses.of_below {n : Nat} (h : Below n a w) (hn : ∀ i, i < a.heap.size → ¬ S i → i < n) : Elses S a w := ⟨h.os, h.tape, h.output, h.size, fun k hk hs => h.block k (hn k hs hk)⟩
theorem Elses.of_new {a w : World} (h : Below a.heap.size a w) : Elses S a w := .of_below h fun _ h _ => h
theorem Elses.cell (h : Elses S a w) {p : Addr} (hp : p.block < a.heap.size) (hS : ¬ S p.block) : w.cell? p = a.cell? p := World.cell?_of_block (w := a) (h.block p.block hS hp)
theorem Elses.frozen (h : Elses S a w) {p : Addr} (hp : p.block < a.heap.size) (hS : ¬ S p.block) : w.frozen? p = a.frozen? p := World.frozen?_of_block (w := a) (h.block p.block hS hp)
end
/-- Block I is of these cells, none of them frozen. -/
def Blk (w : World) (I : Nat) (c : List Value) (t : TypeId) : Prop := w.heap[I]? = some (.cells c.toArray t (0, 0))
section
variable {w w' : World} {I J : Nat} {c : List Value} {t : TypeId}
theorem Blk.lt (h : Blk w I c t) : I < w.heap.size := (Array.getElem?_eq_some_iff.1 h).1
theorem Blk.cell (h : Blk w I c t) (o : Nat) : w.cell? ⟨I, o, none⟩ = c[o]? := by
  unfold Blk at h
  simp [World.cell?, h]
theorem Blk.frozen (h : Blk w I c t) (o : Nat) : w.frozen? ⟨I, o, none⟩ = false := by
  unfold Blk at h
  simp [World.frozen?, h]
theorem Blk.kept {S : Nat → Prop} (h : Blk w I c t) (hE : Elses S w w') (hI : ¬ S I) : Blk w' I c t := (hE.block I hI h.lt).trans h
theorem Blk.below {B : Nat} (h : Blk w I c t) (hb : Below B w w') (hI : I < B) : Blk w' I c t := (hb.block I hI).trans h
theorem Blk.alloc (h : Blk w I c t) (o : Obj) : Blk (w.alloc o) I c t := (Below.heap_alloc _ _ _ h.lt).trans h
theorem Blk.drew (h : Blk w I c t) : Blk w.drew I c t := h
theorem Blk.set (h : Blk w I c t) (o : Nat) (v : Value) : Blk (w.setCell ⟨I, o, none⟩ v) I (c.set o v) t := by
  unfold Blk at h ⊢
  simp [World.setCell, Array.getElem?_modify, h]
theorem Blk.setElse (h : Blk w I c t) (hJ : I ≠ J) (o : Nat) (v : Value) : Blk (w.setCell ⟨J, o, none⟩ v) I c t := (Below.heap_setCell _ _ _ _ hJ).trans h
theorem Blk.setRow (h : Blk w I c t) (d : List Value) : Blk (w.setRow I d.toArray) I d t := setRow_heap w I _ _ t _ h
theorem Blk.setRowElse (h : Blk w I c t) (hJ : I ≠ J) (d : Array Value) : Blk (w.setRow J d) I c t := (setRow_other w J I d hJ).trans h
theorem Blk.new (w : World) (c : List Value) (t : TypeId) : Blk (w.alloc (.cells c.toArray t)) w.heap.size c t := by
  unfold Blk
  show (w.heap.push _)[w.heap.size]? = _
  simp
theorem Blk.cells (h : Blk w I c t) (o : Nat) (cs : List Value) (hc : (c.drop o).take cs.length = cs) : ∀ j v, cs[j]? = some v → w.cell? ((⟨I, o, none⟩ : Addr).add j) = some v := by
  intro j v hj
  have hadd : (⟨I, o, none⟩ : Addr).add j = ⟨I, o + j, none⟩ := by unfold Addr.add; split <;> simp_all
  rw [hadd, h.cell]
  have hl : j < cs.length := (List.getElem?_eq_some_iff.1 hj).1
  rw [← hc, List.getElem?_take, if_pos hl, List.getElem?_drop] at hj
  exact hj
end
theorem addr_add (I o j : Nat) : (⟨I, o, none⟩ : Addr).add j = ⟨I, o + j, none⟩ := by unfold Addr.add; split <;> simp_all
/-- Bytes as cells. -/
def byteCells (l : List UInt8) : List Value := l.map fun b => .int .u8 (b.toNat : Int)
theorem byteCells_length (l : List UInt8) : (byteCells l).length = l.length := by simp [byteCells]
theorem byteCells_append (l m : List UInt8) : byteCells (l ++ m) = byteCells l ++ byteCells m := by simp [byteCells]
theorem byteCells_take (l : List UInt8) (n : Nat) : byteCells (l.take n) = (byteCells l).take n := by simp [byteCells, List.map_take]
theorem byteCells_drop (l : List UInt8) (n : Nat) : byteCells (l.drop n) = (byteCells l).drop n := by simp [byteCells, List.map_drop]
theorem byteCells_one (l : List UInt8) : ∀ v ∈ byteCells l, v.oneCell' = true := by
  intro v hv
  obtain ⟨b, _, rfl⟩ := List.mem_map.1 hv
  rfl
theorem byteCells_splice (l m : List UInt8) (o : Nat) : byteCells (splice l o m) = splice (byteCells l) o (byteCells m) := by
  unfold splice
  rw [byteCells_append, byteCells_append, byteCells_take, byteCells_drop, byteCells_length]
/-- So many noughts. -/
def zeros (n : Nat) : List UInt8 := List.replicate n 0
theorem zeros_length (n : Nat) : (zeros n).length = n := List.length_replicate
theorem byteCells_get {l : List UInt8} {i : Nat} (h : i < (byteCells l).length) : (byteCells l)[i] = .int .u8 ((l[i]'(by rw [byteCells_length] at h; exact h)).toNat : Int) := List.getElem_map _ (h := h)
theorem zeros_get {n i : Nat} (h : i < (zeros n).length) : (zeros n)[i] = 0 := List.getElem_replicate h
/-- An operation that runs, out of what it runs to. -/
theorem wpList_run {P : Program} {ops : Array Oper} {rest : List Oper} {o : Oper} {a : Act} {w : World} {Q : Exit → Act → World → Prop} (v : Value) (w' : World) (hgd : o.guard = none)
    (hr : (execOp a.eval o).run P w = .ok (.value v) w') (h : wpList P ops Q rest (a.put o.dst v) w') : wpList P ops Q (o :: rest) a w :=
  wpList_plain hgd fun _ hK => by
    unfold Oper.wp
    rw [hr]
    exact hK _ _ h
theorem wpList_runs {P : Program} {ops : Array Oper} {rest : List Oper} {o : Oper} {a : Act} {w : World} {Q : Exit → Act → World → Prop} (w' : World) (hgd : o.guard = none)
    (hr : (execOp a.eval o).run P w = .ok .skip w') (h : wpList P ops Q rest (a.put o.dst undef) w') : wpList P ops Q (o :: rest) a w :=
  wpList_plain hgd fun _ hK => by
    unfold Oper.wp
    rw [hr]
    exact hK _ _ h
theorem wpList_makes {P : Program} {ops : Array Oper} {rest : List Oper} {o : Oper} {a : Act} {w : World} {Q : Exit → Act → World → Prop} (hgd : o.guard = none) (t : TypeId) (l c : Operand) (ho : o.op = .makeSlice t l c)
    (v : Value) (w' : World) (hr : (Instr.makeSlice t (a.eval l) (a.eval c)).run P w = .ok v w') (h : wpList P ops Q rest (a.put o.dst v) w') : wpList P ops Q (o :: rest) a w := by
  refine wpList_plain hgd fun _ hK => ?_
  unfold Oper.wp execOp
  simp only [ho, Sem.run_bind, hr, Result.andThen_ok, Sem.run_pure]
  exact hK _ _ h
/-- A load of a variable of many cells, anywhere in a block. -/
theorem run_load_at {P : Program} (w : World) (I o : Nat) (t ty : TypeId) (c cs : List Value) (d : TypeDesc) (h : Blk w I c t) (hc : (c.drop o).take cs.length = cs)
    (hu : P.underlying ty = some d) (hd : (match d with | .struct _ | .array _ _ => true | _ => false) = true) (hi : (P.info? ty).map (·.size) = some cs.length) :
    (Instr.loadAt ty (.pointer (some ⟨I, o, none⟩))).run P w = .ok (.agg cs.toArray) w := by
  have hl := run_loadCells_list (P := P) w ⟨I, o, none⟩ cs (h.cells o cs hc)
  cases hq : P.info? ty with
  | none => simp [hq] at hi
  | some i =>
    have hs : i.size = cs.length := by simpa [hq] using hi
    have hagg : (isAgg ty).run P w = .ok true w := by
      unfold isAgg
      rw [Sem.run_bind, run_underlying hu w]
      cases d <;> simp_all
    simp [Instr.loadAt, Instr.sureAddr, loadVar, Sem.run_bind, hagg, sizeOf, typeInfo, hq, hs, hl]
/-- A store of a variable of many cells, anywhere in a block. -/
theorem run_store_at {P : Program} (w : World) (I o : Nat) (t ty : TypeId) (c cs : List Value) (h : Blk w I c t) (hfit : o + cs.length ≤ c.length)
    (hi : (P.info? ty).map (·.size) = some cs.length) (h1 : ∀ v ∈ cs, v.oneCell' = true) :
    (Instr.storeAt ty (.pointer (some ⟨I, o, none⟩)) (.agg cs.toArray)).run P w = .ok () (w.setRow I (splice c o cs).toArray) := by
  have hst := run_storeCells_at P I o t cs 0 c.toArray w h (by simpa using hfit) h1
  cases hq : P.info? ty with
  | none => simp [hq] at hi
  | some i =>
    have hs : cs.length = i.size := by simp [hq] at hi; omega
    simp [Instr.storeAt, Instr.sureAddr, storeVar, sizeOf, typeInfo, hq, Value.cells, hs]
    rw [hst]
    simp [splice, hs]
theorem wpList_load_at {P : Program} {ops : Array Oper} {rest : List Oper} {o : Oper} {a : Act} {w : World} {Q : Exit → Act → World → Prop} (hgd : o.guard = none) (ty : TypeId) (x : Operand) (ho : o.op = .load ty x)
    (I k : Nat) (hx : a.eval x = .pointer (some ⟨I, k, none⟩)) (t : TypeId) (c cs : List Value) (d : TypeDesc) (hb : Blk w I c t) (hc : (c.drop k).take cs.length = cs)
    (hu : P.underlying ty = some d) (hd : (match d with | .struct _ | .array _ _ => true | _ => false) = true) (hi : (P.info? ty).map (·.size) = some cs.length)
    (h : wpList P ops Q rest (a.put o.dst (.agg cs.toArray)) w) : wpList P ops Q (o :: rest) a w := by
  refine wpList_run (.agg cs.toArray) w hgd ?_ h
  unfold execOp
  simp only [ho, hx, Sem.run_bind, run_load_at w I k t ty c cs d hb hc hu hd hi, Result.andThen_ok, Sem.run_pure]
theorem wpList_store_at {P : Program} {ops : Array Oper} {rest : List Oper} {o : Oper} {a : Act} {w : World} {Q : Exit → Act → World → Prop} (hgd : o.guard = none) (ty : TypeId) (x y : Operand) (ho : o.op = .store ty x y)
    (I k : Nat) (cs : List Value) (hx : a.eval x = .pointer (some ⟨I, k, none⟩)) (hy : a.eval y = .agg cs.toArray) (t : TypeId) (c : List Value) (hb : Blk w I c t) (hfit : k + cs.length ≤ c.length)
    (hi : (P.info? ty).map (·.size) = some cs.length) (h1 : ∀ v ∈ cs, v.oneCell' = true)
    (h : wpList P ops Q rest (a.put o.dst undef) (w.setRow I (splice c k cs).toArray)) : wpList P ops Q (o :: rest) a w := by
  refine wpList_runs (w.setRow I (splice c k cs).toArray) hgd ?_ h
  unfold execOp
  simp only [ho, hx, hy, Sem.run_bind, run_store_at w I k t ty c cs hb hfit hi h1, Result.andThen_ok, Sem.run_pure]
theorem Blk.addcells {w : World} {I : Nat} {c : List Value} {t : TypeId} (h : Blk w I c t) (o : Nat) (cs : List Value) (hc : (c.drop o).take cs.length = cs) : ∀ j v, cs[j]? = some v → w.cell? ((⟨I, o, none⟩ : Addr).add j) = some v := h.cells o cs hc
/-- A store into the block that was made last. -/
theorem wpList_store_new {P : Program} {ops : Array Oper} {rest : List Oper} {o : Oper} {a : Act} {w : World} {Q : Exit → Act → World → Prop} (hgd : o.guard = none) (ty : TypeId) (x y : Operand) (ho : o.op = .store ty x y)
    (c cs : List Value) (t : TypeId) (hx : a.eval x = .pointer (some ⟨w.heap.size, 0, none⟩)) (hy : a.eval y = .agg cs.toArray) (hl : c.length = cs.length)
    (hi : (P.info? ty).map (·.size) = some cs.length) (h1 : ∀ v ∈ cs, v.oneCell' = true)
    (h : wpList P ops Q rest (a.put o.dst undef) (w.alloc (.cells cs.toArray t))) : wpList P ops Q (o :: rest) a (w.alloc (.cells c.toArray t)) := by
  refine wpList_store_at hgd ty x y ho w.heap.size 0 cs hx hy t c (Blk.new w c t) (by omega) hi h1 ?_
  have e : (w.alloc (.cells c.toArray t)).setRow w.heap.size (splice c 0 cs).toArray = w.alloc (.cells cs.toArray t) := by
    have hs : splice c 0 cs = cs := by unfold splice; rw [List.drop_eq_nil_of_le (by omega)]; simp
    rw [hs, World.setRow_alloc_new]
  rw [e]
  exact h
/-- copy, into whatever block is known whole. -/
theorem wpList_copy_at {P : Program} {w : World} {ops : Array Oper} {rest : List Oper} {o : Oper} {a : Act} {Q : Exit → Act → World → Prop} (hgd : o.guard = none) (d s : Operand) (dT sT : TypeId)
    (ho : o.op = .call { callee := .builtin .copy, args := #[d, s], argTypes := #[dT, sT] }) (elem : TypeId) (hu : P.underlying dT = some (.slice elem)) (hsz : (P.info? elem).map (·.size) = some 1)
    (g off dLen dCap : Nat) (sp : Option Addr) (sLen sCap : Nat) (hd : a.eval d = .slice (some ⟨g, off, none⟩) dLen dCap) (hs : a.eval s = .slice sp sLen sCap)
    (c : List Value) (t : TypeId) (hg : Blk w g c t) (cs : List Value) (hn : cs.length = Nat.min sLen dLen)
    (hsrc : 0 < cs.length → ∃ ad, sp = some ad ∧ ∀ j v, cs[j]? = some v → w.cell? (ad.add j) = some v)
    (hfit : off + cs.length ≤ c.length) (h1 : ∀ v ∈ cs, v.oneCell' = true)
    (h : wpList P ops Q rest (a.put o.dst (goInt cs.length)) (w.setRow g (splice c off cs).toArray)) : wpList P ops Q (o :: rest) a w := by
  by_cases h0 : cs.length = 0
  · obtain rfl : cs = [] := List.eq_nil_of_length_eq_zero h0
    refine wpList_copy_nothing hgd d s dT sT ho elem hu hsz _ sp dLen dCap sLen sCap hd hs (by simpa using hn.symm) ?_
    have e : w.setRow g (splice c off []).toArray = w := by
      have hs : splice c off [] = c := by simp [splice]
      rw [hs, setRow_self w g c.toArray t (0, 0) hg]
    rw [e] at h
    exact h
  · obtain ⟨ad, rfl, hsr⟩ := hsrc (by omega)
    refine wpList_copy_own hgd d s dT sT ho elem hu hsz g off dLen dCap ad sLen sCap hd hs c.toArray t hg cs hn hsr (by simpa using hfit) h1 ?_
    simpa [splice] using h
/-- The same as one step of a region that draws its order. -/
theorem step_copy_at {P : Program} {ops : Array Oper} {o : Oper} {a : Act} {w : World} {K : Act → World → Prop} {Q : Exit → Act → World → Prop} {E : Prop} (hgd : o.guard = none) (d s : Operand) (dT sT : TypeId)
    (ho : o.op = .call { callee := .builtin .copy, args := #[d, s], argTypes := #[dT, sT] }) (elem : TypeId) (hu : P.underlying dT = some (.slice elem)) (hsz : (P.info? elem).map (·.size) = some 1)
    (g off dLen dCap : Nat) (sp : Option Addr) (sLen sCap : Nat) (hd : a.eval d = .slice (some ⟨g, off, none⟩) dLen dCap) (hs : a.eval s = .slice sp sLen sCap)
    (c : List Value) (t : TypeId) (hg : Blk w g c t) (cs : List Value) (hn : cs.length = Nat.min sLen dLen)
    (hsrc : 0 < cs.length → ∃ ad, sp = some ad ∧ ∀ j v, cs[j]? = some v → w.cell? (ad.add j) = some v)
    (hfit : off + cs.length ≤ c.length) (h1 : ∀ v ∈ cs, v.oneCell' = true)
    (h : K (a.put o.dst (goInt cs.length)) (w.setRow g (splice c off cs).toArray)) : if Region.wanted o (yielded ops a.tmps) = true then Oper.wp P o a w K Q else E := by
  have hw : Region.wanted o (yielded ops a.tmps) = true := by simp [Region.wanted, hgd]
  rw [if_pos hw]
  by_cases h0 : cs.length = 0
  · obtain rfl : cs = [] := List.eq_nil_of_length_eq_zero h0
    have hrun := run_copy_none (P := P) w dT sT o.type elem (some ⟨g, off, none⟩) sp dLen dCap sLen sCap hu hsz (by simpa using hn.symm)
    have e : w.setRow g (splice c off []).toArray = w := by
      have hs : splice c off [] = c := by simp [splice]
      rw [hs, setRow_self w g c.toArray t (0, 0) hg]
    rw [e] at h
    unfold Oper.wp
    simp [execOp, ho, resolve, invoke, builtin, hd, hs, hrun, Result.andThen]
    exact h
  · obtain ⟨ad, rfl, hsr⟩ := hsrc (by omega)
    have hrun := run_copy_row (P := P) w dT sT o.type elem g off dLen dCap ad sLen sCap c.toArray t cs hu hsz hg hn hsr (by simpa using hfit) h1
    have e : (c.toArray.toList.take off ++ cs ++ c.toArray.toList.drop (off + cs.length)).toArray = (splice c off cs).toArray := by simp [splice]
    rw [e] at hrun
    unfold Oper.wp
    simp only [execOp, ho, resolve, invoke, builtin, Sem.run_bind, Sem.run_pure, Result.andThen_ok, List.map_toArray, List.map_cons, List.map_nil, hd, hs, hrun]
    exact h
theorem wpList_copy_new {P : Program} {w : World} {ops : Array Oper} {rest : List Oper} {o : Oper} {a : Act} {Q : Exit → Act → World → Prop} (hgd : o.guard = none) (d s : Operand) (dT sT : TypeId)
    (ho : o.op = .call { callee := .builtin .copy, args := #[d, s], argTypes := #[dT, sT] }) (elem : TypeId) (hu : P.underlying dT = some (.slice elem)) (hsz : (P.info? elem).map (·.size) = some 1)
    (off dLen dCap : Nat) (sp : Option Addr) (sLen sCap : Nat) (hd : a.eval d = .slice (some ⟨w.heap.size, off, none⟩) dLen dCap) (hs : a.eval s = .slice sp sLen sCap)
    (c : List Value) (t : TypeId) (cs : List Value) (hn : cs.length = Nat.min sLen dLen)
    (hsrc : 0 < cs.length → ∃ ad, sp = some ad ∧ ∀ j v, cs[j]? = some v → w.cell? (ad.add j) = some v)
    (hfit : off + cs.length ≤ c.length) (h1 : ∀ v ∈ cs, v.oneCell' = true)
    (h : wpList P ops Q rest (a.put o.dst (goInt cs.length)) (w.alloc (.cells (splice c off cs).toArray t))) : wpList P ops Q (o :: rest) a (w.alloc (.cells c.toArray t)) := by
  refine wpList_copy_at hgd d s dT sT ho elem hu hsz w.heap.size off dLen dCap sp sLen sCap hd hs c t (Blk.new w c t) cs hn (fun h0 => ?_) hfit h1 ?_
  · obtain ⟨ad, e, hc⟩ := hsrc h0
    refine ⟨ad, e, fun j v hj => ?_⟩
    have := hc j v hj
    rw [World.cell?_alloc_lt _ _ _ (World.block_lt_of_cell? w _ this)]
    exact this
  · rw [World.setRow_alloc_new]
    exact h
end Go.Proofs.YtbbnjnpbaekfgaaM
/- The plain theory of a log's sectors: what a sector holds, what is found in sectors, what is found when some of them are torn. No program in sight. -/
set_option linter.unusedVariables false
set_option linter.unusedSimpArgs false
namespace Go.Proofs.YtbbnjnpbaekfgaaM
/-- The low j bytes of a number, the highest first. -/
def be : Nat → Nat → List UInt8
  | 0, _ => []
  | j + 1, n => UInt8.ofNat (n / 256 ^ j) :: be j n
theorem be_length : ∀ j n, (be j n).length = j
  | 0, _ => rfl
  | j + 1, n => by simp [be, be_length j n]
theorem ofNat_eq {a b : Nat} (h : UInt8.ofNat a = UInt8.ofNat b) : a % 256 = b % 256 := by
  have := congrArg UInt8.toNat h
  simpa using this
theorem be_inj : ∀ j a b, be j a = be j b → a % 256 ^ j = b % 256 ^ j
  | 0, a, b, _ => by simp [Nat.mod_one]
  | j + 1, a, b, h => by
    simp only [be, List.cons.injEq] at h
    have h1 := ofNat_eq h.1
    have h2 := be_inj j a b h.2
    have ea := Nat.mod_mul (x := a) (a := 256 ^ j) (b := 256)
    have eb := Nat.mod_mul (x := b) (a := 256 ^ j) (b := 256)
    rw [Nat.pow_succ, ea, eb, h1, h2]
theorem be_zero : ∀ j, be j 0 = zeros j
  | 0 => rfl
  | j + 1 => by
    show UInt8.ofNat (0 / 256 ^ j) :: be j 0 = _
    rw [be_zero j, Nat.zero_div]
    rfl
theorem be8_ne (a : Nat) (h : a < 1000000) : be 8 (a + 1) ≠ zeros 8 := by
  intro e
  rw [← be_zero 8] at e
  have := be_inj 8 _ _ e
  rw [Nat.mod_eq_of_lt (by omega), Nat.mod_eq_of_lt (by omega)] at this
  omega
/-- A sector of a record. -/
def secF (a : Nat) (last : Bool) (part : List UInt8) : List UInt8 :=
  be 8 (a + 1) ++ ((if last then 1 else 0) :: (be 2 part.length ++ (part ++ (zeros (493 - part.length) ++ be 8 (a + 1)))))
theorem secF_length (a : Nat) (last : Bool) (part : List UInt8) (h : part.length ≤ 493) : (secF a last part).length = 512 := by
  simp only [secF, List.length_append, List.length_cons, be_length, zeros_length]
  omega
theorem secF_head (a : Nat) (last : Bool) (part : List UInt8) : (secF a last part).take 8 = be 8 (a + 1) := by
  unfold secF
  rw [List.take_append_of_le_length (by rw [be_length]; omega), List.take_of_length_le (by rw [be_length]; omega)]
theorem secF_drop8 (a : Nat) (last : Bool) (part : List UInt8) : (secF a last part).drop 8 = (if last then 1 else 0) :: (be 2 part.length ++ (part ++ (zeros (493 - part.length) ++ be 8 (a + 1)))) := by
  unfold secF
  rw [List.drop_append_of_le_length (by rw [be_length]; omega), List.drop_eq_nil_of_le (by rw [be_length]; omega), List.nil_append]
theorem secF_tail (a : Nat) (last : Bool) (part : List UInt8) (h : part.length ≤ 493) : (secF a last part).drop 504 = be 8 (a + 1) := by
  have e : secF a last part = (be 8 (a + 1) ++ ((if last then 1 else 0) :: (be 2 part.length ++ (part ++ zeros (493 - part.length))))) ++ be 8 (a + 1) := by
    unfold secF
    simp
  rw [e, List.drop_append_of_le_length (by simp only [List.length_append, List.length_cons, be_length, zeros_length]; omega), List.drop_eq_nil_of_le (by simp only [List.length_append, List.length_cons, be_length, zeros_length]; omega), List.nil_append]
/-- A sector's flag, and its number of bytes. -/
def flagOf (s : List UInt8) : UInt8 := s.getD 8 0
def sizeOfS (s : List UInt8) : Nat := (s.getD 9 0).toNat * 256 + (s.getD 10 0).toNat
/-- What a sector has of a record. -/
def readS (a : Nat) (s : List UInt8) : Option (List UInt8 × Bool) :=
  if 493 < sizeOfS s ∨ 1 < (flagOf s).toNat ∨ ((flagOf s).toNat = 0 ∧ sizeOfS s < 493) then none
  else if secF a (flagOf s == 1) ((s.drop 11).take (sizeOfS s)) = s then some ((s.drop 11).take (sizeOfS s), flagOf s == 1) else none
theorem getD_drop8 (s : List UInt8) (i : Nat) : (s.drop 8).getD i 0 = s.getD (8 + i) 0 := by
  rw [List.getD_eq_getElem?_getD, List.getElem?_drop, ← List.getD_eq_getElem?_getD]
theorem flag_secF (a : Nat) (last : Bool) (part : List UInt8) : flagOf (secF a last part) = if last then 1 else 0 := by
  have h := getD_drop8 (secF a last part) 0
  rw [secF_drop8] at h
  exact h.symm
theorem be2_toNat (m : Nat) (h : m ≤ 493) : ((UInt8.ofNat (m / 256 ^ 1)).toNat) * 256 + (UInt8.ofNat (m / 256 ^ 0)).toNat = m := by
  simp
  omega
theorem size_secF (a : Nat) (last : Bool) (part : List UInt8) (h : part.length ≤ 493) : sizeOfS (secF a last part) = part.length := by
  have h1 := getD_drop8 (secF a last part) 1
  have h2 := getD_drop8 (secF a last part) 2
  rw [secF_drop8] at h1 h2
  unfold sizeOfS
  rw [← h1, ← h2]
  exact be2_toNat _ h
theorem part_secF (a : Nat) (last : Bool) (part : List UInt8) : ((secF a last part).drop 11).take part.length = part := by
  have h : (secF a last part).drop 11 = part ++ (zeros (493 - part.length) ++ be 8 (a + 1)) := by
    have : (secF a last part).drop 11 = ((secF a last part).drop 8).drop 3 := by rw [List.drop_drop]
    rw [this, secF_drop8]
    rfl
  rw [h, List.take_append_of_le_length (Nat.le_refl _), List.take_length]
theorem readS_secF (a : Nat) (last : Bool) (part : List UInt8) (h : part.length ≤ 493) (hl : last = false → part.length = 493) : readS a (secF a last part) = some (part, last) := by
  have hfl : (if last = true then (1 : UInt8) else 0) = 1 ↔ last = true := by cases last <;> simp
  have hb : ((if last = true then (1 : UInt8) else 0) == 1) = last := by cases last <;> rfl
  unfold readS
  rw [flag_secF, size_secF a last part h, part_secF, hb, if_neg, if_pos rfl]
  cases last
  · simp
    have := hl rfl
    omega
  · simp
    omega
theorem readS_some {a : Nat} {s p : List UInt8} {l : Bool} (h : readS a s = some (p, l)) : s = secF a l p ∧ p.length ≤ 493 ∧ (l = false → p.length = 493 ∨ s.length < 512) := by
  unfold readS at h
  split at h
  · cases h
  · rename_i hn
    split at h
    · rename_i he
      cases h
      refine ⟨he.symm, ?_, ?_⟩
      · rw [List.length_take]
        omega
      · intro hf
        rw [List.length_take, List.length_drop]
        have : ¬ ((flagOf s).toNat = 0 ∧ sizeOfS s < 493) := fun x => hn (.inr (.inr x))
        have hz : (flagOf s).toNat = 0 := by
          have h1 : ¬ 1 < (flagOf s).toNat := fun x => hn (.inr (.inl x))
          have h2 : (flagOf s).toNat ≠ 1 := by
            intro e
            have : flagOf s = 1 := by
              apply UInt8.toNat_inj.1
              rw [e]
              rfl
            rw [this] at hf
            exact absurd hf (by decide)
          omega
        omega
    · cases h
theorem readS_ne {a : Nat} {s p : List UInt8} {l : Bool} (h : readS a s = some (p, l)) : s.take 8 = be 8 (a + 1) ∧ s.drop 504 = be 8 (a + 1) := by
  obtain ⟨e, hp, _⟩ := readS_some h
  constructor
  · rw [e, secF_head]
  · rw [e, secF_tail _ _ _ hp]
theorem readS_zeros (a : Nat) (ha : a < 1000000) : readS a (zeros 512) = none := by
  cases h : readS a (zeros 512) with
  | none => rfl
  | some x =>
    obtain ⟨p, l⟩ := x
    have := (readS_ne h).1
    exact absurd this.symm (be8_ne a ha)
/-- A sector of which a front was written, over noughts. -/
def torn (s : List UInt8) (c : Nat) : List UInt8 := s.take c ++ zeros (512 - c)
theorem torn_length {s : List UInt8} (h : s.length = 512) (c : Nat) (hc : c ≤ 512) : (torn s c).length = 512 := by
  unfold torn
  rw [List.length_append, List.length_take, zeros_length]
  omega
theorem take_drop_eq {α : Type} {x y : List α} (n : Nat) (h1 : x.take n = y.take n) (h2 : x.drop n = y.drop n) : x = y := by
  rw [← List.take_append_drop n x, ← List.take_append_drop n y, h1, h2]
/-- A torn sector of a record is not whole, unless it is as it would have been. -/
theorem torn_read (a : Nat) (ha : a < 1000000) (last : Bool) (part : List UInt8) (hp : part.length ≤ 493) (c : Nat) (hc : c ≤ 512) : torn (secF a last part) c = secF a last part ∨ readS a (torn (secF a last part) c) = none := by
  have hl := secF_length a last part hp
  cases h : readS a (torn (secF a last part) c) with
  | none => exact .inr rfl
  | some x =>
    left
    obtain ⟨p, l⟩ := x
    have ht := (readS_ne h).2
    have hlc : ((secF a last part).take c).length = c := by rw [List.length_take]; omega
    by_cases h5 : c ≤ 504
    · exfalso
      unfold torn at ht
      rw [List.drop_append, List.drop_eq_nil_of_le (by omega), List.nil_append, hlc] at ht
      unfold zeros at ht
      rw [List.drop_replicate, show 512 - c - (504 - c) = 8 by omega] at ht
      exact be8_ne a ha ht.symm
    · refine take_drop_eq 504 ?_ (ht.trans (secF_tail _ _ _ hp).symm)
      unfold torn
      rw [List.take_append_of_le_length (by omega), List.take_take, Nat.min_eq_left (by omega)]
/-- Noughts over a front of a torn sector: it is as it was, or not whole. -/
theorem mend_read (a : Nat) (ha : a < 1000000) (last : Bool) (part : List UInt8) (hp : part.length ≤ 493) (m : Nat) (hm : m ≤ 512) (c : Nat) (hc : c ≤ 512) (X : List UInt8) (hX : X = torn (secF a last part) m) :
    zeros c ++ X.drop c = X ∨ readS a (zeros c ++ X.drop c) = none := by
  have hl := secF_length a last part hp
  have hXl : X.length = 512 := by rw [hX]; exact torn_length hl m hm
  cases h : readS a (zeros c ++ X.drop c) with
  | none => exact .inr rfl
  | some x =>
    left
    obtain ⟨p, l⟩ := x
    have ht := (readS_ne h).1
    have hc8 : c < 8 := by
      by_cases h8 : c < 8
      · exact h8
      · exfalso
        rw [List.take_append_of_le_length (by rw [zeros_length]; omega)] at ht
        unfold zeros at ht
        rw [List.take_replicate, Nat.min_eq_left (by omega)] at ht
        exact be8_ne a ha ht.symm
    have hz : ∀ i, i < c → X[i]? = some 0 := by
      intro i hi
      have h1 : (be 8 (a + 1))[i]? = some 0 := by
        rw [← ht, List.getElem?_take, if_pos (by omega), List.getElem?_append_left (by rw [zeros_length]; exact hi)]
        unfold zeros
        rw [List.getElem?_replicate, if_pos hi]
      rw [hX]
      unfold torn
      by_cases him : i < m
      · rw [List.getElem?_append_left (by rw [List.length_take]; omega), List.getElem?_take, if_pos him]
        have h2 := secF_head a last part
        rw [← h2, List.getElem?_take, if_pos (by omega)] at h1
        exact h1
      · rw [List.getElem?_append_right (by rw [List.length_take]; omega), List.length_take, hl]
        unfold zeros
        rw [List.getElem?_replicate, if_pos (by omega)]
    apply List.ext_getElem?
    intro i
    by_cases hi : i < c
    · rw [hz i hi, List.getElem?_append_left (by rw [zeros_length]; exact hi)]
      unfold zeros
      rw [List.getElem?_replicate, if_pos hi]
    · rw [List.getElem?_append_right (by rw [zeros_length]; omega), zeros_length, List.getElem?_drop]
      congr 1
      omega
end Go.Proofs.YtbbnjnpbaekfgaaM
/- The plain theory of a log's sectors, second part: frames of records, what a scan finds, whole and torn. -/
set_option linter.unusedVariables false
set_option linter.unusedSimpArgs false
namespace Go.Proofs.YtbbnjnpbaekfgaaM
/-- How many sectors a record of m bytes takes. -/
def needN (m : Nat) : Nat := max 1 ((m + 492) / 493)
theorem needN_pos (m : Nat) : 1 ≤ needN m := Nat.le_max_left _ _
theorem needN_le (m : Nat) (h : m ≤ 4400) : needN m ≤ 9 := by unfold needN; omega
/-- A record's i-th part. -/
def partOf (r : List UInt8) (i : Nat) : List UInt8 := (r.drop (i * 493)).take 493
theorem partOf_le (r : List UInt8) (i : Nat) : (partOf r i).length ≤ 493 := by unfold partOf; rw [List.length_take]; omega
theorem partOf_full (r : List UInt8) (i : Nat) (h : i + 1 < needN r.length) : (partOf r i).length = 493 := by
  unfold partOf
  rw [List.length_take, List.length_drop]
  unfold needN at h
  omega
theorem take_part (r : List UInt8) (i : Nat) : r.take (i * 493) ++ partOf r i = r.take ((i + 1) * 493) := by
  unfold partOf
  rw [show (i + 1) * 493 = i * 493 + 493 by omega, List.take_add]
theorem take_need (r : List UInt8) : r.take (needN r.length * 493) = r := List.take_of_length_le (by unfold needN; omega)
/-- The i-th sector of a record that begins at a. -/
def frameI (a : Nat) (r : List UInt8) (i : Nat) : List UInt8 := secF (a + i) (i + 1 == needN r.length) (partOf r i)
theorem frameI_length (a : Nat) (r : List UInt8) (i : Nat) : (frameI a r i).length = 512 := secF_length _ _ _ (partOf_le r i)
/-- The sectors of a record that begins at a. -/
def frameS (a : Nat) (r : List UInt8) : List (List UInt8) := (List.range (needN r.length)).map (frameI a r)
theorem frameS_length (a : Nat) (r : List UInt8) : (frameS a r).length = needN r.length := by simp [frameS]
theorem frameS_get (a : Nat) (r : List UInt8) (i : Nat) (h : i < needN r.length) : (frameS a r)[i]? = some (frameI a r i) := by
  unfold frameS
  rw [List.getElem?_map, List.getElem?_range h]
  rfl
theorem read_frameI (a : Nat) (r : List UInt8) (i : Nat) (h : i < needN r.length) : readS (a + i) (frameI a r i) = some (partOf r i, i + 1 == needN r.length) := by
  refine readS_secF _ _ _ (partOf_le r i) fun hl => partOf_full r i ?_
  have : ¬ (i + 1 = needN r.length) := by simpa using hl
  omega
/-- What a scan has found so far. -/
structure Found where
  recs : List (List UInt8)
  acc : List UInt8
  fin : Nat
/-- One sector more. -/
def Found.step (s : Found) (a : Nat) (x : List UInt8 × Bool) : Found := if x.2 then ⟨s.recs ++ [s.acc ++ x.1], [], a + 1⟩ else ⟨s.recs, s.acc ++ x.1, s.fin⟩
/-- What is found in sectors from the a-th on. -/
def scanL : Nat → List (List UInt8) → Found → Found
  | _, [], s => s
  | a, x :: r, s => match readS a x with
    | none => s
    | some y => scanL (a + 1) r (s.step a y)
theorem scanL_bad {a : Nat} {x : List UInt8} (h : readS a x = none) (r : List (List UInt8)) (s : Found) : scanL a (x :: r) s = s := by
  simp [scanL, h]
theorem scanL_good {a : Nat} {x : List UInt8} {y : List UInt8 × Bool} (h : readS a x = some y) (r : List (List UInt8)) (s : Found) : scanL a (x :: r) s = scanL (a + 1) r (s.step a y) := by
  simp [scanL, h]
/-- The first i sectors of a record, not its last. -/
theorem scan_part (a : Nat) (r : List UInt8) (R : List (List UInt8)) (e : Nat) (T : List (List UInt8)) : ∀ i, i < needN r.length → scanL a ((List.range i).map (frameI a r) ++ T) ⟨R, [], e⟩ = scanL (a + i) T ⟨R, r.take (i * 493), e⟩
  | 0, _ => by simp
  | i + 1, h => by
    rw [List.range_succ, List.map_append, List.append_assoc, scan_part a r R e _ i (by omega)]
    show scanL (a + i) (frameI a r i :: T) _ = _
    have hb : (i + 1 == needN r.length) = false := by rw [beq_eq_false_iff_ne]; omega
    rw [scanL_good (read_frameI a r i (by omega)), hb]
    show scanL (a + i + 1) T ⟨R, r.take (i * 493) ++ partOf r i, e⟩ = _
    rw [take_part]
    rfl
/-- A whole record. -/
theorem scan_rec (a : Nat) (r : List UInt8) (R : List (List UInt8)) (e : Nat) (T : List (List UInt8)) : scanL a (frameS a r ++ T) ⟨R, [], e⟩ = scanL (a + needN r.length) T ⟨R ++ [r], [], a + needN r.length⟩ := by
  have hn := needN_pos r.length
  obtain ⟨i, hi⟩ : ∃ i, needN r.length = i + 1 := ⟨needN r.length - 1, by omega⟩
  unfold frameS
  rw [hi, List.range_succ, List.map_append, List.append_assoc, scan_part a r R e _ i (by omega)]
  show scanL (a + i) (frameI a r i :: T) _ = _
  have hb : (i + 1 == needN r.length) = true := by rw [beq_iff_eq]; omega
  rw [scanL_good (read_frameI a r i (by omega)), hb]
  show scanL (a + i + 1) T ⟨R ++ [r.take (i * 493) ++ partOf r i], [], a + i + 1⟩ = _
  rw [take_part, ← hi, take_need, hi]
  rfl
/-- The sectors of records, one behind the other, from a on. -/
def framesF : Nat → List (List UInt8) → List (List UInt8)
  | _, [] => []
  | a, r :: rs => frameS a r ++ framesF (a + needN r.length) rs
/-- How many sectors records take. -/
def spanN : List (List UInt8) → Nat
  | [] => 0
  | r :: rs => needN r.length + spanN rs
theorem framesF_length : ∀ (rs : List (List UInt8)) (a : Nat), (framesF a rs).length = spanN rs
  | [], _ => rfl
  | r :: rs, a => by simp [framesF, spanN, frameS_length, framesF_length rs]
theorem spanN_append : ∀ (xs ys : List (List UInt8)), spanN (xs ++ ys) = spanN xs + spanN ys
  | [], ys => by simp [spanN]
  | x :: xs, ys => by simp [spanN, spanN_append xs ys]; omega
theorem framesF_append : ∀ (xs ys : List (List UInt8)) (a : Nat), framesF a (xs ++ ys) = framesF a xs ++ framesF (a + spanN xs) ys
  | [], ys, a => by simp [framesF, spanN]
  | x :: xs, ys, a => by
    simp only [List.cons_append, framesF, spanN, framesF_append xs ys, List.append_assoc]
    rw [Nat.add_assoc]
theorem framesF_one (a : Nat) (r : List UInt8) : framesF a [r] = frameS a r := by simp [framesF]
/-- Each sector of records is a sector as it should be. -/
theorem framesF_get : ∀ (rs : List (List UInt8)) (a i : Nat) (x : List UInt8), (framesF a rs)[i]? = some x → ∃ l p, x = secF (a + i) l p ∧ p.length ≤ 493
  | [], a, i, x, h => by simp [framesF] at h
  | r :: rs, a, i, x, h => by
    unfold framesF at h
    by_cases hi : i < needN r.length
    · rw [List.getElem?_append_left (by rw [frameS_length]; exact hi), frameS_get a r i hi] at h
      cases h
      exact ⟨_, _, rfl, partOf_le r i⟩
    · rw [List.getElem?_append_right (by rw [frameS_length]; omega), frameS_length] at h
      obtain ⟨l, p, e, hp⟩ := framesF_get rs _ _ _ h
      exact ⟨l, p, by rw [e]; congr 1; omega, hp⟩
/-- Whole records are found, and then what follows. -/
theorem scan_recs : ∀ (rs R : List (List UInt8)) (a : Nat) (T : List (List UInt8)), scanL a (framesF a rs ++ T) ⟨R, [], a⟩ = scanL (a + spanN rs) T ⟨R ++ rs, [], a + spanN rs⟩
  | [], R, a, T => by simp [framesF, spanN]
  | r :: rs, R, a, T => by
    unfold framesF spanN
    rw [List.append_assoc, scan_rec, scan_recs rs (R ++ [r]) _ T]
    rw [List.append_assoc, Nat.add_assoc]
    rfl
/-- Two lists of sectors: each of the second is the first's, or is not whole at its place. -/
def OrBad : Nat → List (List UInt8) → List (List UInt8) → Prop
  | _, [], [] => True
  | a, x :: xs, y :: ys => (y = x ∨ readS a y = none) ∧ OrBad (a + 1) xs ys
  | _, _, _ => False
theorem OrBad.of_get : ∀ (xs ys : List (List UInt8)) (a : Nat), xs.length = ys.length → (∀ i x y, xs[i]? = some x → ys[i]? = some y → y = x ∨ readS (a + i) y = none) → OrBad a xs ys
  | [], [], _, _, _ => trivial
  | [], _ :: _, _, h, _ => by simp at h
  | _ :: _, [], _, h, _ => by simp at h
  | x :: xs, y :: ys, a, h, hh => ⟨hh 0 x y rfl rfl, OrBad.of_get xs ys (a + 1) (by simpa using h) fun i x' y' h1 h2 => by
      have := hh (i + 1) x' y' h1 h2
      rw [show a + 1 + i = a + (i + 1) by omega]
      exact this⟩
theorem step_recs_le (s : Found) (a : Nat) (y : List UInt8 × Bool) : s.recs.length ≤ (s.step a y).recs.length := by
  unfold Found.step
  split
  · simp
  · exact Nat.le_refl _
theorem scanL_le : ∀ (xs : List (List UInt8)) (a : Nat) (s : Found), s.recs.length ≤ (scanL a xs s).recs.length
  | [], _, s => Nat.le_refl _
  | x :: xs, a, s => by
    cases h : readS a x with
    | none => rw [scanL_bad h]; exact Nat.le_refl _
    | some y => rw [scanL_good h]; exact Nat.le_trans (step_recs_le s a y) (scanL_le xs _ _)
/-- Where no record ends among sectors, none ends among those of which some aren't whole any more. -/
theorem orBad_none : ∀ (xs ys : List (List UInt8)) (a : Nat) (s : Found), OrBad a xs ys → (scanL a xs s).recs.length = s.recs.length → (scanL a ys s).recs = s.recs ∧ (scanL a ys s).fin = s.fin
  | [], [], _, s, _, _ => ⟨rfl, rfl⟩
  | [], _ :: _, _, _, h, _ => h.elim
  | _ :: _, [], _, _, h, _ => h.elim
  | x :: xs, y :: ys, a, s, h, hl => by
    rcases h.1 with rfl | hb
    · cases hr : readS a y with
      | none => rw [scanL_bad hr]; exact ⟨rfl, rfl⟩
      | some z =>
        rw [scanL_good hr] at hl ⊢
        have h1 := scanL_le xs (a + 1) (s.step a z)
        have h2 := step_recs_le s a z
        have h3 : (s.step a z).recs.length = s.recs.length := by omega
        have hz : z.2 = false := by
          cases hz : z.2 with
          | false => rfl
          | true => unfold Found.step at h3; rw [if_pos hz] at h3; simp at h3
        have he : (s.step a z).recs = s.recs ∧ (s.step a z).fin = s.fin := by unfold Found.step; rw [hz]; exact ⟨rfl, rfl⟩
        have := orBad_none xs ys (a + 1) (s.step a z) h.2 (by omega)
        exact ⟨this.1.trans he.1, this.2.trans he.2⟩
    · rw [scanL_bad hb]
      exact ⟨rfl, rfl⟩
/-- How many records are whole among such sectors. -/
def wholeN : Nat → List (List UInt8) → List (List UInt8) → Nat
  | _, [], _ => 0
  | a, r :: rs, ys => if ys.take (needN r.length) = frameS a r then wholeN (a + needN r.length) rs (ys.drop (needN r.length)) + 1 else 0
theorem wholeN_le : ∀ (rs : List (List UInt8)) (a : Nat) (ys : List (List UInt8)), wholeN a rs ys ≤ rs.length
  | [], _, _ => Nat.le_refl _
  | r :: rs, a, ys => by
    unfold wholeN
    split
    · have := wholeN_le rs (a + needN r.length) (ys.drop (needN r.length))
      simp only [List.length_cons]
      omega
    · simp
theorem orBad_split : ∀ (xs xs' ys : List (List UInt8)) (a : Nat), OrBad a (xs ++ xs') ys → OrBad a xs (ys.take xs.length) ∧ OrBad (a + xs.length) xs' (ys.drop xs.length)
  | [], xs', ys, a, h => ⟨trivial, by simpa using h⟩
  | x :: xs, xs', [], a, h => h.elim
  | x :: xs, xs', y :: ys, a, h => by
    have := orBad_split xs xs' ys (a + 1) h.2
    refine ⟨⟨h.1, this.1⟩, ?_⟩
    simp only [List.length_cons, List.drop_succ_cons]
    rw [show a + (xs.length + 1) = a + 1 + xs.length by omega]
    exact this.2
/-- Sectors of which one isn't whole: the scan stops there. -/
theorem orBad_stop : ∀ (xs ys T : List (List UInt8)) (a : Nat) (s : Found), OrBad a xs ys → ys ≠ xs → scanL a (ys ++ T) s = scanL a ys s
  | [], [], _, _, _, _, h => absurd rfl h
  | [], _ :: _, _, _, _, h, _ => h.elim
  | _ :: _, [], _, _, _, h, _ => h.elim
  | x :: xs, y :: ys, T, a, s, h, hne => by
    show scanL a (y :: (ys ++ T)) s = _
    cases hr : readS a y with
    | none => rw [scanL_bad hr, scanL_bad hr]
    | some z =>
      rw [scanL_good hr, scanL_good hr]
      rcases h.1 with rfl | hb
      · exact orBad_stop xs ys T (a + 1) _ h.2 fun e => hne (by rw [e])
      · rw [hr] at hb
        cases hb
theorem orBad_first (a : Nat) (r : List UInt8) (ys : List (List UInt8)) (R : List (List UInt8)) (e : Nat) (h : OrBad a (frameS a r) ys) (hne : ys ≠ frameS a r) : (scanL a ys ⟨R, [], e⟩).recs = R ∧ (scanL a ys ⟨R, [], e⟩).fin = e := by
  have hn := needN_pos r.length
  obtain ⟨i, hi⟩ : ∃ i, needN r.length = i + 1 := ⟨needN r.length - 1, by omega⟩
  have hf : frameS a r = (List.range i).map (frameI a r) ++ [frameI a r i] := by unfold frameS; rw [hi, List.range_succ, List.map_append]; rfl
  rw [hf] at h hne
  obtain ⟨h1, h2⟩ := orBad_split _ _ _ _ h
  have hl : ((List.range i).map (frameI a r)).length = i := by simp
  rw [hl] at h1 h2
  have hsc : (scanL a ((List.range i).map (frameI a r)) ⟨R, [], e⟩) = ⟨R, r.take (i * 493), e⟩ := by
    have := scan_part a r R e [] i (by omega)
    rw [List.append_nil] at this
    rw [this]
    rfl
  by_cases hq : ys.take i = (List.range i).map (frameI a r)
  · have hy : ys = (List.range i).map (frameI a r) ++ ys.drop i := by rw [← hq, List.take_append_drop]
    rw [hy, scan_part a r R e _ i (by omega)]
    cases hd : ys.drop i with
    | nil => exact ⟨rfl, rfl⟩
    | cons y t =>
      rw [hd] at h2
      cases t with
      | cons _ _ => exact h2.2.elim
      | nil =>
        rcases h2.1 with rfl | hb
        · exact absurd (by rw [hy, hd]) hne
        · rw [scanL_bad hb]
          exact ⟨rfl, rfl⟩
  · have hy : ys = ys.take i ++ ys.drop i := (List.take_append_drop i ys).symm
    rw [hy, orBad_stop _ _ _ _ _ h1 hq]
    exact orBad_none _ _ _ ⟨R, [], e⟩ h1 (by rw [hsc])
/-- What is found where some sectors of records aren't whole: the first so many records. -/
theorem scan_orBad : ∀ (rs R ys T : List (List UInt8)) (a : Nat), OrBad a (framesF a rs) ys → (∀ s, scanL (a + spanN rs) T s = s) →
    (scanL a (ys ++ T) ⟨R, [], a⟩).recs = R ++ rs.take (wholeN a rs ys) ∧ (scanL a (ys ++ T) ⟨R, [], a⟩).fin = a + spanN (rs.take (wholeN a rs ys))
  | [], R, [], T, a, _, hT => by
    have := hT ⟨R, [], a⟩
    unfold spanN at this
    rw [Nat.add_zero] at this
    rw [List.nil_append, this]
    simp [wholeN, spanN]
  | [], R, y :: ys, T, a, h, _ => h.elim
  | r :: rs, R, ys, T, a, h, hT => by
    unfold framesF at h
    obtain ⟨h1, h2⟩ := orBad_split _ _ _ _ h
    rw [frameS_length] at h1 h2
    have hy : ys = ys.take (needN r.length) ++ ys.drop (needN r.length) := (List.take_append_drop _ ys).symm
    unfold wholeN
    by_cases hq : ys.take (needN r.length) = frameS a r
    · rw [if_pos hq]
      have ih := scan_orBad rs (R ++ [r]) (ys.drop (needN r.length)) T (a + needN r.length) h2 (by
        intro s
        rw [Nat.add_assoc]
        exact hT s)
      have hs : scanL a (ys ++ T) ⟨R, [], a⟩ = scanL (a + needN r.length) (ys.drop (needN r.length) ++ T) ⟨R ++ [r], [], a + needN r.length⟩ := by
        rw [← scan_rec a r R a, ← List.append_assoc, ← hq, List.take_append_drop]
      rw [hs, ih.1, ih.2]
      constructor
      · rw [List.take_succ_cons, List.append_assoc]
        rfl
      · rw [List.take_succ_cons, Nat.add_assoc]
        rfl
    · have hs : scanL a (ys ++ T) ⟨R, [], a⟩ = scanL a (ys.take (needN r.length)) ⟨R, [], a⟩ := by
        rw [← orBad_stop _ _ (ys.drop (needN r.length) ++ T) _ _ h1 hq, ← List.append_assoc, List.take_append_drop]
      have := orBad_first a r _ R a h1 hq
      rw [if_neg hq, hs, this.1, this.2]
      simp [spanN]
theorem scan_zeros (a : Nat) (ha : a < 1000000) (m : Nat) (s : Found) : scanL a (List.replicate m (zeros 512)) s = s := by
  cases m with
  | zero => rfl
  | succ m => rw [List.replicate_succ, scanL_bad (readS_zeros a ha)]
end Go.Proofs.YtbbnjnpbaekfgaaM
/- The contracts of a disk's small methods: how a disk lies in memory; is, has, drop, Sectors, Pending, New. -/
set_option linter.unusedVariables false
set_option linter.unusedSimpArgs false
namespace Go.Proofs.YtbbnjnpbaekfgaaM
open Go.RowKit
/-- What is pending, as cells. -/
def encP (P : List (Nat × List UInt8)) : List Value := P.flatMap fun x => .int .i64 (x.1 : Int) :: byteCells x.2
/-- A disk of n sectors at block p, its bytes in block g, what is pending under v. -/
structure DiskAt (w : World) (B p g n : Nat) (v : Value) (D : List UInt8) (P : List (Nat × List UInt8)) : Prop where
  blk : Blk w p [.slice (some ⟨g, 0, none⟩) n n, v] 79
  dur : Blk w g (byteCells D) 92
  pend : w.ownsRow B 94 513 v P.length (encP P)
  len : D.length = n * 512
  pos : 0 < n
  top : n ≤ 1024
  ok : ∀ x ∈ P, x.1 < n ∧ x.2.length = 512
  few : P.length ≤ 100000
  bp : B ≤ p
  bg : B ≤ g
  pg : p ≠ g
  vp : v.ownBlock ≠ some p
  vg : v.ownBlock ≠ some g
/-- The blocks that are a disk's own. -/
def Own (p g : Nat) (v : Value) (k : Nat) : Prop := k = p ∨ k = g ∨ v.ownBlock = some k
theorem ownsRow_kept {w w' : World} {S : Nat → Prop} {B e size n : Nat} {v : Value} {xs : List Value} (h : w.ownsRow B e size v n xs) (hE : Elses S w w') (hv : ∀ k, v.ownBlock = some k → ¬ S k) : w'.ownsRow B e size v n xs := by
  refine ⟨h.1, ?_⟩
  rcases h.2 with h2 | ⟨g, cap, cur, rfl, hb, hg, r⟩
  · exact .inl h2
  · have hl : g < w.heap.size := (Array.getElem?_eq_some_iff.1 hg).1
    exact .inr ⟨g, cap, cur, rfl, hb, (hE.block g (hv g rfl) hl).trans hg, r⟩
theorem DiskAt.kept {w w' : World} {B p g n : Nat} {v : Value} {D : List UInt8} {P : List (Nat × List UInt8)} {S : Nat → Prop} (h : DiskAt w B p g n v D P) (hE : Elses S w w') (hS : ∀ k, Own p g v k → ¬ S k) : DiskAt w' B p g n v D P :=
  { h with blk := h.blk.kept hE (hS p (.inl rfl)), dur := h.dur.kept hE (hS g (.inr (.inl rfl))), pend := ownsRow_kept h.pend hE fun k hk => hS k (.inr (.inr hk)) }
theorem DiskAt.drew {w : World} {B p g n : Nat} {v : Value} {D : List UInt8} {P : List (Nat × List UInt8)} (h : DiskAt w B p g n v D P) : DiskAt w.drew B p g n v D P :=
  h.kept (S := fun _ => False) ((Elses.refl _ w).drew) fun _ _ h => h
theorem DiskAt.alloc {w : World} {B p g n : Nat} {v : Value} {D : List UInt8} {P : List (Nat × List UInt8)} (h : DiskAt w B p g n v D P) (o : Obj) : DiskAt (w.alloc o) B p g n v D P :=
  h.kept (S := fun _ => False) ((Elses.refl _ w).alloc o) fun _ _ h => h
theorem DiskAt.c0 {w : World} {B p g n : Nat} {v : Value} {D : List UInt8} {P : List (Nat × List UInt8)} (h : DiskAt w B p g n v D P) : w.cell? ⟨p, 0, none⟩ = some (.slice (some ⟨g, 0, none⟩) n n) := h.blk.cell 0
theorem DiskAt.c1 {w : World} {B p g n : Nat} {v : Value} {D : List UInt8} {P : List (Nat × List UInt8)} (h : DiskAt w B p g n v D P) : w.cell? ⟨p, 1, none⟩ = some v := h.blk.cell 1
theorem DiskAt.lt {w : World} {B p g n : Nat} {v : Value} {D : List UInt8} {P : List (Nat × List UInt8)} (h : DiskAt w B p g n v D P) : ∀ k, Own p g v k → B ≤ k ∧ k < w.heap.size := by
  intro k hk
  rcases hk with rfl | rfl | hk
  · exact ⟨h.bp, h.blk.lt⟩
  · exact ⟨h.bg, h.dur.lt⟩
  · exact h.pend.lt k hk
theorem info71 : (Try.prog.info? 94).map (fun i => (i.zero.map (·.cells.size), i.size, i.bytes)) = some (some 513, 513, 520) := by kernel_rfl
theorem info69 : (Try.prog.info? 92).map (fun i => (i.zero.map (·.cells), i.size, i.bytes)) = some (some (byteCells (zeros 512)).toArray, 512, 512) := by kernel_rfl
set_option maxHeartbeats 400000 in
theorem is_yes (p g n : Nat) (v : Value) (w : World) (hb : Blk w p [.slice (some ⟨g, 0, none⟩) n n, v] 79) (hn : 0 < n) :
    Calls Try.prog 53 #[.pointer (some ⟨p, 0, none⟩)] w fun e w' => e = .returned (.bool true) ∧ w = w' := by
  have h0 := hb.cell 0
  have hn' : (0 : Int) < (n : Int) := by omega
  have hd : decide ((0 : Int) < (n : Int)) = true := by simpa using hn
  clear hb
  go_enter Try.func53, Try.ntmps53
  go_wp2
  go_ret
  exact ⟨by simp_all, rfl⟩
set_option maxHeartbeats 400000 in
theorem is_nil (w : World) :
    Calls Try.prog 53 #[.pointer none] w fun e w' => e = .returned (.bool false) ∧ w = w' := by
  go_enter Try.func53, Try.ntmps53
  go_wp2
  go_ret
  exact ⟨rfl, rfl⟩
set_option maxHeartbeats 400000 in
theorem has_yes (p g n : Nat) (v : Value) (w : World) (hb : Blk w p [.slice (some ⟨g, 0, none⟩) n n, v] 79) (i : Nat) (hi : i < n) :
    Calls Try.prog 63 #[.pointer (some ⟨p, 0, none⟩), .int .i64 (i : Int)] w fun e w' => e = .returned (.bool true) ∧ w = w' := by
  have h0 := hb.cell 0
  have hd : decide (i < n) = true := by simpa using hi
  have hd0 : decide ((0 : Int) ≤ (i : Int)) = true := by simp
  clear hb
  go_enter Try.func63, Try.ntmps63
  go_wp2
  go_ret
  exact ⟨by simp_all, rfl⟩
set_option maxHeartbeats 400000 in
theorem has_no (p g n : Nat) (v : Value) (w : World) (hb : Blk w p [.slice (some ⟨g, 0, none⟩) n n, v] 79) (i : Int) (hi : i < 0 ∨ (n : Int) ≤ i) :
    Calls Try.prog 63 #[.pointer (some ⟨p, 0, none⟩), .int .i64 i] w fun e w' => e = .returned (.bool false) ∧ w = w' := by
  have h0 := hb.cell 0
  clear hb
  rcases hi with hi | hi
  · have hd0 : decide ((0 : Int) ≤ i) = false := by simpa using hi
    go_enter Try.func63, Try.ntmps63
    go_wp2
    go_ret
    exact ⟨by simp_all, rfl⟩
  · have hd0 : decide (i < (n : Int)) = false := by simpa using hi
    have h1 : (0 : Int) ≤ i := by omega
    go_enter Try.func63, Try.ntmps63
    go_wp2
    go_ret
    exact ⟨by simp_all, rfl⟩
set_option maxHeartbeats 400000 in
theorem sectors (p g n : Nat) (v : Value) (w : World) (hb : Blk w p [.slice (some ⟨g, 0, none⟩) n n, v] 79) (hn : 0 < n) :
    Calls Try.prog 43 #[.pointer (some ⟨p, 0, none⟩)] w fun e w' => e = .returned (.int .i64 (n : Int)) ∧ w = w' := by
  have HB := Lib.hid hb
  have h0 := hb.cell 0
  clear hb
  go_enter Try.func43, Try.ntmps43
  go_wp2_with (go_at_call 53; refine (is_yes p g n v _ HB.out hn).mono ?_; rintro e w' ⟨rfl, rfl⟩)
  go_ret
  exact ⟨rfl, rfl⟩
theorem len_of_own {w : World} {B e size n : Nat} {v : Value} {xs : List Value} (h : w.ownsRow B e size v n xs) : ∃ a c, v = .slice a n c := by
  rcases h.2 with ⟨rfl, rfl⟩ | ⟨g, cap, cur, rfl, _⟩
  · exact ⟨none, 0, rfl⟩
  · exact ⟨_, cap, rfl⟩
set_option maxHeartbeats 400000 in
theorem pending (B p g n : Nat) (v : Value) (D : List UInt8) (P : List (Nat × List UInt8)) (w : World) (h : DiskAt w B p g n v D P) :
    Calls Try.prog 24 #[.pointer (some ⟨p, 0, none⟩)] w fun e w' => e = .returned (.int .i64 (P.length : Int)) ∧ w = w' := by
  have HB := Lib.hid h.blk
  have hn := h.pos
  have h1 := h.c1
  obtain ⟨a, c, rfl⟩ := len_of_own h.pend
  clear h
  go_enter Try.func24, Try.ntmps24
  go_wp2_with (go_at_call 53; refine (is_yes p g n _ _ HB.out hn).mono ?_; rintro e w' ⟨rfl, rfl⟩)
  go_ret
  exact ⟨rfl, rfl⟩
end Go.Proofs.YtbbnjnpbaekfgaaM
/- The contracts of a disk's drop, New and Write. -/
set_option linter.unusedVariables false
set_option linter.unusedSimpArgs false
namespace Go.Proofs.YtbbnjnpbaekfgaaM
open Go.RowKit
theorem run_clear_own {P : Program} (w : World) (B e size n : Nat) (v : Value) (xs : List Value) (t ty : TypeId) (z : Value) (ht : P.underlying t = some (.slice e)) (hz : ∀ w, (zeroValue e).run P w = .ok z w) (hzs : z.cells.size = size) (hz1 : ∀ u ∈ z.cells.toList, u.oneCell' = true) (h0 : 0 < size)
    (h : w.ownsRow B e size v n xs) :
    ∃ w', (Builtin.clear_ #[t] ty #[v]).run P w = .ok (.tuple #[]) w' ∧ w.grownBy w' v.ownBlock ∧
      ((v = .slice none 0 0 ∧ n = 0) ∨ ∃ g cap cur, v = .slice (some ⟨g, 0, none⟩) n cap ∧ B ≤ g ∧ w'.heap[g]? = some (.cells cur e (0, 0)) ∧ cap ≤ maxLen ∧ cur.size = cap * size) := by
  have same : w.grownBy w v.ownBlock := ⟨rfl, rfl, rfl, Nat.le_refl _, fun _ _ _ => rfl⟩
  rcases h.2 with ⟨rfl, rfl⟩ | ⟨g, cap, cur, rfl, hb, hg, hnc, hcm, hcs, htk⟩
  · exact ⟨w, by simp [Builtin.clear_, run_underlying ht], same, .inl ⟨rfl, rfl⟩⟩
  · by_cases hn : n = 0
    · subst hn
      exact ⟨w, by simp [Builtin.clear_, run_underlying ht], same, .inr ⟨g, cap, cur, rfl, hb, hg, hcm, hcs⟩⟩
    · obtain ⟨m, rfl⟩ : ∃ m, n = m + 1 := ⟨n - 1, by omega⟩
      have hl : (Builtin.zeroCells z.cells (m + 1)).toList.length = (m + 1) * size := by rw [Array.length_toList, size_zeroCells, hzs]
      have hone : ∀ u ∈ (Builtin.zeroCells z.cells (m + 1)).toList, u.oneCell' = true := by
        intro u hu
        simp only [Builtin.zeroCells, Array.toList_map, List.mem_map] at hu
        obtain ⟨i, _, rfl⟩ := hu
        have hi : i % z.cells.size < z.cells.size := Nat.mod_lt _ (by omega)
        rw [getElem!_pos z.cells _ hi]
        exact hz1 _ (by simp)
      have hle : (m + 1) * size ≤ cap * size := Nat.mul_le_mul_right _ hnc
      have hst := run_storeCells_at P g 0 e (Builtin.zeroCells z.cells (m + 1)).toList 0 cur w hg (by rw [hl, hcs]; omega) hone
      generalize hC : (List.take (0 + 0) cur.toList ++ (Builtin.zeroCells z.cells (m + 1)).toList ++ List.drop (0 + 0 + (Builtin.zeroCells z.cells (m + 1)).toList.length) cur.toList).toArray = C at hst
      have hCs : C.size = cap * size := by
        rw [← hC]
        simp only [List.size_toArray, List.length_append, List.length_take, List.length_drop, hl]
        simp only [Array.length_toList, hcs]
        omega
      refine ⟨w.setRow g C, ?_, ⟨rfl, rfl, rfl, by simp, fun k _ hk => setRow_other w g k _ (fun e => hk (by simp [Value.ownBlock, e]))⟩, .inr ⟨g, cap, C, rfl, hb, setRow_heap w g cur _ e _ hg, hcm, hCs⟩⟩
      simp [Builtin.clear_, run_underlying ht, hz, hst]
theorem wpList_clear_own {P : Program} {ops : Array Oper} {rest : List Oper} {o : Oper} {a : Act} {w : World} {Q : Exit → Act → World → Prop} (hgd : o.guard = none) (x : Operand) (t : TypeId)
    (ho : o.op = .call { callee := .builtin .clear, args := #[x], argTypes := #[t] })
    (B e size n : Nat) (v : Value) (xs : List Value) (hx : a.eval x = v) (z : Value) (ht : P.underlying t = some (.slice e)) (hz : ∀ w, (zeroValue e).run P w = .ok z w) (hzs : z.cells.size = size) (hz1 : ∀ u ∈ z.cells.toList, u.oneCell' = true) (h0 : 0 < size)
    (h : w.ownsRow B e size v n xs)
    (hK : ∀ w', w.grownBy w' v.ownBlock → ((v = .slice none 0 0 ∧ n = 0) ∨ ∃ g cap cur, v = .slice (some ⟨g, 0, none⟩) n cap ∧ B ≤ g ∧ w'.heap[g]? = some (.cells cur e (0, 0)) ∧ cap ≤ maxLen ∧ cur.size = cap * size) → wpList P ops Q rest (a.put o.dst (.tuple #[])) w') : wpList P ops Q (o :: rest) a w := by
  obtain ⟨w', hr, h1, h2⟩ := run_clear_own (P := P) w B e size n v xs t o.type z ht hz hzs hz1 h0 h
  refine wpList_plain hgd fun K hk => ?_
  unfold Oper.wp
  simp [execOp, ho, resolve, invoke, builtin, hx, hr, Result.andThen]
  exact hk _ _ (hK w' h1 h2)
theorem zero71 : ∃ z, (∀ w, (zeroValue 94).run Try.prog w = .ok z w) ∧ z.cells.size = 513 ∧ (∀ u ∈ z.cells.toList, u.oneCell' = true) ∧ ∃ i, Try.prog.info? 94 = some i ∧ i.zero = some z ∧ i.size = 513 ∧ i.bytes = 520 := by
  have h : (Try.prog.info? 94).map (fun i => (i.zero.map (fun z => (z.cells.size, z.cells.toList.all (·.oneCell'))), i.size, i.bytes)) = some (some (513, true), 513, 520) := by kernel_rfl
  cases hq : Try.prog.info? 94 with
  | none => simp [hq] at h
  | some i =>
    cases hz : i.zero with
    | none => simp [hq, hz] at h
    | some z =>
      simp [hq, hz] at h
      exact ⟨z, fun w => by simp [zeroValue, typeInfo, hq, hz], h.1.1, fun u hu => by
        obtain ⟨k, hk, rfl⟩ := List.mem_iff_getElem.1 hu
        simpa using h.1.2 k (by simpa using hk), i, rfl, hz, h.2.1, h.2.2⟩
set_option maxHeartbeats 1000000 in
theorem drop (B p g n : Nat) (v : Value) (D : List UInt8) (P : List (Nat × List UInt8)) (w : World) (h : DiskAt w B p g n v D P) :
    Calls Try.prog 54 #[.pointer (some ⟨p, 0, none⟩)] w fun e w' => e = .returned (.tuple #[]) ∧ (∃ v', DiskAt w' B p g n v' D [] ∧ v'.ownBlock = v.ownBlock) ∧ Elses (Own p g v) w w' := by
  have H := Lib.hid h
  have h1 := h.c1
  obtain ⟨z, hz, hzs, hz1, _⟩ := zero71
  have HZ := Lib.hid (And.intro hz (And.intro hzs hz1))
  clear h hz hzs hz1
  go_enter Try.func54, Try.ntmps54
  go_wp2_with (refine wpList_clear_own rfl _ _ rfl B 94 513 P.length v (encP P) rfl z (by first | exact Try.underlying77 | rfl) HZ.out.1 HZ.out.2.1 HZ.out.2.2 (by omega) H.out.pend ?_)
  intro w1 hg1 hv
  have hE1 : Elses (Own p g v) w w1 := (Elses.refl _ w).grown hg1 fun k hk => .inl (.inr (.inr hk))
  have hE2 : Elses (fun k => v.ownBlock = some k) w w1 := (Elses.refl _ w).grown hg1 fun k hk => .inl hk
  have hb1 := H.out.blk.kept hE2 H.out.vp
  have hd1 := H.out.dur.kept hE2 H.out.vg
  have h2 := hb1.cell 1
  have h3 := hb1.frozen 1
  have HH := Lib.hid (And.intro hE1 (And.intro hb1 hd1))
  clear hE1 hE2 hb1 hd1 hg1 h1
  rcases hv with ⟨rfl, hP⟩ | ⟨q, cap, rfl, hq, cur, hc, hm, hs⟩
  · clear hP
    go_wp2_with fail
    go_end0
    refine ⟨rfl, ⟨.slice none 0 0, { H.out with blk := ?_, dur := HH.out.2.2.setElse (Ne.symm H.out.pg) _ _, pend := World.ownsRow_nil _ _ _ _, ok := (fun _ h => absurd h (by simp)), few := by simp }, rfl⟩, HH.out.1.set (.inl (.inl rfl)) _⟩
    simpa using HH.out.2.1.set 1 (.slice none 0 0)
  · have HC := Lib.hid (And.intro hq (And.intro hc (And.intro hm hs)))
    have hcap : (0 : Int) ≤ (cap : Int) := by omega
    clear hq hc hm hs
    go_wp2_with fail
    go_end0
    refine ⟨rfl, ⟨.slice (some ⟨q, 0, none⟩) 0 cap, { H.out with blk := ?_, dur := HH.out.2.2.setElse (Ne.symm H.out.pg) _ _, pend := ⟨by simp [encP], .inr ⟨q, cap, cur, rfl, HC.out.1, ?_, by simp, HC.out.2.2.1, HC.out.2.2.2, by simp [encP]⟩⟩, ok := (fun _ h => absurd h (by simp)), few := by simp, vp := H.out.vp, vg := H.out.vg }, rfl⟩, HH.out.1.set (.inl (.inl rfl)) _⟩
    · simpa using HH.out.2.1.set 1 (.slice (some ⟨q, 0, none⟩) 0 cap)
    · rw [Below.heap_setCell _ _ _ _ (fun e => H.out.vp (by rw [show q = p from e]; rfl))]
      exact HC.out.2.1
theorem made_get (z : Array Value) (n i : Nat) (h : i < (madeCells z n).size) : (madeCells z n)[i] = z[i % z.size]! := by simp [madeCells]
theorem made_zero (n : Nat) : madeCells (byteCells (zeros 512)).toArray n = (byteCells (zeros n)).toArray := by
  have hs : (byteCells (zeros 512)).toArray.size = 512 := by rw [List.size_toArray, byteCells_length, zeros_length]
  apply Array.ext
  · rw [size_madeCells, List.size_toArray, byteCells_length, zeros_length]
  · intro i h1 h2
    have hi : i % (byteCells (zeros 512)).toArray.size < (byteCells (zeros 512)).toArray.size := Nat.mod_lt _ (by rw [hs]; omega)
    rw [made_get, getElem!_pos (byteCells (zeros 512)).toArray _ hi, List.getElem_toArray, List.getElem_toArray, byteCells_get, byteCells_get, zeros_get, zeros_get]
theorem zero69 : ∃ i z, Try.prog.info? 92 = some i ∧ i.zero = some z ∧ z.cells = (byteCells (zeros 512)).toArray ∧ i.size = 512 ∧ i.bytes = 512 := by
  have h := info69
  generalize (byteCells (zeros 512)).toArray = C at h ⊢
  cases hq : Try.prog.info? 92 with
  | none => simp [hq] at h
  | some i =>
    cases hz : i.zero with
    | none => simp [hq, hz] at h
    | some z =>
      simp only [hq, hz, Option.map_some, Option.some.injEq, Prod.mk.injEq] at h
      exact ⟨i, z, rfl, hz, h.1, h.2.1, h.2.2⟩
theorem run_make69 (w : World) (n : Nat) (h : n ≤ 1024) : (Instr.makeSlice 76 (.int .i64 (n : Int)) (.int .i64 (n : Int))).run Try.prog w = .ok (.slice (some ⟨w.heap.size, 0, none⟩) n n) (w.alloc (.cells (byteCells (zeros (n * 512))).toArray 92)) := by
  obtain ⟨i, z, hi, hz, hzc, hs, hb⟩ := zero69
  have := run_make (P := Try.prog) w 76 92 i z Try.underlying76 hi hz .i64 .i64 n n (by omega) (by omega) (by rw [hb]; omega) (by omega)
  rw [hzc, hs, Int.toNat_natCast, made_zero] at this
  exact this
set_option maxHeartbeats 1000000 in
theorem new_ok (n : Nat) (h1 : 0 < n) (h2 : n ≤ 1024) (w : World) :
    Calls Try.prog 13 #[.int .i64 (n : Int)] w fun e w' => e = .returned (.tuple #[.pointer (some ⟨w.heap.size + 1, 0, none⟩), .int .i64 0]) ∧
      DiskAt w' w.heap.size (w.heap.size + 1) w.heap.size n (.slice none 0 0) (zeros (n * 512)) [] ∧ Below w.heap.size w w' := by
  have g1 : ¬ ((n : Int) < 1) := by omega
  have g2 : ¬ (1024 < (n : Int)) := by omega
  have HD := Lib.hid (Blk.new w (byteCells (zeros (n * 512))) 92)
  go_enter Try.func13, Try.ntmps13
  go_wp2_with (at_make; refine wpList_makes rfl _ _ _ rfl _ _ (run_make69 w n h2) ?_)
  go_ret2
  refine ⟨rfl, { blk := ?_, dur := HD.out.alloc _, pend := World.ownsRow_nil _ _ _ _, len := zeros_length _, pos := h1, top := h2, ok := (fun _ h => absurd h (by simp)), few := by simp, bp := by omega, bg := by omega, pg := by omega, vp := by simp [Value.ownBlock], vg := by simp [Value.ownBlock] }, ((Below.refl _ _).alloc (Nat.le_refl _) _).alloc (by simp) _⟩
  have := Blk.new (w.alloc (.cells (byteCells (zeros (n * 512))).toArray 92)) [.slice (some ⟨w.heap.size, 0, none⟩) n n, .slice none 0 0] 79
  simpa using this
set_option maxHeartbeats 1000000 in
theorem new_no (n : Int) (h : n < 1 ∨ 1024 < n) (w : World) :
    Calls Try.prog 13 #[.int .i64 n] w fun e w' => e = .returned (.tuple #[.pointer none, .int .i64 2]) ∧ w = w' := by
  rcases h with h | h
  · go_enter Try.func13, Try.ntmps13
    go_wp2
    go_ret2
    exact ⟨rfl, rfl⟩
  · have g1 : ¬ (n < 1) := by omega
    go_enter Try.func13, Try.ntmps13
    go_wp2
    go_ret2
    exact ⟨rfl, rfl⟩
end Go.Proofs.YtbbnjnpbaekfgaaM
/- Laws of this session's own: variables of many cells made, built, and laid in a slice of one. -/
set_option linter.unusedVariables false
set_option linter.unusedSimpArgs false
namespace Go.Proofs.YtbbnjnpbaekfgaaM
open Go.RowKit
/-- A pending write, as cells. -/
def cellW (k : Int) (b : List UInt8) : List Value := .int .i64 k :: byteCells b
theorem cellW_length (k : Int) (b : List UInt8) : (cellW k b).length = b.length + 1 := by simp [cellW, byteCells_length]
theorem cellW_one (k : Int) (b : List UInt8) : ∀ v ∈ cellW k b, v.oneCell' = true := by
  intro v hv
  rcases List.mem_cons.1 hv with rfl | hv
  · rfl
  · exact byteCells_one b v hv
theorem fill_from : ∀ (l : List Value) (k : Nat) (Z : Array Value), k + l.length ≤ Z.size →
    (l.zipIdx k).foldl (fun (cs : Array Value) p => cs.setIfInBounds p.2 p.1) Z = (Z.toList.take k ++ l ++ Z.toList.drop (k + l.length)).toArray
  | [], k, Z, _ => by simp
  | v :: rest, k, Z, h => by
    rw [List.zipIdx_cons, List.foldl_cons, fill_from rest (k + 1) _ (by simp at h ⊢; omega)]
    have e := list_seg_step Z.toList k v rest (by simp at h ⊢; omega)
    apply congrArg List.toArray
    simpa [Array.toList_setIfInBounds] using e
theorem fill_all (C Z : Array Value) (h : C.size = Z.size) : C.zipIdx.foldl (fun (cs : Array Value) (x : Value × Nat) => cs.setIfInBounds (0 + x.2) x.1) Z = C := by
  have := fill_from C.toList 0 Z (by simp; omega)
  rw [← Array.foldl_toList, Array.toList_zipIdx]
  simp only [Nat.zero_add]
  rw [this]
  have hd : Z.toList.drop (0 + C.toList.length) = [] := List.drop_eq_nil_of_le (by simp; omega)
  rw [hd]
  simp
theorem run_buildSlice_one {P : Program} (w : World) (t e : TypeId) (i : TypeInfo) (z : Value) (C : Array Value) (ht : P.underlying t = some (.slice e)) (hi : P.info? e = some i) (hz : i.zero = some z) (hs : i.size = C.size) (h0 : 0 < C.size) (h1 : C.size ≤ 16777216) :
    (Instr.buildSlice t 1 #[(0, .agg C)]).run P w = .ok (.slice (some ⟨w.heap.size, 0, none⟩) 1 1) (w.alloc (.cells C e)) := by
  have hf : ∀ Z : Array Value, C.size = Z.size → Instr.fill (fun i => some (i * C.size, C.size)) Z [(0, .agg C)] = some C := by
    intro Z hZ
    have := fill_all C Z hZ
    simp only [Nat.zero_add] at this
    have hZ' := hZ.symm
    simp [Instr.fill, Value.cells, hZ']
    rw [← Array.size_zipIdx (xs := C) (k := 0)]
    exact this
  have hne : ¬ C.size = 0 := by omega
  have hle : ¬ 2 ^ 24 < C.size := by omega
  simp [Instr.buildSlice, run_underlying ht, sizeOf, typeInfo, hi, hs, zeroValue, hz, hne, newRow, hf, show ¬ 16777216 < C.size by omega]
theorem info71' : (Try.prog.info? 94).map (fun i => (i.zero.map (·.cells), i.size, i.bytes)) = some (some (cellW 0 (zeros 512)).toArray, 513, 520) := by kernel_rfl
theorem zero71' : ∃ i z, Try.prog.info? 94 = some i ∧ i.zero = some z ∧ z.cells = (cellW 0 (zeros 512)).toArray ∧ i.size = 513 ∧ i.bytes = 520 := by
  have h := info71'
  generalize (cellW 0 (zeros 512)).toArray = C at h ⊢
  cases hq : Try.prog.info? 94 with
  | none => simp [hq] at h
  | some i =>
    cases hz : i.zero with
    | none => simp [hq, hz] at h
    | some z =>
      simp only [hq, hz, Option.map_some, Option.some.injEq, Prod.mk.injEq] at h
      exact ⟨i, z, rfl, hz, h.1, h.2.1, h.2.2⟩
theorem run_alloc71 (w : World) : (Instr.alloc 94 true (.tuple #[])).run Try.prog w = .ok (.pointer (some ⟨w.heap.size, 0, none⟩)) (w.alloc (.cells (cellW 0 (zeros 512)).toArray 94)) := by
  obtain ⟨i, z, hi, hz, hzc, hs, hb⟩ := zero71'
  rw [← hzc]
  simp [Instr.alloc, zeroValue, typeInfo, hi, hz, newVar, newRow]
theorem run_alloc69 (w : World) : (Instr.alloc 92 true (.tuple #[])).run Try.prog w = .ok (.pointer (some ⟨w.heap.size, 0, none⟩)) (w.alloc (.cells (byteCells (zeros 512)).toArray 92)) := by
  obtain ⟨i, z, hi, hz, hzc, hs, hb⟩ := zero69
  rw [← hzc]
  simp [Instr.alloc, zeroValue, typeInfo, hi, hz, newVar, newRow]
theorem built71 (k : Int) : Try.prog.built 94 [(0, .int .i64 k)] = some (cellW k (zeros 512)).toArray := by kernel_rfl
theorem run_build71 (w : World) (k : Int) : (Instr.build 94 #[(0, .int .i64 k)]).run Try.prog w = .ok (.agg (cellW k (zeros 512)).toArray) w := run_build w 94 _ _ (built71 k)
theorem run_buildSlice71 (w : World) (k : Int) (b : List UInt8) (hb : b.length = 512) : (Instr.buildSlice 77 1 #[(0, .agg (cellW k b).toArray)]).run Try.prog w = .ok (.slice (some ⟨w.heap.size, 0, none⟩) 1 1) (w.alloc (.cells (cellW k b).toArray 94)) := by
  obtain ⟨i, z, hi, hz, hzc, hs, _⟩ := zero71'
  have hsz : (cellW k b).toArray.size = 513 := by rw [List.size_toArray, cellW_length, hb]
  exact run_buildSlice_one w 77 94 i z _ Try.underlying77 hi hz (by rw [hs, hsz]) (by omega) (by omega)
theorem splice_cellW (k : Int) (b : List UInt8) (n : Nat) (h : b.length ≤ n) : splice (cellW k (zeros n)) 1 (byteCells b) = cellW k (b ++ zeros (n - b.length)) := by
  unfold splice cellW
  simp only [List.take_succ_cons, List.take_zero, List.cons_append, List.nil_append, byteCells_length, Nat.add_comm 1, List.drop_succ_cons]
  rw [byteCells_append, ← byteCells_drop]
  congr 3
  simp [zeros]
/-! Operations on variables of many cells, under names of their own, so that the walk does not lay them open. -/
def LoadVia (t : TypeId) (v : Value) : Sem Next := do pure (.value (← Instr.loadAt t v))
def StoreVia (t : TypeId) (p v : Value) : Sem Next := do Instr.storeAt t p v; pure .skip
def AllocVia (t : TypeId) : Sem Next := do pure (.value (← Instr.alloc t true (.tuple #[])))
def BuildVia (t : TypeId) (v : Value) : Sem Next := do pure (.value (← Instr.build t #[(0, v)]))
def OneVia (t : TypeId) (v : Value) : Sem Next := do pure (.value (← Instr.buildSlice t 1 #[(0, v)]))
section
variable (ρ : Operand → Value) (dst : Option Tmp) (x y : Operand) (ty : TypeId) (pos : String) (after : Array Edge) (guard : Option (Nat × Bool))
theorem exec_load71 : execOp ρ { dst := dst, op := .load 94 x, type := ty, pos := pos, after := after, guard := guard } = LoadVia 94 (ρ x) := rfl
theorem exec_load69 : execOp ρ { dst := dst, op := .load 92 x, type := ty, pos := pos, after := after, guard := guard } = LoadVia 92 (ρ x) := rfl
theorem exec_store71 : execOp ρ { dst := dst, op := .store 94 x y, type := ty, pos := pos, after := after, guard := guard } = StoreVia 94 (ρ x) (ρ y) := rfl
theorem exec_store69 : execOp ρ { dst := dst, op := .store 92 x y, type := ty, pos := pos, after := after, guard := guard } = StoreVia 92 (ρ x) (ρ y) := rfl
theorem exec_alloc71 : execOp ρ { dst := dst, op := .alloc 94, type := ty, pos := pos, after := after, guard := guard } = AllocVia 94 := rfl
theorem exec_alloc69 : execOp ρ { dst := dst, op := .alloc 92, type := ty, pos := pos, after := after, guard := guard } = AllocVia 92 := rfl
theorem exec_build71 : execOp ρ { dst := dst, op := .build 94 #[(0, x)], type := ty, pos := pos, after := after, guard := guard } = BuildVia 94 (ρ x) := by
  simp only [execOp, BuildVia, List.map_toArray, List.map_cons, List.map_nil]
theorem exec_one71 : execOp ρ { dst := dst, op := .buildSlice 77 1 #[(0, x)], type := ty, pos := pos, after := after, guard := guard } = OneVia 77 (ρ x) := by
  simp only [execOp, OneVia, List.map_toArray, List.map_cons, List.map_nil]
end
theorem size69 : (Try.prog.info? 92).map (·.size) = some 512 := by kernel_rfl
theorem size71 : (Try.prog.info? 94).map (·.size) = some 513 := by kernel_rfl
theorem via_alloc71 (w : World) : (AllocVia 94).run Try.prog w = .ok (.value (.pointer (some ⟨w.heap.size, 0, none⟩))) (w.alloc (.cells (cellW 0 (zeros 512)).toArray 94)) := by
  unfold AllocVia
  rw [Sem.run_bind, run_alloc71]
  rfl
theorem via_alloc69 (w : World) : (AllocVia 92).run Try.prog w = .ok (.value (.pointer (some ⟨w.heap.size, 0, none⟩))) (w.alloc (.cells (byteCells (zeros 512)).toArray 92)) := by
  unfold AllocVia
  rw [Sem.run_bind, run_alloc69]
  rfl
theorem via_build71 (w : World) (k : Int) : (BuildVia 94 (.int .i64 k)).run Try.prog w = .ok (.value (.agg (cellW k (zeros 512)).toArray)) w := by
  unfold BuildVia
  rw [Sem.run_bind, run_build71]
  rfl
theorem via_one71 (w : World) (l : List Value) (h : l.length = 513) : (OneVia 77 (.agg l.toArray)).run Try.prog w = .ok (.value (.slice (some ⟨w.heap.size, 0, none⟩) 1 1)) (w.alloc (.cells l.toArray 94)) := by
  unfold OneVia
  obtain ⟨j, z, hj, hz, hzc, hsz, _⟩ := zero71'
  have hs : l.toArray.size = 513 := by rw [List.size_toArray]; exact h
  rw [Sem.run_bind, run_buildSlice_one (P := Try.prog) w 77 94 j z l.toArray Try.underlying77 hj hz (by rw [hsz, hs]) (by omega) (by omega)]
  rfl
theorem via_load71 (w : World) (b o : Nat) (cs : List Value) (h : w.rangeAt b o cs) (hl : cs.length = 513) : (LoadVia 94 (.pointer (some ⟨b, o, none⟩))).run Try.prog w = .ok (.value (.agg cs.toArray)) w := by
  unfold LoadVia
  rw [Sem.run_bind, run_loadAt_mid w b o 94 cs _ h Try.underlying94 rfl (by rw [hl]; exact size71)]
  rfl
theorem via_load69 (w : World) (b o : Nat) (cs : List Value) (h : w.rangeAt b o cs) (hl : cs.length = 512) : (LoadVia 92 (.pointer (some ⟨b, o, none⟩))).run Try.prog w = .ok (.value (.agg cs.toArray)) w := by
  unfold LoadVia
  rw [Sem.run_bind, run_loadAt_mid w b o 92 cs _ h Try.underlying92 rfl (by rw [hl]; exact size69)]
  rfl
theorem via_store (t ty : TypeId) (w : World) (b o : Nat) (c cs : List Value) (h : Blk w b c t) (hfit : o + cs.length ≤ c.length) (hi : (Try.prog.info? ty).map (·.size) = some cs.length) (h1 : ∀ v ∈ cs, v.oneCell' = true) :
    (StoreVia ty (.pointer (some ⟨b, o, none⟩)) (.agg cs.toArray)).run Try.prog w = .ok .skip (w.setRow b (splice c o cs).toArray) := by
  unfold StoreVia
  rw [Sem.run_bind, run_store_at w b o t ty c cs h hfit hi h1]
  rfl
theorem splice_all (c cs : List Value) (h : c.length = cs.length) : splice c 0 cs = cs := by
  unfold splice
  rw [List.drop_eq_nil_of_le (by omega)]
  simp
theorem via_store_new (t ty : TypeId) (w : World) (c cs : List Value) (hl : c.length = cs.length) (hi : (Try.prog.info? ty).map (·.size) = some cs.length) (h1 : ∀ v ∈ cs, v.oneCell' = true) :
    (StoreVia ty (.pointer (some ⟨w.heap.size, 0, none⟩)) (.agg cs.toArray)).run Try.prog (w.alloc (.cells c.toArray t)) = .ok .skip (w.alloc (.cells cs.toArray t)) := by
  rw [via_store t ty _ w.heap.size 0 c cs (Blk.new w c t) (by omega) hi h1, splice_all c cs hl, World.setRow_alloc_new]
/-- A variable of the type write, made and written. -/
theorem via_store71_new (w : World) (cs : List Value) (hl : cs.length = 513) (h1 : ∀ v ∈ cs, v.oneCell' = true) :
    (StoreVia 94 (.pointer (some ⟨w.heap.size, 0, none⟩)) (.agg cs.toArray)).run Try.prog (w.alloc (.cells (cellW 0 (zeros 512)).toArray 94)) = .ok .skip (w.alloc (.cells cs.toArray 94)) :=
  via_store_new 94 94 w _ cs (by rw [cellW_length, zeros_length, hl]) (by rw [hl]; exact size71) h1
theorem via_store69_new (w : World) (cs : List Value) (hl : cs.length = 512) (h1 : ∀ v ∈ cs, v.oneCell' = true) :
    (StoreVia 92 (.pointer (some ⟨w.heap.size, 0, none⟩)) (.agg cs.toArray)).run Try.prog (w.alloc (.cells (byteCells (zeros 512)).toArray 92)) = .ok .skip (w.alloc (.cells cs.toArray 92)) :=
  via_store_new 92 92 w _ cs (by rw [byteCells_length, zeros_length, hl]) (by rw [hl]; exact size69) h1
/-- The bytes that a slice of them leads to. -/
def BytesAt (w : World) (v : Value) (b : List UInt8) : Prop := ∃ a cap, v = .slice a b.length cap ∧ (0 < b.length → ∃ ad, a = some ad ∧ ∀ j u, (byteCells b)[j]? = some u → w.cell? (ad.add j) = some u)
theorem cell_far' {w w' : World} {row : Option Nat} (hg : w.grownBy w' row) (b o : Nat) (hlt : b < w.heap.size) (hne : row ≠ some b) : w'.cell? ⟨b, o, none⟩ = w.cell? ⟨b, o, none⟩ := hg.cell_far ⟨b, o, none⟩ hlt (Ne.symm hne)
theorem frozen_far' {w w' : World} {row : Option Nat} (hg : w.grownBy w' row) (b o : Nat) (hlt : b < w.heap.size) (hne : row ≠ some b) : w'.frozen? ⟨b, o, none⟩ = w.frozen? ⟨b, o, none⟩ := hg.frozen_far ⟨b, o, none⟩ hlt (Ne.symm hne)
theorem encP_snoc (P : List (Nat × List UInt8)) (k : Nat) (b : List UInt8) : encP (P ++ [(k, b)]) = encP P ++ cellW k b := by simp [encP, cellW]
theorem write_end {w w1 : World} {B p g n : Nat} {v : Value} {D : List UInt8} {P : List (Nat × List UInt8)} (h : DiskAt w B p g n v D P) (o1 o2 : Obj) (k : Nat) (pb : List UInt8) (hk : k < n) (hpb : pb.length = 512) (hP : P.length + 1 ≤ 100000) (gg cc : Nat)
    (hg : ((w.alloc o1).drew.alloc o2).grownBy w1 v.ownBlock) (hown : w1.ownsRow B 94 513 (.slice (some ⟨gg, 0, none⟩) (P.length + 1) cc) (P.length + 1) (encP P ++ cellW k pb)) (hgg : v.ownBlock = some gg ∨ gg = w.heap.size + 2) :
    (∃ v', DiskAt (w1.setCell ⟨p, 1, none⟩ (.slice (some ⟨gg, 0, none⟩) (P.length + 1) cc)) B p g n v' D (P ++ [(k, pb)]) ∧ (v'.ownBlock = v.ownBlock ∨ ∃ k, w.heap.size ≤ k ∧ v'.ownBlock = some k)) ∧ Elses (Own p g v) w (w1.setCell ⟨p, 1, none⟩ (.slice (some ⟨gg, 0, none⟩) (P.length + 1) cc)) := by
  have hE2 : Elses (fun k => v.ownBlock = some k) w w1 := ((((Elses.refl _ w).alloc o1).drew).alloc o2).grown hg fun k hk => .inl hk
  have hlp := h.blk.lt
  have hlg := h.dur.lt
  have hgp : gg ≠ p := by
    rcases hgg with e | e
    · exact fun x => h.vp (x ▸ e)
    · omega
  have hgg' : gg ≠ g := by
    rcases hgg with e | e
    · exact fun x => h.vg (x ▸ e)
    · omega
  refine ⟨⟨.slice (some ⟨gg, 0, none⟩) (P.length + 1) cc, { h with blk := ?_, dur := (h.dur.kept hE2 h.vg).setElse (Ne.symm h.pg) _ _, pend := ?_, ok := ?_, few := ?_, vp := ?_, vg := ?_ }, ?_⟩, (hE2.mono fun i hi => .inr (.inr hi)).set (.inl (.inl rfl)) _⟩
  · simpa using (h.blk.kept hE2 h.vp).set 1 (.slice (some ⟨gg, 0, none⟩) (P.length + 1) cc)
  · rw [encP_snoc, List.length_append]
    exact ownsRow_kept hown ((Elses.refl (fun k => k = p) w1).set (.inl rfl) _) fun k hk => by
      simp only [Value.ownBlock, Option.some.injEq] at hk
      omega
  · intro x hx
    rcases List.mem_append.1 hx with hx | hx
    · exact h.ok x hx
    · obtain rfl := List.mem_singleton.1 hx
      exact ⟨hk, hpb⟩
  · rw [List.length_append]
    exact hP
  · intro e
    exact hgp (Option.some.inj e)
  · intro e
    exact hgg' (Option.some.inj e)
  · rcases hgg with e | e
    · exact .inl e.symm
    · exact .inr ⟨gg, by omega, rfl⟩
attribute [local go_sem ↓] exec_load71 exec_load69 exec_store71 exec_store69 exec_alloc71 exec_alloc69 exec_build71 exec_one71
attribute [local go_sem] via_alloc71 via_alloc69 via_build71 via_one71
set_option maxRecDepth 100000 in
set_option maxHeartbeats 3200000 in
theorem write_ok (B p g n : Nat) (v : Value) (D : List UInt8) (P : List (Nat × List UInt8)) (w : World) (h : DiskAt w B p g n v D P) (at_ : Nat) (hat : at_ < n) (bv : Value) (b : List UInt8) (hb : BytesAt w bv b) (hl : b.length ≤ 512) (hP : P.length < 100000) :
    Calls Try.prog 46 #[.pointer (some ⟨p, 0, none⟩), .int .i64 (at_ : Int), bv] w fun e w' => e = .returned (.int .i64 0) ∧ (∃ v', DiskAt w' B p g n v' D (P ++ [(at_, b ++ zeros (512 - b.length))]) ∧ (v'.ownBlock = v.ownBlock ∨ ∃ k, w.heap.size ≤ k ∧ v'.ownBlock = some k)) ∧ Elses (Own p g v) w w' := by
  have H := Lib.hid h
  have lp := h.blk.lt
  have nvp : v.ownBlock ≠ some p := h.vp
  have hbase : B ≤ w.heap.size := by have := h.bp; omega
  clear h
  obtain ⟨a, cap, rfl, hsrc⟩ := hb
  have HS := Lib.hid hsrc
  clear hsrc
  have hl' : (b.length : Int) ≤ 512 := by omega
  obtain ⟨i0, z0, hi0, hz0, hzc0, hs0, hby0⟩ := zero71'
  have HI := Lib.hid (And.intro hi0 (And.intro hz0 (And.intro hzc0 (And.intro hs0 hby0))))
  clear hi0 hz0 hzc0 hs0 hby0
  obtain ⟨cw, hcw⟩ : ∃ cw, cw = cellW at_ (b ++ zeros (512 - b.length)) := ⟨_, rfl⟩
  have hlen : cw.length = 513 := by rw [hcw, cellW_length, List.length_append, zeros_length]; omega
  have hone : ∀ u ∈ cw, u.oneCell' = true := by rw [hcw]; exact cellW_one _ _
  have HW := Lib.hid hcw
  have H1 := Lib.hid hone
  clear hcw hone
  have hz0' : z0.cells.size = 513 := by rw [HI.out.2.2.1, List.size_toArray, cellW_length, zeros_length]
  have hu71 := Try.underlying94
  have hi71 : (Try.prog.info? 94).map (·.size) = some cw.length := by rw [hlen]; exact size71
  have HP : P.length + 1 ≤ 100000 := hP
  have hst := via_store71_new w (cellW at_ (zeros 512)) (by rw [cellW_length, zeros_length]) (cellW_one _ _)
  go_enter Try.func46, Try.ntmps46
  go_wp2_with (first | (go_at_call 53; refine (is_yes p g n _ _ H.out.blk H.out.pos).mono ?_; rintro e w' ⟨rfl, rfl⟩) | (go_at_call 63; refine (has_yes p g n _ _ H.out.blk at_ hat).mono ?_; rintro e w' ⟨rfl, rfl⟩) | (refine wpList_copy_new rfl _ _ 37 37 rfl 5 Try.underlying37 (by kernel_rfl) 1 512 512 a b.length cap rfl rfl (cellW at_ (zeros 512)) 94 (byteCells b) (by rw [byteCells_length]; exact (Nat.min_eq_left hl).symm) (by rw [byteCells_length]; exact HS.out) (by rw [byteCells_length, cellW_length, zeros_length]; omega) (byteCells_one b) ?_; rw [splice_cellW _ _ _ hl, byteCells_length, ← HW.out]))
  have hc1 : (w.alloc (.cells cw.toArray 94)).cell? ⟨p, 1, none⟩ = some v := (H.out.alloc _).c1
  have hf1 : (w.alloc (.cells cw.toArray 94)).frozen? ⟨p, 1, none⟩ = false := (H.out.alloc _).blk.frozen 1
  have hld : (LoadVia 94 (.pointer (some ⟨w.heap.size, 0, none⟩))).run Try.prog (w.alloc (.cells cw.toArray 94)).drew = .ok (.value (.agg cw.toArray)) (w.alloc (.cells cw.toArray 94)).drew :=
    via_load71 _ _ _ cw (fun j u hu => by
      rw [Nat.zero_add]
      exact (cell_of_row _ _ _ _ _ _ (heap_alloc_new w _)).trans (by simpa using hu)) hlen
  have HN := Lib.hid (show ∀ j u, cw[j]? = some u → ((w.alloc (.cells cw.toArray 94)).drew.alloc (.cells cw.toArray 94)).cell? ((⟨w.heap.size + 1, 0, none⟩ : Addr).add j) = some u by
    have hs : (w.alloc (.cells cw.toArray 94)).drew.heap.size = w.heap.size + 1 := by simp
    have := World.news_of_block (cs := cw.toArray) (heap_alloc_new (w.alloc (.cells cw.toArray 94)).drew (.cells cw.toArray 94 (0, 0)))
    rw [hs] at this
    exact this)
  have lp1 : p < w.heap.size + 1 := by omega
  have lp2 : p < w.heap.size + 1 + 1 := by omega
  go_region_law ((refine step_append_lies _ (by rfl) _ _ _ (by rfl) B 94 i0 z0 513 520 Try.underlying77 HI.out.1 HI.out.2.1 HI.out.2.2.2.1 HI.out.2.2.2.2 hz0' (by omega) v P.length (encP P) (by rfl) ((((H.out.pend).alloc _).drew).alloc _) ⟨w.heap.size + 1, 0, none⟩ 1 1 cw (by rfl) (by omega) HN.out H1.out (by omega) (by unfold maxLen; omega) (by omega) (by simp; omega) (w.heap.size + 2) (by simp) ?_; intro gg cc w1 hown1 hgrow hat1 hlt1; have hcp := cell_far' hgrow p 1 (by simp; omega) nvp; have hfp := frozen_far' hgrow p 1 (by simp; omega) nvp))
  all_goals
    go_wp2
    go_ret
    obtain rfl := HW.out
    exact ⟨rfl, write_end H.out _ _ at_ _ hat (by rw [List.length_append, zeros_length]; omega) HP gg cc hgrow hown1 hat1⟩
end Go.Proofs.YtbbnjnpbaekfgaaM
/- The contracts of a disk's Write that is refused, and of Read. -/
set_option linter.unusedVariables false
set_option linter.unusedSimpArgs false
namespace Go.Proofs.YtbbnjnpbaekfgaaM
open Go.RowKit
attribute [local go_sem ↓] exec_load71 exec_load69 exec_store71 exec_store69 exec_alloc71 exec_alloc69 exec_build71 exec_one71
attribute [local go_sem] via_alloc71 via_alloc69 via_build71 via_one71
theorem write_nil (k : Int) (bv : Value) (w : World) :
    Calls Try.prog 46 #[.pointer none, .int .i64 k, bv] w fun e w' => e = .returned (.int .i64 1) ∧ w = w' := by
  go_enter Try.func46, Try.ntmps46
  go_wp2_with (go_at_call 53; refine (is_nil _).mono ?_; rintro e w' ⟨rfl, rfl⟩)
  go_ret
  exact ⟨rfl, rfl⟩
theorem write_out (p g n : Nat) (v : Value) (w : World) (hb : Blk w p [.slice (some ⟨g, 0, none⟩) n n, v] 79) (hn : 0 < n) (k : Int) (hk : k < 0 ∨ (n : Int) ≤ k) (bv : Value) :
    Calls Try.prog 46 #[.pointer (some ⟨p, 0, none⟩), .int .i64 k, bv] w fun e w' => e = .returned (.int .i64 2) ∧ w = w' := by
  have HB := Lib.hid hb
  have HK := Lib.hid hk
  clear hb hk
  go_enter Try.func46, Try.ntmps46
  go_wp2_with (first | (go_at_call 53; refine (is_yes p g n _ _ HB.out hn).mono ?_; rintro e w' ⟨rfl, rfl⟩) | (go_at_call 63; refine (has_no p g n _ _ HB.out k HK.out).mono ?_; rintro e w' ⟨rfl, rfl⟩))
  go_ret
  exact ⟨rfl, rfl⟩
theorem write_long (p g n : Nat) (v : Value) (w : World) (hb : Blk w p [.slice (some ⟨g, 0, none⟩) n n, v] 79) (hn : 0 < n) (k : Nat) (hk : k < n) (a : Option Addr) (l c : Nat) (hl : 512 < l) :
    Calls Try.prog 46 #[.pointer (some ⟨p, 0, none⟩), .int .i64 (k : Int), .slice a l c] w fun e w' => e = .returned (.int .i64 4) ∧ w = w' := by
  have HB := Lib.hid hb
  clear hb
  have hl' : (512 : Int) < (l : Int) := by omega
  go_enter Try.func46, Try.ntmps46
  go_wp2_with (first | (go_at_call 53; refine (is_yes p g n _ _ HB.out hn).mono ?_; rintro e w' ⟨rfl, rfl⟩) | (go_at_call 63; refine (has_yes p g n _ _ HB.out k hk).mono ?_; rintro e w' ⟨rfl, rfl⟩))
  go_ret
  exact ⟨rfl, rfl⟩
theorem read_nil (k : Int) (w : World) :
    Calls Try.prog 44 #[.pointer none, .int .i64 k] w fun e w' => e = .returned (.tuple #[.slice none 0 0, .int .i64 1]) ∧ w = w' := by
  go_enter Try.func44, Try.ntmps44
  go_wp2_with (go_at_call 53; refine (is_nil _).mono ?_; rintro e w' ⟨rfl, rfl⟩)
  go_ret2
  exact ⟨rfl, rfl⟩
theorem read_out (p g n : Nat) (v : Value) (w : World) (hb : Blk w p [.slice (some ⟨g, 0, none⟩) n n, v] 79) (hn : 0 < n) (k : Int) (hk : k < 0 ∨ (n : Int) ≤ k) :
    Calls Try.prog 44 #[.pointer (some ⟨p, 0, none⟩), .int .i64 k] w fun e w' => e = .returned (.tuple #[.slice none 0 0, .int .i64 2]) ∧ w = w' := by
  have HB := Lib.hid hb
  have HK := Lib.hid hk
  clear hb hk
  go_enter Try.func44, Try.ntmps44
  go_wp2_with (first | (go_at_call 53; refine (is_yes p g n _ _ HB.out hn).mono ?_; rintro e w' ⟨rfl, rfl⟩) | (go_at_call 63; refine (has_no p g n _ _ HB.out k HK.out).mono ?_; rintro e w' ⟨rfl, rfl⟩))
  go_ret2
  exact ⟨rfl, rfl⟩
/-- A sector's bytes; what is read of it. -/
def sec (D : List UInt8) (i : Nat) : List UInt8 := (D.drop (i * 512)).take 512
def readP (D : List UInt8) (P : List (Nat × List UInt8)) (i : Nat) : List UInt8 := P.foldl (fun s x => if x.1 = i then x.2 else s) (sec D i)
theorem sec_length {D : List UInt8} {n i : Nat} (h : D.length = n * 512) (hi : i < n) : (sec D i).length = 512 := by
  unfold sec
  rw [List.length_take, List.length_drop, h]
  omega
theorem readP_length {D : List UInt8} {n i : Nat} (h : D.length = n * 512) (hi : i < n) : ∀ (P : List (Nat × List UInt8)), (∀ x ∈ P, x.1 < n ∧ x.2.length = 512) → (readP D P i).length = 512 := by
  have : ∀ (P : List (Nat × List UInt8)) (s : List UInt8), s.length = 512 → (∀ x ∈ P, x.1 < n ∧ x.2.length = 512) → (P.foldl (fun s x => if x.1 = i then x.2 else s) s).length = 512 := by
    intro P
    induction P with
    | nil => intro s hs _; exact hs
    | cons x P ih =>
      intro s hs hP
      rw [List.foldl_cons]
      refine ih _ ?_ fun y hy => hP y (List.mem_cons_of_mem _ hy)
      split
      · exact (hP x List.mem_cons_self).2
      · exact hs
  exact fun P hP => this P _ (sec_length h hi) hP
theorem readP_snoc (D : List UInt8) (P : List (Nat × List UInt8)) (i k : Nat) (h : k < P.length) : readP D (P.take (k + 1)) i = if (P[k]).1 = i then (P[k]).2 else readP D (P.take k) i := by
  unfold readP
  rw [List.take_succ_eq_append_getElem h, List.foldl_append]
  rfl
theorem range_sec {w : World} {g n : Nat} {D : List UInt8} (h : Blk w g (byteCells D) 92) (hD : D.length = n * 512) (i : Nat) (hi : i < n) : w.rangeAt g (i * 512) (byteCells (sec D i)) := fun j u hu => by
  rw [h.cell]
  unfold sec at hu
  rw [byteCells_take, byteCells_drop, List.getElem?_take, List.getElem?_drop] at hu
  split at hu
  · exact hu
  · cases hu
theorem encP_take (P : List (Nat × List UInt8)) (hP : ∀ x ∈ P, x.2.length = 512) (k : Nat) (h : k < P.length) : ((encP P).drop (k * 513)).take 513 = cellW (P[k]).1 (P[k]).2 := by
  induction P generalizing k with
  | nil => simp at h
  | cons x P ih =>
    have hx : (cellW x.1 x.2).length = 513 := by rw [cellW_length, hP x List.mem_cons_self]
    have e : encP (x :: P) = cellW x.1 x.2 ++ encP P := by simp [encP, cellW]
    rw [e]
    cases k with
    | zero =>
      rw [Nat.zero_mul, List.drop_zero, List.take_append_of_le_length (by omega), List.take_of_length_le (by omega)]
      rfl
    | succ k =>
      rw [List.drop_append, List.drop_eq_nil_of_le (by omega), List.nil_append, hx, show (k + 1) * 513 - 513 = k * 513 by omega]
      exact ih (fun y hy => hP y (List.mem_cons_of_mem _ hy)) k (by simpa using h)
theorem range_pend {w : World} {B q cap : Nat} {P : List (Nat × List UInt8)} (h : w.ownsRow B 94 513 (.slice (some ⟨q, 0, none⟩) P.length cap) P.length (encP P)) (hP : ∀ x ∈ P, x.2.length = 512) (k : Nat) (hk : k < P.length) : w.rangeAt q (k * 513) (cellW (P[k]).1 (P[k]).2) := fun j u hu => by
  have hc := h.cells (g := q) rfl (k * 513 + j) u
  rw [addr_add, Nat.zero_add] at hc
  apply hc
  rw [← encP_take P hP k hk, List.getElem?_take] at hu
  split at hu
  · rw [List.getElem?_drop] at hu
    exact hu
  · cases hu
end Go.Proofs.YtbbnjnpbaekfgaaM
/- The contract of a disk's Read. -/
set_option linter.unusedVariables false
set_option linter.unusedSimpArgs false
namespace Go.Proofs.YtbbnjnpbaekfgaaM
open Go.RowKit
attribute [local go_sem ↓] exec_load71 exec_load69 exec_store71 exec_store69 exec_alloc71 exec_alloc69 exec_build71 exec_one71
attribute [local go_sem] via_alloc71 via_alloc69 via_build71 via_one71
theorem pend_form {w : World} {B : Nat} {v : Value} {P : List (Nat × List UInt8)} (h : w.ownsRow B 94 513 v P.length (encP P)) : ∃ sa cap, v = .slice sa P.length cap ∧ (0 < P.length → ∃ q, sa = some ⟨q, 0, none⟩) := by
  rcases h.2 with ⟨rfl, h0⟩ | ⟨q, cap, cur, rfl, _⟩
  · exact ⟨none, 0, by rw [h0], fun h => by omega⟩
  · exact ⟨_, cap, rfl, fun _ => ⟨q, rfl⟩⟩
theorem Elses.of_below' {w w' : World} {S : Nat → Prop} (h : Below w.heap.size w w') : Elses S w w' := .of_below h fun _ h _ => h
set_option maxRecDepth 100000 in
set_option maxHeartbeats 3200000 in
theorem read_ok (B p g n : Nat) (v : Value) (D : List UInt8) (P : List (Nat × List UInt8)) (w : World) (h : DiskAt w B p g n v D P) (i : Nat) (hi : i < n) :
    Calls Try.prog 44 #[.pointer (some ⟨p, 0, none⟩), .int .i64 (i : Int)] w fun e w' => e = .returned (.tuple #[.slice (some ⟨w.heap.size, 0, none⟩) 512 512, .int .i64 0]) ∧ Blk w' w.heap.size (byteCells (readP D P i)) 92 ∧ Below w.heap.size w w' := by
  have H := Lib.hid h
  have lp := h.blk.lt
  have hc0 := h.c0
  have hc1 := h.c1
  have hi0 : (0 : Int) ≤ (i : Int) := by omega
  have hi1 : (i : Int) < (n : Int) := by omega
  have hld := via_load69 w g (i * 512) _ (range_sec h.dur h.len i hi) (by rw [byteCells_length]; exact sec_length h.len hi)
  have hst := via_store69_new w (byteCells (sec D i)) (by rw [byteCells_length]; exact sec_length h.len hi) (byteCells_one _)
  have lp1 : p < w.heap.size + 1 := by omega
  obtain ⟨sa, cap, rfl, hsa⟩ := pend_form h.pend
  have HS := Lib.hid hsa
  have hlen := h.few
  clear h hsa
  go_enter Try.func44, Try.ntmps44
  go_wp2_with (first | (go_at_call 53; refine (is_yes p g n _ _ H.out.blk H.out.pos).mono ?_; rintro e w' ⟨rfl, rfl⟩) | (go_at_call 63; refine (has_yes p g n _ _ H.out.blk i hi).mono ?_; rintro e w' ⟨rfl, rfl⟩))
  go_loopw [30] (fun iv wr => ∃ k : Nat, k ≤ P.length ∧ iv = .int .i64 (k : Int) ∧ Hid (Blk wr w.heap.size (byteCells (readP D (P.take k) i)) 92) ∧ Hid (Below w.heap.size w wr)) (fun iv _ => P.length - (intOf iv).toNat)
  case atStart => exact ⟨0, Nat.zero_le _, rfl, Blk.new w _ 92, (Below.refl _ _).alloc (Nat.le_refl _) _⟩
  case round =>
    obtain ⟨k, hk, rfl, HB, HW⟩ := hrel
    by_cases hlt : k < P.length
    · obtain ⟨q, rfl⟩ := HS.out (by omega)
      have hP := H.out.ok _ (List.getElem_mem hlt)
      obtain ⟨cw, hcw⟩ : ∃ cw, cw = cellW (P[k]).1 (P[k]).2 := ⟨_, rfl⟩
      have hl : cw.length = 513 := by rw [hcw, cellW_length, hP.2]
      have hE : Elses (fun k => w.heap.size ≤ k) w wr := .of_below' HW.out
      have hr := range_pend (ownsRow_kept H.out.pend hE fun j hj => by have := (H.out.pend.lt j hj).2; omega) (fun x hx => (H.out.ok x hx).2) k hlt
      rw [← hcw] at hr
      have f1 := via_load71 wr q (k * 513) cw hr hl
      have f2 := via_store71_new wr cw hl (by rw [hcw]; exact cellW_one _ _)
      have f3 : (wr.alloc (.cells cw.toArray 94)).cell? ⟨wr.heap.size, 0, none⟩ = some (.int .i64 ((P[k]).1 : Int)) := by
        rw [(Blk.new wr cw 94).cell, hcw]
        rfl
      have f4 := via_load69 (wr.alloc (.cells cw.toArray 94)) wr.heap.size 1 (byteCells (P[k]).2) (fun j u hu => by
        rw [(Blk.new wr cw 94).cell, hcw, Nat.add_comm 1]
        exact hu) (by rw [byteCells_length]; exact hP.2)
      have hbs := HB.out.alloc (.cells cw.toArray 94)
      have hrl : (readP D (P.take k) i).length = 512 := readP_length H.out.len hi _ fun x hx => H.out.ok x (List.mem_of_mem_take hx)
      have f5 := via_store 92 92 (wr.alloc (.cells cw.toArray 94)) w.heap.size 0 _ (byteCells (P[k]).2) hbs (by rw [byteCells_length, byteCells_length, hP.2, hrl]; omega) (by rw [byteCells_length, hP.2]; exact size69) (byteCells_one _)
      rw [splice_all _ _ (by rw [byteCells_length, byteCells_length, hP.2, hrl])] at f5
      have hrs := readP_snoc D P i k hlt
      have HX := Lib.hid (And.intro hrs (And.intro hbs hP))
      obtain ⟨x1, hx1⟩ : ∃ x1, x1 = (P[k]).1 := ⟨_, rfl⟩
      obtain ⟨x2, hx2⟩ : ∃ x2, x2 = (P[k]).2 := ⟨_, rfl⟩
      rw [← hx1, ← hx2] at HX
      rw [← hx1] at f3
      rw [← hx2] at f4 f5
      have hsz := HW.out.size
      clear hrs hbs hP hcw hr hE hx1 hx2 hrl
      have hk' : (k : Int) < (P.length : Int) := by omega
      by_cases he : x1 = i
      · have he' : ((x1 : Int) == (i : Int)) = true := by rw [beq_iff_eq]; omega
        go_wp2
        go_roundw
        case rel => exact ⟨k + 1, by omega, by go_num, show Blk _ _ _ _ by rw [HX.out.1, if_pos he]; exact HX.out.2.1.setRow _, show Below _ _ _ from below_setRow (HW.out.alloc hsz _) (Nat.le_refl _) _⟩
        case measure => simp [intOf]; omega
      · have he' : ((x1 : Int) == (i : Int)) = false := by rw [beq_eq_false_iff_ne]; omega
        go_wp2
        go_roundw
        case rel => exact ⟨k + 1, by omega, by go_num, show Blk _ _ _ _ by rw [HX.out.1, if_neg he]; exact HX.out.2.1, show Below _ _ _ from HW.out.alloc hsz _⟩
        case measure => simp [intOf]; omega
    · have hk' : ¬ (k : Int) < (P.length : Int) := by omega
      obtain rfl : k = P.length := by omega
      go_wp2
      go_ret2
      refine ⟨rfl, ?_, HW.out⟩
      have := HB.out
      rw [List.take_length] at this
      exact this
end Go.Proofs.YtbbnjnpbaekfgaaM
/- The contract of a disk's Sync. -/
set_option linter.unusedVariables false
set_option linter.unusedSimpArgs false
namespace Go.Proofs.YtbbnjnpbaekfgaaM
open Go.RowKit
attribute [local go_sem ↓] exec_load71 exec_load69 exec_store71 exec_store69 exec_alloc71 exec_alloc69 exec_build71 exec_one71
attribute [local go_sem] via_alloc71 via_alloc69 via_build71 via_one71
/-- The bytes behind the first k pending writes, of each so much as c says. -/
def crashK (D : List UInt8) (P : List (Nat × List UInt8)) (c : Nat → Nat) : Nat → List UInt8
  | 0 => D
  | k + 1 => splice (crashK D P c k) ((P.getD k (0, [])).1 * 512) ((P.getD k (0, [])).2.take (c k))
theorem splice_length {α : Type} (L : List α) (o : Nat) (cs : List α) (h : o + cs.length ≤ L.length) : (splice L o cs).length = L.length := length_splice L o cs h
theorem crashK_length {D : List UInt8} {n : Nat} (P : List (Nat × List UInt8)) (c : Nat → Nat) (h : D.length = n * 512) (hP : ∀ x ∈ P, x.1 < n ∧ x.2.length = 512) : ∀ k, k ≤ P.length → (crashK D P c k).length = n * 512
  | 0, _ => h
  | k + 1, hk => by
    have ih := crashK_length P c h hP k (by omega)
    have hx := hP _ (List.getElem_mem (show k < P.length by omega))
    unfold crashK
    rw [List.getD_eq_getElem?_getD, List.getElem?_eq_getElem (show k < P.length by omega), Option.getD_some]
    rw [splice_length, ih]
    rw [ih, List.length_take, hx.2]
    have := hx.1
    omega
theorem DiskAt.stored {w : World} {B p g n : Nat} {v : Value} {D D' : List UInt8} {P : List (Nat × List UInt8)} {c : Array Value} (h : DiskAt w B p g n v D P) (hc : c = (byteCells D').toArray) (hD : D'.length = n * 512) : DiskAt (w.setRow g c) B p g n v D' P := by
  subst hc
  exact { h with blk := h.blk.setRowElse h.pg _, dur := h.dur.setRow _, pend := ownsRow_kept h.pend ((Elses.refl (fun k => k = g) w).setRow (.inl rfl) _) (fun k hk e => h.vg (e ▸ hk)), len := hD }
set_option maxRecDepth 100000 in
set_option maxHeartbeats 3200000 in
theorem sync_ok (B p g n : Nat) (v : Value) (D : List UInt8) (P : List (Nat × List UInt8)) (w : World) (h : DiskAt w B p g n v D P) :
    Calls Try.prog 49 #[.pointer (some ⟨p, 0, none⟩)] w fun e w' => e = .returned (.int .i64 0) ∧ (∃ v', DiskAt w' B p g n v' (crashK D P (fun _ => 512) P.length) [] ∧ v'.ownBlock = v.ownBlock) ∧ Elses (Own p g v) w w' := by
  have H := Lib.hid h
  have lp := h.blk.lt
  have lg := h.dur.lt
  have hpg := h.pg
  have hc0 := h.c0
  have hc1 := h.c1
  obtain ⟨sa, cap, rfl, hsa⟩ := pend_form h.pend
  have HS := Lib.hid hsa
  have hlen := h.few
  clear h hsa
  go_enter Try.func49, Try.ntmps49
  go_wp2_with (go_at_call 53; refine (is_yes p g n _ _ H.out.blk H.out.pos).mono ?_; rintro e w' ⟨rfl, rfl⟩)
  go_loopw [13] (fun iv wr => ∃ k : Nat, k ≤ P.length ∧ iv = .int .i64 (k : Int) ∧ Hid (DiskAt wr B p g n (.slice sa P.length cap) (crashK D P (fun _ => 512) k) P) ∧ Hid (Elses (Own p g (.slice sa P.length cap)) w wr)) (fun iv _ => P.length - (intOf iv).toNat)
  case atStart => exact ⟨0, Nat.zero_le _, rfl, H.out, Elses.refl _ _⟩
  case round =>
    obtain ⟨k, hk, rfl, HB, HW⟩ := hrel
    by_cases hlt : k < P.length
    · obtain ⟨q, rfl⟩ := HS.out (by omega)
      have hP := H.out.ok _ (List.getElem_mem hlt)
      obtain ⟨cw, hcw⟩ : ∃ cw, cw = cellW (P[k]).1 (P[k]).2 := ⟨_, rfl⟩
      have hl : cw.length = 513 := by rw [hcw, cellW_length, hP.2]
      have hr := range_pend HB.out.pend (fun x hx => (H.out.ok x hx).2) k hlt
      rw [← hcw] at hr
      have f1 := via_load71 wr q (k * 513) cw hr hl
      have f2 := via_store71_new wr cw hl (by rw [hcw]; exact cellW_one _ _)
      have f3 : (wr.alloc (.cells cw.toArray 94)).cell? ⟨wr.heap.size, 0, none⟩ = some (.int .i64 ((P[k]).1 : Int)) := by
        rw [(Blk.new wr cw 94).cell, hcw]
        rfl
      have f4 := via_load69 (wr.alloc (.cells cw.toArray 94)).drew wr.heap.size 1 (byteCells (P[k]).2) (fun j u hu => by
        show (wr.alloc (.cells cw.toArray 94)).cell? _ = _
        rw [(Blk.new wr cw 94).cell, hcw, Nat.add_comm 1]
        exact hu) (by rw [byteCells_length]; exact hP.2)
      have hD := HB.out.alloc (.cells cw.toArray 94)
      have hcl := crashK_length P (fun _ => 512) H.out.len H.out.ok k hk
      have f0 : (wr.alloc (.cells cw.toArray 94)).cell? ⟨p, 0, none⟩ = some (.slice (some ⟨g, 0, none⟩) n n) := hD.c0
      have f5 := via_store 92 92 (wr.alloc (.cells cw.toArray 94)).drew g ((P[k]).1 * 512) _ (byteCells (P[k]).2) hD.dur.drew (by rw [byteCells_length, byteCells_length, hP.2, hcl]; have := hP.1; omega) (by rw [byteCells_length, hP.2]; exact size69) (byteCells_one _)
      rw [← byteCells_splice] at f5
      have hst : splice (crashK D P (fun _ => 512) k) ((P[k]).1 * 512) (P[k]).2 = crashK D P (fun _ => 512) (k + 1) := by
        show _ = splice _ _ _
        rw [List.getD_eq_getElem?_getD, List.getElem?_eq_getElem hlt, Option.getD_some, List.take_of_length_le (by show (P[k]).2.length ≤ 512; omega)]
      rw [hst] at f5
      have HX := Lib.hid (And.intro hD (crashK_length P (fun _ => 512) H.out.len H.out.ok (k + 1) hlt))
      obtain ⟨x1, hx1⟩ : ∃ x1, x1 = (P[k]).1 := ⟨_, rfl⟩
      obtain ⟨x2, hx2⟩ : ∃ x2, x2 = (P[k]).2 := ⟨_, rfl⟩
      obtain ⟨D2, hD2⟩ : ∃ D2, D2 = (byteCells (crashK D P (fun _ => 512) (k + 1))).toArray := ⟨_, rfl⟩
      rw [← hx1] at f3 f5 hP
      rw [← hx2] at f4 f5 hP
      rw [← hD2] at f5
      have HD := Lib.hid hD2
      have hx0 : (0 : Int) ≤ (x1 : Int) := by omega
      have hxn : (x1 : Int) < (n : Int) := by have := hP.1; omega
      clear hD hP hcw hr hx1 hx2 hD2 hst hcl
      have hk' : (k : Int) < (P.length : Int) := by omega
      go_wp2
      go_region
      all_goals
        go_wp2
        go_roundw
        case rel => exact ⟨k + 1, by omega, by go_num, show DiskAt _ _ _ _ _ _ _ _ from HX.out.1.drew.stored HD.out HX.out.2, show Elses _ _ _ from ((HW.out.alloc _).drew).setRow (.inl (.inr (.inl rfl))) _⟩
        case measure => simp [intOf]; omega
    · have hk' : ¬ (k : Int) < (P.length : Int) := by omega
      obtain rfl : k = P.length := by omega
      go_wp2_with (go_at_call 54; refine (drop B p g n _ _ _ _ HB.out).mono ?_; rintro e w1 ⟨rfl, hv', hE⟩)
      go_ret
      exact ⟨rfl, hv', HW.out.trans hE⟩
end Go.Proofs.YtbbnjnpbaekfgaaM
/- The contract of a disk's Crash. -/
set_option linter.unusedVariables false
set_option linter.unusedSimpArgs false
namespace Go.Proofs.YtbbnjnpbaekfgaaM
open Go.RowKit Go.Proofs.YtbbnjnpbaekfgaaW.PrintMore
attribute [local go_sem ↓] exec_load71 exec_load69 exec_store71 exec_store69 exec_alloc71 exec_alloc69 exec_build71 exec_one71
attribute [local go_sem] via_alloc71 via_alloc69 via_build71 via_one71
attribute [local go_sem] max2_int min2_int max_two min_two
/-- How much of the k-th pending write is done, by a list of cuts. -/
def cutN (l : List Int) (k : Nat) : Nat := match l[k]? with
  | some c => if c ≤ 0 then 0 else if 512 ≤ c then 512 else c.toNat
  | none => 0
theorem cutN_le (l : List Int) (k : Nat) : cutN l k ≤ 512 := by
  unfold cutN
  split
  · split
    · omega
    · split <;> omega
  · omega
/-- The numbers that a slice of them leads to. -/
def IntsAt (w : World) (v : Value) (l : List Int) : Prop := ∃ a cap, v = .slice a l.length cap ∧ (0 < l.length → ∃ ad, a = some ad ∧ ad.block < w.heap.size ∧ ∀ j (h : j < l.length), w.cell? (ad.add j) = some (.int .i64 l[j]))
theorem mm_eq (c : Int) : (if (512 : Int) < (if (0 : Int) < c then c else 0) then (512 : Int) else (if (0 : Int) < c then c else 0)) = (((if c ≤ 0 then 0 else if 512 ≤ c then 512 else c.toNat) : Nat) : Int) := by
  by_cases h1 : c ≤ 0
  · have h2 : ¬ 0 < c := by omega
    simp [h1, h2]
  · have h2 : 0 < c := by omega
    rw [if_pos h2, if_neg h1]
    by_cases h3 : 512 ≤ c
    · rw [if_pos h3]
      by_cases h4 : 512 < c
      · rw [if_pos h4]; rfl
      · rw [if_neg h4]; omega
    · rw [if_neg h3, if_neg (by omega)]
      omega
theorem add_block (a : Addr) (j : Nat) : (a.add j).block = a.block := by unfold Addr.add; split <;> rfl
set_option maxRecDepth 100000 in
set_option maxHeartbeats 3200000 in
theorem crash_ok (B p g n : Nat) (v : Value) (D : List UInt8) (P : List (Nat × List UInt8)) (w : World) (h : DiskAt w B p g n v D P) (cv : Value) (l : List Int) (hcv : IntsAt w cv l) (hfar : ∀ a n c, cv = .slice (some a) n c → ¬ Own p g v a.block) (hll : l.length ≤ 100000) :
    Calls Try.prog 25 #[.pointer (some ⟨p, 0, none⟩), cv] w fun e w' => e = .returned (.int .i64 0) ∧ (∃ v', DiskAt w' B p g n v' (crashK D P (cutN l) P.length) [] ∧ v'.ownBlock = v.ownBlock) ∧ Elses (Own p g v) w w' := by
  have H := Lib.hid h
  have lp := h.blk.lt
  have lg := h.dur.lt
  have hpg := h.pg
  have hc0 := h.c0
  have hc1 := h.c1
  obtain ⟨sa, cap, rfl, hsa⟩ := pend_form h.pend
  obtain ⟨ca, ccap, rfl, hca⟩ := hcv
  have HS := Lib.hid hsa
  have HC := Lib.hid (And.intro hca hfar)
  have hlen := h.few
  clear h hsa hca hfar
  go_enter Try.func25, Try.ntmps25
  go_wp2_with (go_at_call 53; refine (is_yes p g n _ _ H.out.blk H.out.pos).mono ?_; rintro e w' ⟨rfl, rfl⟩)
  go_loopw [16] (fun iv wr => ∃ k : Nat, k ≤ P.length ∧ iv = .int .i64 (k : Int) ∧ Hid (DiskAt wr B p g n (.slice sa P.length cap) (crashK D P (cutN l) k) P) ∧ Hid (Elses (Own p g (.slice sa P.length cap)) w wr)) (fun iv _ => P.length - (intOf iv).toNat)
  case atStart => exact ⟨0, Nat.zero_le _, rfl, H.out, Elses.refl _ _⟩
  case round =>
    obtain ⟨k, hk, rfl, HB, HW⟩ := hrel
    by_cases hlt : k < P.length
    · obtain ⟨q, rfl⟩ := HS.out (by omega)
      have hP := H.out.ok _ (List.getElem_mem hlt)
      obtain ⟨cw, hcw⟩ : ∃ cw, cw = cellW (P[k]).1 (P[k]).2 := ⟨_, rfl⟩
      have hl : cw.length = 513 := by rw [hcw, cellW_length, hP.2]
      have hr := range_pend HB.out.pend (fun x hx => (H.out.ok x hx).2) k hlt
      rw [← hcw] at hr
      have f1 := via_load71 wr q (k * 513) cw hr hl
      have f2 := via_store71_new wr cw hl (by rw [hcw]; exact cellW_one _ _)
      have f3 : (wr.alloc (.cells cw.toArray 94)).cell? ⟨wr.heap.size, 0, none⟩ = some (.int .i64 ((P[k]).1 : Int)) := by
        rw [(Blk.new wr cw 94).cell, hcw]
        rfl
      obtain ⟨m, hm⟩ : ∃ m, m = cutN l k := ⟨_, rfl⟩
      have hm512 : m ≤ 512 := by rw [hm]; exact cutN_le l k
      have HR := Lib.hid (show ∀ j u, (byteCells ((P[k]).2.take m))[j]? = some u → (wr.alloc (.cells cw.toArray 94)).drew.cell? ((⟨wr.heap.size, 1, none⟩ : Addr).add j) = some u from fun j u hu => by
        show (wr.alloc (.cells cw.toArray 94)).cell? _ = _
        rw [addr_add, (Blk.new wr cw 94).cell, hcw, Nat.add_comm 1]
        rw [byteCells_take, List.getElem?_take] at hu
        split at hu
        · exact hu
        · cases hu)
      have hD := HB.out.alloc (.cells cw.toArray 94)
      have hcl := crashK_length P (cutN l) H.out.len H.out.ok k hk
      have f0 : (wr.alloc (.cells cw.toArray 94)).cell? ⟨p, 0, none⟩ = some (.slice (some ⟨g, 0, none⟩) n n) := hD.c0
      have hst : splice (crashK D P (cutN l) k) ((P[k]).1 * 512) ((P[k]).2.take m) = crashK D P (cutN l) (k + 1) := by
        show _ = splice _ _ _
        rw [List.getD_eq_getElem?_getD, List.getElem?_eq_getElem hlt, Option.getD_some, hm]
      have HX := Lib.hid (And.intro hD (And.intro (crashK_length P (cutN l) H.out.len H.out.ok (k + 1) hlt) (And.intro hst (And.intro hP hcl))))
      have hx0 : (0 : Int) ≤ ((P[k]).1 : Int) := by omega
      have hxn : ((P[k]).1 : Int) < (n : Int) := by have := hP.1; omega
      have hk' : (k : Int) < (P.length : Int) := by omega
      have hm0 : (0 : Int) ≤ (m : Int) := by omega
      have hm1 : (m : Int) ≤ 512 := by omega
      by_cases hkl : k < l.length
      · obtain ⟨ad, rfl, hadl, hcell⟩ := HC.out.1 (by omega)
        have hck : wr.cell? (ad.add k) = some (.int .i64 l[k]) := by
          rw [HW.out.cell (p := ad.add k) (by rw [add_block]; exact hadl) (by rw [add_block]; exact HC.out.2 ad _ _ rfl)]
          exact hcell k hkl
        have hck' : (wr.alloc (.cells cw.toArray 94)).cell? (ad.add k) = some (.int .i64 l[k]) := by
          rw [World.cell?_alloc_lt _ _ _ (World.block_lt_of_cell? _ _ hck)]
          exact hck
        have hmm := mm_eq l[k]
        have e : (if l[k] ≤ 0 then 0 else if 512 ≤ l[k] then 512 else l[k].toNat) = m := by
          rw [hm]
          unfold cutN
          rw [List.getElem?_eq_getElem hkl]
        rw [e] at hmm
        have hkl' : (k : Int) < (l.length : Int) := by omega
        obtain ⟨c, hc⟩ : ∃ c, c = l[k] := ⟨_, rfl⟩
        rw [← hc] at hck' hmm
        clear e hc hck hm hr hcw hD hst hcl hadl hP
        go_wp2
        all_goals
          (go_region_law ((refine step_copy_at rfl (.tmp 39) (.tmp 42) 37 37 (by rfl) 5 Try.underlying37 (by kernel_rfl) g ((P[k]).1 * 512) m 512 (some ⟨wr.heap.size, 1, none⟩) m 512 (by rfl) (by rfl) (byteCells (crashK D P (cutN l) k)) 92 HX.out.1.dur.drew (byteCells ((P[k]).2.take m)) (by rw [byteCells_length, List.length_take, HX.out.2.2.2.1.2, Nat.min_eq_left hm512]; exact (Nat.min_self m).symm) (fun _ => ⟨_, rfl, HR.out⟩) (by rw [byteCells_length, byteCells_length, List.length_take, HX.out.2.2.2.1.2, HX.out.2.2.2.2]; have := HX.out.2.2.2.1.1; omega) (byteCells_one _) ?_; rw [← byteCells_splice, HX.out.2.2.1])))
        all_goals
          go_wp2
          go_roundw
          case rel => exact ⟨k + 1, by omega, by go_num, show DiskAt _ _ _ _ _ _ _ _ from HX.out.1.drew.stored rfl HX.out.2.1, show Elses _ _ _ from ((HW.out.alloc _).drew).setRow (.inl (.inr (.inl rfl))) _⟩
          case measure => simp [intOf]; omega
      · have hkl' : ¬ (k : Int) < (l.length : Int) := by omega
        have hm0' : m = 0 := by
          rw [hm]
          unfold cutN
          rw [List.getElem?_eq_none (by omega)]
        subst hm0'
        clear hm hr hcw hD hst hcl hP
        go_wp2
        all_goals
          (go_region_law ((refine step_copy_at rfl (.tmp 39) (.tmp 42) 37 37 (by rfl) 5 Try.underlying37 (by kernel_rfl) g ((P[k]).1 * 512) 0 512 (some ⟨wr.heap.size, 1, none⟩) 0 512 (by rfl) (by rfl) (byteCells (crashK D P (cutN l) k)) 92 HX.out.1.dur.drew (byteCells ((P[k]).2.take 0)) (by rw [byteCells_length, List.length_take, HX.out.2.2.2.1.2, Nat.min_eq_left hm512]; exact (Nat.min_self 0).symm) (fun _ => ⟨_, rfl, HR.out⟩) (by rw [byteCells_length, byteCells_length, List.length_take, HX.out.2.2.2.1.2, HX.out.2.2.2.2]; have := HX.out.2.2.2.1.1; omega) (byteCells_one _) ?_; rw [← byteCells_splice, HX.out.2.2.1])))
        all_goals
          go_wp2
          go_roundw
          case rel => exact ⟨k + 1, by omega, by go_num, show DiskAt _ _ _ _ _ _ _ _ from HX.out.1.drew.stored rfl HX.out.2.1, show Elses _ _ _ from ((HW.out.alloc _).drew).setRow (.inl (.inr (.inl rfl))) _⟩
          case measure => simp [intOf]; omega
    · have hk' : ¬ (k : Int) < (P.length : Int) := by omega
      obtain rfl : k = P.length := by omega
      go_wp2_with (go_at_call 54; refine (drop B p g n _ _ _ _ HB.out).mono ?_; rintro e w1 ⟨rfl, hv', hE⟩)
      go_ret
      exact ⟨rfl, hv', HW.out.trans hE⟩
end Go.Proofs.YtbbnjnpbaekfgaaM
/- The contracts of a disk's Durable and Image. -/
set_option linter.unusedVariables false
set_option linter.unusedSimpArgs false
namespace Go.Proofs.YtbbnjnpbaekfgaaM
open Go.RowKit
attribute [local go_sem ↓] exec_load71 exec_load69 exec_store71 exec_store69 exec_alloc71 exec_alloc69 exec_build71 exec_one71
attribute [local go_sem] via_alloc71 via_alloc69 via_build71 via_one71
theorem info5 : (Try.prog.info? 5).map (fun i => (i.zero, i.size, i.bytes)) = some (some (.int .u8 0), 1, 1) := by kernel_rfl
theorem take_sec (D : List UInt8) (n k : Nat) (h : D.length = n * 512) (hk : k < n) : D.take (k * 512) ++ sec D k = D.take ((k + 1) * 512) := by
  unfold sec
  rw [show (k + 1) * 512 = k * 512 + 512 by omega, List.take_add]
/-- A call gives these bytes, in memory of its own, and turns nothing. -/
def Gives (w : World) (b : List UInt8) (e : Ending) (w' : World) : Prop := ∃ v, e = .returned v ∧ w'.ownsRow w.heap.size 5 1 v b.length (byteCells b) ∧ Below w.heap.size w w'
theorem DiskAt.new {w w' : World} {B p g n : Nat} {v : Value} {D : List UInt8} {P : List (Nat × List UInt8)} (h : DiskAt w B p g n v D P) (hb : Below w.heap.size w w') : DiskAt w' B p g n v D P :=
  h.kept (S := fun k => w.heap.size ≤ k) (.of_below' hb) fun k hk => by have := (h.lt k hk).2; omega
set_option maxRecDepth 100000 in
set_option maxHeartbeats 3200000 in
theorem durable_ok (B p g n : Nat) (v : Value) (D : List UInt8) (P : List (Nat × List UInt8)) (w : World) (h : DiskAt w B p g n v D P) :
    Calls Try.prog 42 #[.pointer (some ⟨p, 0, none⟩)] w (Gives w D) := by
  have H := Lib.hid h
  have lp := h.blk.lt
  have hc0 := h.c0
  have hn := h.top
  clear h
  obtain ⟨i0, hi0, hz0, hz1, hz2⟩ := info_parts info5
  have HI := Lib.hid (And.intro hi0 (And.intro hz0 (And.intro hz1 hz2)))
  clear hi0 hz0 hz1 hz2
  go_enter Try.func42, Try.ntmps42
  go_wp2_with (go_at_call 53; refine (is_yes p g n _ _ H.out.blk H.out.pos).mono ?_; rintro e w' ⟨rfl, rfl⟩)
  go_loopw [3, 14] (fun ov iv wr => ∃ k : Nat, k ≤ n ∧ iv = .int .i64 (k : Int) ∧ Hid (wr.ownsRow w.heap.size 5 1 ov (k * 512) (byteCells (D.take (k * 512)))) ∧ Hid (Below w.heap.size w wr)) (fun _ iv _ => n - (intOf iv).toNat)
  case atStart => exact ⟨0, Nat.zero_le _, rfl, World.ownsRow_nil _ _ _ _, Below.refl _ _⟩
  case round =>
    obtain ⟨k, hk, rfl, HO, HW⟩ := hrel
    by_cases hlt : k < n
    · have hD := H.out.new HW.out
      have f1 := via_load69 wr g (k * 512) _ (range_sec hD.dur hD.len k hlt) (by rw [byteCells_length]; exact sec_length hD.len hlt)
      have f2 := via_store69_new wr (byteCells (sec D k)) (by rw [byteCells_length]; exact sec_length hD.len hlt) (byteCells_one _)
      have hsz := HW.out.size
      have HN := Lib.hid (show ∀ j u, (byteCells (sec D k))[j]? = some u → (wr.alloc (.cells (byteCells (sec D k)).toArray 92)).cell? ((⟨wr.heap.size, 0, none⟩ : Addr).add j) = some u from fun j u hu => by
        rw [addr_add, (Blk.new wr _ 92).cell, Nat.zero_add]
        exact hu)
      have HL := Lib.hid (sec_length hD.len hlt)
      have HT := Lib.hid (take_sec D n k hD.len hlt)
      have hk' : (k : Int) < (n : Int) := by omega
      clear hD
      go_wp2_with (at_builtin; refine wpList_append_lies _ rfl _ _ 37 rfl w.heap.size 5 i0 (.int .u8 0) 1 1 Try.underlying37 HI.out.1 HI.out.2.1 HI.out.2.2.1 HI.out.2.2.2 rfl (by decide) u3 (k * 512) (byteCells (D.take (k * 512))) rfl (HO.out.alloc _) ⟨wr.heap.size, 0, none⟩ 512 512 (byteCells (sec D k)) rfl (by rw [byteCells_length]; exact HL.out) HN.out (byteCells_one _) (by omega) (by unfold maxLen; omega) (by omega) (by simp; omega) (wr.heap.size + 1) (by simp) ?_; intro gg cc w1 hown1 hgrow hat1 hlt1)
      rw [← byteCells_append, HT.out] at hown1
      have hle : w.heap.size ≤ (wr.alloc (.cells (byteCells (sec D k)).toArray 92)).heap.size := by simp; omega
      have HG := Lib.hid (And.intro hown1 ((HW.out.alloc hsz (.cells (byteCells (sec D k)).toArray 92)).grown hgrow hle fun j hj => (HO.out.lt j hj).1))
      clear hown1 hgrow hat1 hlt1
      go_wp2
      go_roundw
      case rel => exact ⟨k + 1, by omega, by go_num, show World.ownsRow _ _ _ _ _ _ _ by rw [show (k + 1) * 512 = k * 512 + 512 by omega] at *; exact HG.out.1, show Below _ _ _ from HG.out.2⟩
      case measure => simp [intOf]; omega
    · have hk' : ¬ (k : Int) < (n : Int) := by omega
      obtain rfl : k = n := by omega
      go_wp2
      go_ret
      refine ⟨_, rfl, ?_, HW.out⟩
      have := HO.out
      rw [← H.out.len, List.take_length] at this
      exact this
end Go.Proofs.YtbbnjnpbaekfgaaM
/- The contract of a disk's Image: what is read is what a sync would make durable. -/
set_option linter.unusedVariables false
set_option linter.unusedSimpArgs false
namespace Go.Proofs.YtbbnjnpbaekfgaaM
open Go.RowKit
attribute [local go_sem ↓] exec_load71 exec_load69 exec_store71 exec_store69 exec_alloc71 exec_alloc69 exec_build71 exec_one71
attribute [local go_sem] via_alloc71 via_alloc69 via_build71 via_one71
theorem splice_get {α : Type} (L cs : List α) (o j : Nat) (h : o + cs.length ≤ L.length) : (splice L o cs)[j]? = if o ≤ j ∧ j < o + cs.length then cs[j - o]? else L[j]? := by
  unfold splice
  have ho : (L.take o).length = o := by rw [List.length_take]; omega
  by_cases h1 : j < o
  · rw [List.getElem?_append_left (by omega), List.getElem?_take, if_pos h1, if_neg (by omega)]
  · rw [List.getElem?_append_right (by omega), ho]
    by_cases h2 : j < o + cs.length
    · rw [List.getElem?_append_left (by omega), if_pos (by omega)]
    · rw [List.getElem?_append_right (by omega), if_neg (by omega), List.getElem?_drop]
      congr 1
      omega
theorem sec_get (D : List UInt8) (i j : Nat) : (sec D i)[j]? = if j < 512 then D[i * 512 + j]? else none := by
  unfold sec
  rw [List.getElem?_take, List.getElem?_drop]
theorem sec_splice (L b : List UInt8) (n x i : Nat) (hL : L.length = n * 512) (hx : x < n) (hb : b.length = 512) : sec (splice L (x * 512) b) i = if x = i then b else sec L i := by
  apply List.ext_getElem?
  intro j
  rw [sec_get, splice_get _ _ _ _ (by omega)]
  by_cases hj : j < 512
  · rw [if_pos hj]
    by_cases he : x = i
    · subst he
      rw [if_pos (by omega), if_pos rfl]
      congr 1
      omega
    · rw [if_neg (by omega), if_neg he, sec_get, if_pos hj]
  · rw [if_neg hj]
    split
    · rw [List.getElem?_eq_none (by omega)]
    · rw [sec_get, if_neg hj]
/-- What a sync makes durable. -/
def syncD (D : List UInt8) (P : List (Nat × List UInt8)) : List UInt8 := crashK D P (fun _ => 512) P.length
theorem syncD_length {D : List UInt8} {n : Nat} (P : List (Nat × List UInt8)) (h : D.length = n * 512) (hP : ∀ x ∈ P, x.1 < n ∧ x.2.length = 512) : (syncD D P).length = n * 512 := crashK_length P _ h hP _ (Nat.le_refl _)
theorem readP_sync {D : List UInt8} {n : Nat} (P : List (Nat × List UInt8)) (h : D.length = n * 512) (hP : ∀ x ∈ P, x.1 < n ∧ x.2.length = 512) (i : Nat) : ∀ k, k ≤ P.length → readP D (P.take k) i = sec (crashK D P (fun _ => 512) k) i
  | 0, _ => rfl
  | k + 1, hk => by
    have hlt : k < P.length := by omega
    have ih := readP_sync P h hP i k (by omega)
    have hx := hP _ (List.getElem_mem hlt)
    rw [readP_snoc D P i k hlt, ih]
    show _ = sec (splice _ _ _) i
    rw [List.getD_eq_getElem?_getD, List.getElem?_eq_getElem hlt, Option.getD_some, List.take_of_length_le (by show (P[k]).2.length ≤ 512; omega), sec_splice _ _ n _ _ (crashK_length P _ h hP k (by omega)) hx.1 hx.2]
theorem readP_sec {D : List UInt8} {n : Nat} (P : List (Nat × List UInt8)) (h : D.length = n * 512) (hP : ∀ x ∈ P, x.1 < n ∧ x.2.length = 512) (i : Nat) : readP D P i = sec (syncD D P) i := by
  have := readP_sync P h hP i P.length (Nat.le_refl _)
  rw [List.take_length] at this
  exact this
set_option maxRecDepth 100000 in
set_option maxHeartbeats 400000 in
theorem image_ok (B p g n : Nat) (v : Value) (D : List UInt8) (P : List (Nat × List UInt8)) (w : World) (h : DiskAt w B p g n v D P) :
    Calls Try.prog 19 #[.pointer (some ⟨p, 0, none⟩)] w (Gives w (syncD D P)) := by
  have H := Lib.hid h
  have hn := h.top
  have HL := Lib.hid (syncD_length P h.len h.ok)
  have HR := Lib.hid (readP_sec P h.len h.ok)
  clear h
  obtain ⟨i0, hi0, hz0, hz1, hz2⟩ := info_parts info5
  have HI := Lib.hid (And.intro hi0 (And.intro hz0 (And.intro hz1 hz2)))
  clear hi0 hz0 hz1 hz2
  obtain ⟨S, hS⟩ : ∃ S, S = syncD D P := ⟨_, rfl⟩
  rw [← hS] at HL HR ⊢
  clear hS
  go_enter Try.func19, Try.ntmps19
  go_wp2_with (go_at_call 43; refine (sectors p g n _ _ H.out.blk H.out.pos).mono ?_; rintro e w' ⟨rfl, rfl⟩)
  go_loopw [3, 9] (fun ov iv wr => ∃ k : Nat, k ≤ n ∧ iv = .int .i64 (k : Int) ∧ Hid (wr.ownsRow w.heap.size 5 1 ov (k * 512) (byteCells (S.take (k * 512)))) ∧ Hid (Below w.heap.size w wr)) (fun _ iv _ => n - (intOf iv).toNat)
  case atStart => exact ⟨0, Nat.zero_le _, rfl, World.ownsRow_nil _ _ _ _, Below.refl _ _⟩
  case round =>
    obtain ⟨k, hk, rfl, HO, HW⟩ := hrel
    by_cases hlt : k < n
    · have HD := Lib.hid (H.out.new HW.out)
      have hsz := HW.out.size
      have HT := Lib.hid (take_sec S n k HL.out hlt)
      have HK := Lib.hid (sec_length HL.out hlt)
      have hk' : (k : Int) < (n : Int) := by omega
      go_wp2_with fail
      refine (read_ok B p g n v D P wr HD.out k hlt).mono ?_
      rintro e w1 ⟨rfl, hb1, hw1⟩
      rw [HR.out] at hb1
      have HN := Lib.hid (show ∀ j u, (byteCells (sec S k))[j]? = some u → w1.cell? ((⟨wr.heap.size, 0, none⟩ : Addr).add j) = some u from fun j u hu => by
        rw [addr_add, hb1.cell, Nat.zero_add]
        exact hu)
      have HO1 := Lib.hid (ownsRow_kept HO.out (Elses.of_below' (S := fun k => wr.heap.size ≤ k) hw1) fun j hj => by have := (HO.out.lt j hj).2; omega)
      have HW1 := Lib.hid (HW.out.trans (hw1.mono hsz))
      have hsz1 := hw1.size
      clear hb1 hw1
      go_wp2_with (at_builtin; refine wpList_append_lies _ rfl _ _ 37 rfl w.heap.size 5 i0 (.int .u8 0) 1 1 Try.underlying37 HI.out.1 HI.out.2.1 HI.out.2.2.1 HI.out.2.2.2 rfl (by decide) u3 (k * 512) (byteCells (S.take (k * 512))) rfl HO1.out ⟨wr.heap.size, 0, none⟩ 512 512 (byteCells (sec S k)) rfl (by rw [byteCells_length]; exact HK.out) HN.out (byteCells_one _) (by omega) (by unfold maxLen; omega) (by omega) (by omega) w1.heap.size rfl ?_; intro gg cc w2 hown1 hgrow hat1 hlt1)
      rw [← byteCells_append, HT.out] at hown1
      have HG := Lib.hid (And.intro hown1 (HW1.out.grown hgrow (by omega) fun j hj => (HO1.out.lt j hj).1))
      clear hown1 hgrow hat1 hlt1
      go_wp2
      go_roundw
      case rel => exact ⟨k + 1, by omega, by go_num, show World.ownsRow _ _ _ _ _ _ _ by rw [show (k + 1) * 512 = k * 512 + 512 by omega] at *; exact HG.out.1, show Below _ _ _ from HG.out.2⟩
      case measure => simp [intOf]; omega
    · have hk' : ¬ (k : Int) < (n : Int) := by omega
      obtain rfl : k = n := by omega
      go_wp2
      go_ret
      refine ⟨_, rfl, ?_, HW.out⟩
      have := HO.out
      rw [← HL.out, List.take_length] at this
      exact this
end Go.Proofs.YtbbnjnpbaekfgaaM
/- The contract of disk.Of. -/
set_option linter.unusedVariables false
set_option linter.unusedSimpArgs false
namespace Go.Proofs.YtbbnjnpbaekfgaaM
open Go.RowKit
attribute [local go_sem ↓] exec_load71 exec_load69 exec_store71 exec_store69 exec_alloc71 exec_alloc69 exec_build71 exec_one71
attribute [local go_sem] via_alloc71 via_alloc69 via_build71 via_one71
theorem of_odd (a : Option Addr) (l c : Nat) (h : l % 512 ≠ 0) (w : World) :
    Calls Try.prog 35 #[.slice a l c] w fun e w' => e = .returned (.tuple #[.pointer none, .int .i64 2]) ∧ w = w' := by
  have h1 : ((l : Int) % 512 == 0) = false := by rw [beq_eq_false_iff_ne]; omega
  have h2 : ((l : Int) % 512 != 0) = true := by rw [bne_iff_ne]; omega
  have h3 : ¬ ((l : Int) % 512 = 0) := by omega
  go_enter Try.func35, Try.ntmps35
  go_wp2
  go_ret2
  exact ⟨rfl, rfl⟩
set_option maxHeartbeats 1000000 in
theorem of_size (a : Option Addr) (l c n : Nat) (h : l = n * 512) (hm : l ≤ maxLen) (hn : n < 1 ∨ 1024 < n) (w : World) :
    Calls Try.prog 35 #[.slice a l c] w fun e w' => e = .returned (.tuple #[.pointer none, .int .i64 2]) ∧ w = w' := by
  subst h
  have h1 : ((↑(n * 512) : Int) % 512 == 0) = true := by rw [beq_iff_eq]; omega
  have h2 : ((↑(n * 512) : Int) % 512 != 0) = false := by rw [bne_eq_false_iff_eq]; omega
  have h3 : ((n : Int) * 512) % 512 = 0 := by omega
  have h4 : ((n : Int) * 512) / 512 = n := by omega
  unfold maxLen at hm
  have hm' : (n : Int) ≤ 100000000000000000 := by omega
  have hn0 : (0 : Int) ≤ (n : Int) := by omega
  have HN := Lib.hid (show (n : Int) < 1 ∨ 1024 < (n : Int) by omega)
  clear hn
  go_enter Try.func35, Try.ntmps35
  go_wp2_with (go_at_call 13; ((with_reducible refine (new_no n HN.out _).mono ?_); rintro e w' ⟨rfl, rfl⟩))
  go_ret2
  exact ⟨rfl, rfl⟩
theorem sec_zero_step (img : List UInt8) (n k : Nat) (h : img.length = n * 512) (hk : k < n) : splice (img.take (k * 512) ++ zeros ((n - k) * 512)) (k * 512) (sec img k) = img.take ((k + 1) * 512) ++ zeros ((n - (k + 1)) * 512) := by
  have hl : (img.take (k * 512)).length = k * 512 := by rw [List.length_take]; omega
  have hs := sec_length h hk
  unfold splice
  rw [List.take_append_of_le_length (by omega), List.take_of_length_le (by omega), List.drop_append, List.drop_eq_nil_of_le (by omega), List.nil_append, hl, hs, ← List.append_assoc, take_sec img n k h hk]
  congr 1
  unfold zeros
  rw [List.drop_replicate]
  congr 1
  omega
set_option maxRecDepth 100000 in
set_option maxHeartbeats 1000000 in
theorem of_ok (img : List UInt8) (n : Nat) (hl : img.length = n * 512) (h1 : 0 < n) (h2 : n ≤ 1024) (w : World) (s cap : Nat) (hcap : n * 512 ≤ cap) (hcm : cap ≤ maxLen) (hsrc : ∀ j u, (byteCells img)[j]? = some u → w.cell? ⟨s, j, none⟩ = some u) :
    Calls Try.prog 35 #[.slice (some ⟨s, 0, none⟩) (n * 512) cap] w fun e w' => e = .returned (.tuple #[.pointer (some ⟨w.heap.size + 1, 0, none⟩), .int .i64 0]) ∧
      DiskAt w' w.heap.size (w.heap.size + 1) w.heap.size n (.slice none 0 0) img [] ∧ Below w.heap.size w w' := by
  have hs : s < w.heap.size := by
    have h0 : 0 < (byteCells img).length := by rw [byteCells_length]; omega
    exact World.block_lt_of_cell? w _ (hsrc 0 _ (List.getElem?_eq_getElem h0))
  have HS := Lib.hid hsrc
  have HL := Lib.hid hl
  clear hl
  unfold maxLen at hcm
  have h1a : ((↑(n * 512) : Int) % 512 == 0) = true := by rw [beq_iff_eq]; omega
  have h2a : ((↑(n * 512) : Int) % 512 != 0) = false := by rw [bne_eq_false_iff_eq]; omega
  have h3a : ((n : Int) * 512) % 512 = 0 := by omega
  have h4a : ((n : Int) * 512) / 512 = n := by omega
  clear hsrc
  go_enter Try.func35, Try.ntmps35
  go_wp2_with (go_at_call 13; refine (new_ok n h1 h2 _).mono ?_; rintro e w1 ⟨rfl, hd1, hb1⟩; have HD1 := Lib.hid (And.intro hd1 hb1); have hc0 := hd1.c0; clear hd1 hb1)
  go_loopw [26] (fun iv wr => ∃ k : Nat, k ≤ n ∧ iv = .int .i64 (k : Int) ∧ Hid (DiskAt wr w.heap.size (w.heap.size + 1) w.heap.size n (.slice none 0 0) (img.take (k * 512) ++ zeros ((n - k) * 512)) []) ∧ Hid (Below w.heap.size w wr)) (fun iv _ => n - (intOf iv).toNat)
  case atStart => exact ⟨0, Nat.zero_le _, rfl, show DiskAt _ _ _ _ _ _ _ _ by simpa using HD1.out.1, HD1.out.2⟩
  case round =>
    obtain ⟨k, hk, rfl, HD, HW⟩ := hrel
    by_cases hlt : k < n
    · have hc := HD.out.c0
      have hk' : (k : Int) < (n : Int) := by omega
      have hk0 : (0 : Int) ≤ (k : Int) := by omega
      have b0 : (0 : Int) ≤ (k : Int) * 512 := by omega
      have b1 : (k : Int) * 512 ≤ ((n * 512 : Nat) : Int) := by omega
      have b2 : (k : Int) * 512 ≤ (n : Int) * 512 := by omega
      have b3 : (k : Int) * 512 ≤ (cap : Int) := by omega
      have b4 : IntKind.i64.wrap ((k : Int) * 512) = (k : Int) * 512 := by rw [IntKind.wrap_i64]; omega
      have b5 : ((k : Int) * 512).toNat = k * 512 := by omega
      have b6 : ¬ cap = k * 512 := by omega
      have HC := Lib.hid (And.intro (sec_zero_step img n k HL.out hlt) (sec_length HL.out hlt))
      have HN := Lib.hid (show ∀ j u, (byteCells (sec img k))[j]? = some u → wr.drew.cell? ((⟨s, k * 512, none⟩ : Addr).add j) = some u from fun j u hu => by
        show wr.cell? _ = _
        rw [addr_add, HW.out.cell (p := ⟨s, k * 512 + j, none⟩) hs]
        apply HS.out
        unfold sec at hu
        rw [byteCells_take, byteCells_drop, List.getElem?_take] at hu
        split at hu
        · rw [List.getElem?_drop] at hu
          exact hu
        · cases hu)
      go_wp2
      go_region_law ((refine step_copy_at rfl (.tmp 35) (.tmp 39) 37 37 (by rfl) 5 Try.underlying37 (by kernel_rfl) w.heap.size (k * 512) 512 512 (some ⟨s, k * 512, none⟩) (n * 512 - k * 512) (cap - k * 512) (by rfl) (by rfl) (byteCells (img.take (k * 512) ++ zeros ((n - k) * 512))) 92 HD.out.dur.drew (byteCells (sec img k)) (by rw [byteCells_length, HC.out.2]; exact (Nat.min_eq_right (by omega)).symm) (fun _ => ⟨_, rfl, HN.out⟩) (by rw [byteCells_length, byteCells_length, HC.out.2, List.length_append, List.length_take, zeros_length, HL.out]; omega) (byteCells_one _) ?_; rw [← byteCells_splice, HC.out.1]))
      all_goals
        go_wp2
        go_roundw
        case rel => exact ⟨k + 1, by omega, by go_num, show DiskAt _ _ _ _ _ _ _ _ from HD.out.drew.stored rfl (by rw [List.length_append, List.length_take, zeros_length, HL.out]; omega), show Below _ _ _ from below_setRow HW.out.drew (Nat.le_refl _) _⟩
        case measure => simp [intOf]; omega
    · have hk' : ¬ (k : Int) < (n : Int) := by omega
      obtain rfl : k = n := by omega
      go_wp2
      go_ret2
      have := HD.out
      rw [← HL.out, List.take_length, Nat.sub_self, Nat.zero_mul] at this
      exact ⟨rfl, by simpa [zeros] using this, HW.out⟩
end Go.Proofs.YtbbnjnpbaekfgaaM
