/- Plain lemmas of this session's own: blocks of memory, what is kept but for some of them, and rows of bytes. -/
import Derived.Below
import Derived.WalkKit
import Derived.Lib.Hide
import Derived.Laws.IdiomStrings
import Derived.Laws.CopyOwn
import Derived.Laws.MakeOwn
import Derived.Laws.Rows
import Derived.Laws.Tables
import Derived.Laws.CopyRow
import Derived.Deep.DeepAppendWide
import Derived.Deep.WholeRow
import Derived.Deep.MidRow
set_option linter.unusedVariables false
set_option linter.unusedSimpArgs false
namespace Go.Proofs.YtlmhgnkkdjpkcaaDoorM
open Go.RowKit
structure Elses (S : Nat → Prop) (w w' : World) : Prop where
 os : w'.os = w.os
 tape : w'.tape = w.tape
 output : w'.output = w.output
 size : w.heap.size ≤ w'.heap.size
 block : ∀ k, ¬ S k → k < w.heap.size → w'.heap[k]? = w.heap[k]?
section
variable {S T : Nat → Prop} {a b c w : World}
theorem Elses.refl (S : Nat → Prop) (w : World) : Elses S w w := ⟨rfl, rfl, rfl, Nat.le_refl _, fun _ _ _ => rfl⟩
theorem Elses.trans' (h : Elses S a b) (k : Elses T b c) (hT : ∀ i, T i → S i ∨ a.heap.size ≤ i) : Elses S a c :=
 ⟨k.os.trans h.os, k.tape.trans h.tape, k.output.trans h.output, Nat.le_trans h.size k.size, fun i hi hs =>
  (k.block i (fun ht => (hT i ht).elim hi (fun h2 => absurd hs (by omega))) (Nat.lt_of_lt_of_le hs h.size)).trans (h.block i hi hs)⟩
theorem Elses.trans (h : Elses S a b) (k : Elses S b c) : Elses S a c := h.trans' k fun _ h => .inl h
theorem Elses.mono (h : Elses S a b) (hS : ∀ i, S i → T i) : Elses T a b := ⟨h.os, h.tape, h.output, h.size, fun i hi hs => h.block i (fun x => hi (hS i x)) hs⟩
theorem Elses.mono' (h : Elses S a b) (hS : ∀ i, i < a.heap.size → S i → T i) : Elses T a b := ⟨h.os, h.tape, h.output, h.size, fun i hi hs => h.block i (fun x => hi (hS i hs x)) hs⟩
theorem Elses.drew (h : Elses S a w) : Elses S a w.drew := ⟨h.os, h.tape, h.output, h.size, h.block⟩
theorem Elses.alloc (h : Elses S a w) (o : Obj) : Elses S a (w.alloc o) :=
 ⟨h.os, h.tape, h.output, Nat.le_trans h.size (by simp), fun k hk hs => (Below.heap_alloc _ _ _ (Nat.lt_of_lt_of_le hs h.size)).trans (h.block k hk hs)⟩
theorem Elses.set (h : Elses S a w) {p : Addr} (hp : S p.block ∨ a.heap.size ≤ p.block) (v : Value) : Elses S a (w.setCell p v) :=
 ⟨h.os, h.tape, h.output, Nat.le_trans h.size (by simp [World.setCell]), fun k hk hs =>
  (Below.heap_setCell _ _ _ _ (fun e => hp.elim (fun x => hk (by rw [e]; exact x)) (fun x => by omega))).trans (h.block k hk hs)⟩
theorem Elses.setRow (h : Elses S a w) {g : Nat} (hp : S g ∨ a.heap.size ≤ g) (cs : Array Value) : Elses S a (w.setRow g cs) :=
 ⟨h.os, h.tape, h.output, Nat.le_trans h.size (by simp [World.setRow]), fun k hk hs =>
  (setRow_other w g k cs (fun e => hp.elim (fun x => hk (by rw [e]; exact x)) (fun x => by omega))).trans (h.block k hk hs)⟩
theorem Elses.grown (h : Elses S a w) {w' : World} {row : Option Nat} (hg : w.grownBy w' row) (hr : ∀ k, row = some k → S k ∨ a.heap.size ≤ k) : Elses S a w' :=
 ⟨hg.os.trans h.os, hg.tape.trans h.tape, hg.output.trans h.output, Nat.le_trans h.size hg.size, fun k hk hs =>
  (hg.block k (Nat.lt_of_lt_of_le hs h.size) (fun e => (hr k e.symm).elim hk (fun x => by omega))).trans (h.block k hk hs)⟩
theorem Elses.below (h : Elses S a w) {n : Nat} (hn : n ≤ a.heap.size) (hS : ∀ i, S i → n ≤ i) : Below n a w :=
 ⟨h.os, h.tape, h.output, h.size, fun k hk => h.block k (fun x => by have := hS k x; omega) (by omega)⟩
theorem Elses.of_below {n : Nat} (h : Below n a w) (hn : ∀ i, i < a.heap.size → ¬ S i → i < n) : Elses S a w := ⟨h.os, h.tape, h.output, h.size, fun k hk hs => h.block k (hn k hs hk)⟩
theorem Elses.of_new {a w : World} (h : Below a.heap.size a w) : Elses S a w := .of_below h fun _ h _ => h
theorem Elses.cell (h : Elses S a w) {p : Addr} (hp : p.block < a.heap.size) (hS : ¬ S p.block) : w.cell? p = a.cell? p := World.cell?_of_block (w := a) (h.block p.block hS hp)
theorem Elses.frozen (h : Elses S a w) {p : Addr} (hp : p.block < a.heap.size) (hS : ¬ S p.block) : w.frozen? p = a.frozen? p := World.frozen?_of_block (w := a) (h.block p.block hS hp)
end
def Blk (w : World) (I : Nat) (c : List Value) (t : TypeId) : Prop := w.heap[I]? = some (.cells c.toArray t (0, 0))
section
variable {w w' : World} {I J : Nat} {c : List Value} {t : TypeId}
theorem Blk.lt (h : Blk w I c t) : I < w.heap.size := (Array.getElem?_eq_some_iff.1 h).1
theorem Blk.cell (h : Blk w I c t) (o : Nat) : w.cell? ⟨I, o, none⟩ = c[o]? := by
 unfold Blk at h
 simp [World.cell?, h]
theorem Blk.frozen (h : Blk w I c t) (o : Nat) : w.frozen? ⟨I, o, none⟩ = false := by
 unfold Blk at h
 simp [World.frozen?, h]
theorem Blk.kept {S : Nat → Prop} (h : Blk w I c t) (hE : Elses S w w') (hI : ¬ S I) : Blk w' I c t := (hE.block I hI h.lt).trans h
theorem Blk.below {B : Nat} (h : Blk w I c t) (hb : Below B w w') (hI : I < B) : Blk w' I c t := (hb.block I hI).trans h
theorem Blk.alloc (h : Blk w I c t) (o : Obj) : Blk (w.alloc o) I c t := (Below.heap_alloc _ _ _ h.lt).trans h
theorem Blk.drew (h : Blk w I c t) : Blk w.drew I c t := h
theorem Blk.set (h : Blk w I c t) (o : Nat) (v : Value) : Blk (w.setCell ⟨I, o, none⟩ v) I (c.set o v) t := by
 unfold Blk at h ⊢
 simp [World.setCell, Array.getElem?_modify, h]
theorem Blk.setElse (h : Blk w I c t) (hJ : I ≠ J) (o : Nat) (v : Value) : Blk (w.setCell ⟨J, o, none⟩ v) I c t := (Below.heap_setCell _ _ _ _ hJ).trans h
theorem Blk.setRow (h : Blk w I c t) (d : List Value) : Blk (w.setRow I d.toArray) I d t := setRow_heap w I _ _ t _ h
theorem Blk.setRowElse (h : Blk w I c t) (hJ : I ≠ J) (d : Array Value) : Blk (w.setRow J d) I c t := (setRow_other w J I d hJ).trans h
theorem Blk.new (w : World) (c : List Value) (t : TypeId) : Blk (w.alloc (.cells c.toArray t)) w.heap.size c t := by
 unfold Blk
 show (w.heap.push _)[w.heap.size]? = _
 simp
theorem Blk.cells (h : Blk w I c t) (o : Nat) (cs : List Value) (hc : (c.drop o).take cs.length = cs) : ∀ j v, cs[j]? = some v → w.cell? ((⟨I, o, none⟩ : Addr).add j) = some v := by
 intro j v hj
 have hadd : (⟨I, o, none⟩ : Addr).add j = ⟨I, o + j, none⟩ := by unfold Addr.add; split <;> simp_all
 rw [hadd, h.cell]
 have hl : j < cs.length := (List.getElem?_eq_some_iff.1 hj).1
 rw [← hc, List.getElem?_take, if_pos hl, List.getElem?_drop] at hj
 exact hj
end
theorem addr_add (I o j : Nat) : (⟨I, o, none⟩ : Addr).add j = ⟨I, o + j, none⟩ := by unfold Addr.add; split <;> simp_all
def byteCells (l : List UInt8) : List Value := l.map fun b => .int .u8 (b.toNat : Int)
theorem byteCells_length (l : List UInt8) : (byteCells l).length = l.length := by simp [byteCells]
theorem byteCells_append (l m : List UInt8) : byteCells (l ++ m) = byteCells l ++ byteCells m := by simp [byteCells]
theorem byteCells_take (l : List UInt8) (n : Nat) : byteCells (l.take n) = (byteCells l).take n := by simp [byteCells, List.map_take]
theorem byteCells_drop (l : List UInt8) (n : Nat) : byteCells (l.drop n) = (byteCells l).drop n := by simp [byteCells, List.map_drop]
theorem byteCells_one (l : List UInt8) : ∀ v ∈ byteCells l, v.oneCell' = true := by
 intro v hv
 obtain ⟨b, _, rfl⟩ := List.mem_map.1 hv
 rfl
theorem byteCells_splice (l m : List UInt8) (o : Nat) : byteCells (splice l o m) = splice (byteCells l) o (byteCells m) := by
 unfold splice
 rw [byteCells_append, byteCells_append, byteCells_take, byteCells_drop, byteCells_length]
def zeros (n : Nat) : List UInt8 := List.replicate n 0
theorem zeros_length (n : Nat) : (zeros n).length = n := List.length_replicate
theorem byteCells_get {l : List UInt8} {i : Nat} (h : i < (byteCells l).length) : (byteCells l)[i] = .int .u8 ((l[i]'(by rw [byteCells_length] at h; exact h)).toNat : Int) := List.getElem_map _ (h := h)
theorem zeros_get {n i : Nat} (h : i < (zeros n).length) : (zeros n)[i] = 0 := List.getElem_replicate h
theorem wpList_run {P : Program} {ops : Array Oper} {rest : List Oper} {o : Oper} {a : Act} {w : World} {Q : Exit → Act → World → Prop} (v : Value) (w' : World) (hgd : o.guard = none)
  (hr : (execOp a.eval o).run P w = .ok (.value v) w') (h : wpList P ops Q rest (a.put o.dst v) w') : wpList P ops Q (o :: rest) a w :=
 wpList_plain hgd fun _ hK => by
  unfold Oper.wp
  rw [hr]
  exact hK _ _ h
theorem wpList_runs {P : Program} {ops : Array Oper} {rest : List Oper} {o : Oper} {a : Act} {w : World} {Q : Exit → Act → World → Prop} (w' : World) (hgd : o.guard = none)
  (hr : (execOp a.eval o).run P w = .ok .skip w') (h : wpList P ops Q rest (a.put o.dst undef) w') : wpList P ops Q (o :: rest) a w :=
 wpList_plain hgd fun _ hK => by
  unfold Oper.wp
  rw [hr]
  exact hK _ _ h
theorem wpList_makes {P : Program} {ops : Array Oper} {rest : List Oper} {o : Oper} {a : Act} {w : World} {Q : Exit → Act → World → Prop} (hgd : o.guard = none) (t : TypeId) (l c : Operand) (ho : o.op = .makeSlice t l c)
  (v : Value) (w' : World) (hr : (Instr.makeSlice t (a.eval l) (a.eval c)).run P w = .ok v w') (h : wpList P ops Q rest (a.put o.dst v) w') : wpList P ops Q (o :: rest) a w := by
 refine wpList_plain hgd fun _ hK => ?_
 unfold Oper.wp execOp
 simp only [ho, Sem.run_bind, hr, Result.andThen_ok, Sem.run_pure]
 exact hK _ _ h
theorem run_load_at {P : Program} (w : World) (I o : Nat) (t ty : TypeId) (c cs : List Value) (d : TypeDesc) (h : Blk w I c t) (hc : (c.drop o).take cs.length = cs)
  (hu : P.underlying ty = some d) (hd : (match d with | .struct _ | .array _ _ => true | _ => false) = true) (hi : (P.info? ty).map (·.size) = some cs.length) :
  (Instr.loadAt ty (.pointer (some ⟨I, o, none⟩))).run P w = .ok (.agg cs.toArray) w := by
 have hl := run_loadCells_list (P := P) w ⟨I, o, none⟩ cs (h.cells o cs hc)
 cases hq : P.info? ty with
 | none => simp [hq] at hi
 | some i =>
  have hs : i.size = cs.length := by simpa [hq] using hi
  have hagg : (isAgg ty).run P w = .ok true w := by
   unfold isAgg
   rw [Sem.run_bind, run_underlying hu w]
   cases d <;> simp_all
  simp [Instr.loadAt, Instr.sureAddr, loadVar, Sem.run_bind, hagg, sizeOf, typeInfo, hq, hs, hl]
theorem run_store_at {P : Program} (w : World) (I o : Nat) (t ty : TypeId) (c cs : List Value) (h : Blk w I c t) (hfit : o + cs.length ≤ c.length)
  (hi : (P.info? ty).map (·.size) = some cs.length) (h1 : ∀ v ∈ cs, v.oneCell' = true) :
  (Instr.storeAt ty (.pointer (some ⟨I, o, none⟩)) (.agg cs.toArray)).run P w = .ok () (w.setRow I (splice c o cs).toArray) := by
 have hst := run_storeCells_at P I o t cs 0 c.toArray w h (by simpa using hfit) h1
 cases hq : P.info? ty with
 | none => simp [hq] at hi
 | some i =>
  have hs : cs.length = i.size := by simp [hq] at hi; omega
  simp [Instr.storeAt, Instr.sureAddr, storeVar, sizeOf, typeInfo, hq, Value.cells, hs]
  rw [hst]
  simp [splice, hs]
theorem wpList_load_at {P : Program} {ops : Array Oper} {rest : List Oper} {o : Oper} {a : Act} {w : World} {Q : Exit → Act → World → Prop} (hgd : o.guard = none) (ty : TypeId) (x : Operand) (ho : o.op = .load ty x)
  (I k : Nat) (hx : a.eval x = .pointer (some ⟨I, k, none⟩)) (t : TypeId) (c cs : List Value) (d : TypeDesc) (hb : Blk w I c t) (hc : (c.drop k).take cs.length = cs)
  (hu : P.underlying ty = some d) (hd : (match d with | .struct _ | .array _ _ => true | _ => false) = true) (hi : (P.info? ty).map (·.size) = some cs.length)
  (h : wpList P ops Q rest (a.put o.dst (.agg cs.toArray)) w) : wpList P ops Q (o :: rest) a w := by
 refine wpList_run (.agg cs.toArray) w hgd ?_ h
 unfold execOp
 simp only [ho, hx, Sem.run_bind, run_load_at w I k t ty c cs d hb hc hu hd hi, Result.andThen_ok, Sem.run_pure]
theorem wpList_store_at {P : Program} {ops : Array Oper} {rest : List Oper} {o : Oper} {a : Act} {w : World} {Q : Exit → Act → World → Prop} (hgd : o.guard = none) (ty : TypeId) (x y : Operand) (ho : o.op = .store ty x y)
  (I k : Nat) (cs : List Value) (hx : a.eval x = .pointer (some ⟨I, k, none⟩)) (hy : a.eval y = .agg cs.toArray) (t : TypeId) (c : List Value) (hb : Blk w I c t) (hfit : k + cs.length ≤ c.length)
  (hi : (P.info? ty).map (·.size) = some cs.length) (h1 : ∀ v ∈ cs, v.oneCell' = true)
  (h : wpList P ops Q rest (a.put o.dst undef) (w.setRow I (splice c k cs).toArray)) : wpList P ops Q (o :: rest) a w := by
 refine wpList_runs (w.setRow I (splice c k cs).toArray) hgd ?_ h
 unfold execOp
 simp only [ho, hx, hy, Sem.run_bind, run_store_at w I k t ty c cs hb hfit hi h1, Result.andThen_ok, Sem.run_pure]
theorem Blk.addcells {w : World} {I : Nat} {c : List Value} {t : TypeId} (h : Blk w I c t) (o : Nat) (cs : List Value) (hc : (c.drop o).take cs.length = cs) : ∀ j v, cs[j]? = some v → w.cell? ((⟨I, o, none⟩ : Addr).add j) = some v := h.cells o cs hc
theorem wpList_store_new {P : Program} {ops : Array Oper} {rest : List Oper} {o : Oper} {a : Act} {w : World} {Q : Exit → Act → World → Prop} (hgd : o.guard = none) (ty : TypeId) (x y : Operand) (ho : o.op = .store ty x y)
  (c cs : List Value) (t : TypeId) (hx : a.eval x = .pointer (some ⟨w.heap.size, 0, none⟩)) (hy : a.eval y = .agg cs.toArray) (hl : c.length = cs.length)
  (hi : (P.info? ty).map (·.size) = some cs.length) (h1 : ∀ v ∈ cs, v.oneCell' = true)
  (h : wpList P ops Q rest (a.put o.dst undef) (w.alloc (.cells cs.toArray t))) : wpList P ops Q (o :: rest) a (w.alloc (.cells c.toArray t)) := by
 refine wpList_store_at hgd ty x y ho w.heap.size 0 cs hx hy t c (Blk.new w c t) (by omega) hi h1 ?_
 have e : (w.alloc (.cells c.toArray t)).setRow w.heap.size (splice c 0 cs).toArray = w.alloc (.cells cs.toArray t) := by
  have hs : splice c 0 cs = cs := by unfold splice; rw [List.drop_eq_nil_of_le (by omega)]; simp
  rw [hs, World.setRow_alloc_new]
 rw [e]
 exact h
theorem wpList_copy_at {P : Program} {w : World} {ops : Array Oper} {rest : List Oper} {o : Oper} {a : Act} {Q : Exit → Act → World → Prop} (hgd : o.guard = none) (d s : Operand) (dT sT : TypeId)
  (ho : o.op = .call { callee := .builtin .copy, args := #[d, s], argTypes := #[dT, sT] }) (elem : TypeId) (hu : P.underlying dT = some (.slice elem)) (hsz : (P.info? elem).map (·.size) = some 1)
  (g off dLen dCap : Nat) (sp : Option Addr) (sLen sCap : Nat) (hd : a.eval d = .slice (some ⟨g, off, none⟩) dLen dCap) (hs : a.eval s = .slice sp sLen sCap)
  (c : List Value) (t : TypeId) (hg : Blk w g c t) (cs : List Value) (hn : cs.length = Nat.min sLen dLen)
  (hsrc : 0 < cs.length → ∃ ad, sp = some ad ∧ ∀ j v, cs[j]? = some v → w.cell? (ad.add j) = some v)
  (hfit : off + cs.length ≤ c.length) (h1 : ∀ v ∈ cs, v.oneCell' = true)
  (h : wpList P ops Q rest (a.put o.dst (goInt cs.length)) (w.setRow g (splice c off cs).toArray)) : wpList P ops Q (o :: rest) a w := by
 by_cases h0 : cs.length = 0
 ·obtain rfl : cs = [] := List.eq_nil_of_length_eq_zero h0
  refine wpList_copy_nothing hgd d s dT sT ho elem hu hsz _ sp dLen dCap sLen sCap hd hs (by simpa using hn.symm) ?_
  have e : w.setRow g (splice c off []).toArray = w := by
   have hs : splice c off [] = c := by simp [splice]
   rw [hs, setRow_self w g c.toArray t (0, 0) hg]
  rw [e] at h
  exact h
 ·obtain ⟨ad, rfl, hsr⟩ := hsrc (by omega)
  refine wpList_copy_own hgd d s dT sT ho elem hu hsz g off dLen dCap ad sLen sCap hd hs c.toArray t hg cs hn hsr (by simpa using hfit) h1 ?_
  simpa [splice] using h
theorem step_copy_at {P : Program} {ops : Array Oper} {o : Oper} {a : Act} {w : World} {K : Act → World → Prop} {Q : Exit → Act → World → Prop} {E : Prop} (hgd : o.guard = none) (d s : Operand) (dT sT : TypeId)
  (ho : o.op = .call { callee := .builtin .copy, args := #[d, s], argTypes := #[dT, sT] }) (elem : TypeId) (hu : P.underlying dT = some (.slice elem)) (hsz : (P.info? elem).map (·.size) = some 1)
  (g off dLen dCap : Nat) (sp : Option Addr) (sLen sCap : Nat) (hd : a.eval d = .slice (some ⟨g, off, none⟩) dLen dCap) (hs : a.eval s = .slice sp sLen sCap)
  (c : List Value) (t : TypeId) (hg : Blk w g c t) (cs : List Value) (hn : cs.length = Nat.min sLen dLen)
  (hsrc : 0 < cs.length → ∃ ad, sp = some ad ∧ ∀ j v, cs[j]? = some v → w.cell? (ad.add j) = some v)
  (hfit : off + cs.length ≤ c.length) (h1 : ∀ v ∈ cs, v.oneCell' = true)
  (h : K (a.put o.dst (goInt cs.length)) (w.setRow g (splice c off cs).toArray)) : if Region.wanted o (yielded ops a.tmps) = true then Oper.wp P o a w K Q else E := by
 have hw : Region.wanted o (yielded ops a.tmps) = true := by simp [Region.wanted, hgd]
 rw [if_pos hw]
 by_cases h0 : cs.length = 0
 ·obtain rfl : cs = [] := List.eq_nil_of_length_eq_zero h0
  have hrun := run_copy_none (P := P) w dT sT o.type elem (some ⟨g, off, none⟩) sp dLen dCap sLen sCap hu hsz (by simpa using hn.symm)
  have e : w.setRow g (splice c off []).toArray = w := by
   have hs : splice c off [] = c := by simp [splice]
   rw [hs, setRow_self w g c.toArray t (0, 0) hg]
  rw [e] at h
  unfold Oper.wp
  simp [execOp, ho, resolve, invoke, builtin, hd, hs, hrun, Result.andThen]
  exact h
 ·obtain ⟨ad, rfl, hsr⟩ := hsrc (by omega)
  have hrun := run_copy_row (P := P) w dT sT o.type elem g off dLen dCap ad sLen sCap c.toArray t cs hu hsz hg hn hsr (by simpa using hfit) h1
  have e : (c.toArray.toList.take off ++ cs ++ c.toArray.toList.drop (off + cs.length)).toArray = (splice c off cs).toArray := by simp [splice]
  rw [e] at hrun
  unfold Oper.wp
  simp only [execOp, ho, resolve, invoke, builtin, Sem.run_bind, Sem.run_pure, Result.andThen_ok, List.map_toArray, List.map_cons, List.map_nil, hd, hs, hrun]
  exact h
theorem wpList_copy_new {P : Program} {w : World} {ops : Array Oper} {rest : List Oper} {o : Oper} {a : Act} {Q : Exit → Act → World → Prop} (hgd : o.guard = none) (d s : Operand) (dT sT : TypeId)
  (ho : o.op = .call { callee := .builtin .copy, args := #[d, s], argTypes := #[dT, sT] }) (elem : TypeId) (hu : P.underlying dT = some (.slice elem)) (hsz : (P.info? elem).map (·.size) = some 1)
  (off dLen dCap : Nat) (sp : Option Addr) (sLen sCap : Nat) (hd : a.eval d = .slice (some ⟨w.heap.size, off, none⟩) dLen dCap) (hs : a.eval s = .slice sp sLen sCap)
  (c : List Value) (t : TypeId) (cs : List Value) (hn : cs.length = Nat.min sLen dLen)
  (hsrc : 0 < cs.length → ∃ ad, sp = some ad ∧ ∀ j v, cs[j]? = some v → w.cell? (ad.add j) = some v)
  (hfit : off + cs.length ≤ c.length) (h1 : ∀ v ∈ cs, v.oneCell' = true)
  (h : wpList P ops Q rest (a.put o.dst (goInt cs.length)) (w.alloc (.cells (splice c off cs).toArray t))) : wpList P ops Q (o :: rest) a (w.alloc (.cells c.toArray t)) := by
 refine wpList_copy_at hgd d s dT sT ho elem hu hsz w.heap.size off dLen dCap sp sLen sCap hd hs c t (Blk.new w c t) cs hn (fun h0 => ?_) hfit h1 ?_
 ·obtain ⟨ad, e, hc⟩ := hsrc h0
  refine ⟨ad, e, fun j v hj => ?_⟩
  have := hc j v hj
  rw [World.cell?_alloc_lt _ _ _ (World.block_lt_of_cell? w _ this)]
  exact this
 ·rw [World.setRow_alloc_new]
  exact h
end Go.Proofs.YtlmhgnkkdjpkcaaDoorM
