/- Maps that the call makes, read as a function from keys to the values that lie there, whatever the elements are: lookups, stores, deletes, ranges. -/
import Derived.Maps.OwnSet
import Derived.Maps.OwnOps
import Derived.Maps.RangeWalk
import Derived.WalkKit
import Derived.Below
set_option linter.unusedVariables false
set_option linter.unusedSimpArgs false
namespace Go.Proofs.YtlmhgnkkdjpkcaaDoorV
open Go.RowKit Go.Maps Go.WideElems Go.ChangeMaps
def heldR (v : Value) : Option (DataW Value × List MemPlace) := some (.held v, [])
def MapV (P : Program) (k : TypeId) (w : World) (b n : Nat) (f : Lit → Option Value) : Prop :=
 ∃ D : DataW Value, w.ownsMap P k heldR b n D ∧ ∀ l, WideAt.IsKeyLit l → Maps.has D l = (f l).isSome ∧ ∀ v, f l = some v → ∀ z, D.atKey l z = .held v
section
variable {P : Program} {k t e : TypeId} {w w' : World} {b n : Nat} {f g : Lit → Option Value} {z key val : Value} {kl : Lit}
theorem MapV.made (P : Program) (k : TypeId) (w : World) : MapV P k (w.alloc (.map #[] 0)) w.heap.size 0 (fun _ => none) :=
 ⟨_, World.ownsMap_made w P k heldR, fun l _ => ⟨rfl, fun v hv => by cases hv⟩⟩
theorem MapV.lt (h : MapV P k w b n f) : b < w.heap.size := by obtain ⟨D, h, _⟩ := h; exact h.lt
theorem MapV.congr (h : MapV P k w b n f) (hg : ∀ l, WideAt.IsKeyLit l → f l = g l) : MapV P k w b n g := by
 obtain ⟨D, h, hf⟩ := h
 exact ⟨D, h, fun l hl => by rw [← hg l hl]; exact hf l hl⟩
theorem MapV.mono (h : MapV P k w b n f) {m : Nat} (hm : n ≤ m) : MapV P k w b m f := by
 obtain ⟨D, h, hf⟩ := h
 exact ⟨D, h.mono hm, hf⟩
theorem MapV.same (h : MapV P k w b n f) (he : w'.heap[b]? = w.heap[b]?) : MapV P k w' b n f := by
 obtain ⟨D, ⟨es, c, hb, F⟩, hf⟩ := h
 exact ⟨D, ⟨es, c, he.trans hb, F⟩, hf⟩
theorem MapV.below {B : Nat} (h : MapV P k w b n f) (hb : Below B w w') (hlt : b < B) : MapV P k w' b n f := h.same (hb.block b hlt)
theorem MapV.alloc (h : MapV P k w b n f) (o : Obj) : MapV P k (w.alloc o) b n f := h.same (Below.heap_alloc _ _ _ h.lt)
theorem MapV.drew (h : MapV P k w b n f) : MapV P k w.drew b n f := h
theorem MapV.setCell (h : MapV P k w b n f) {a : Addr} (ha : b ≠ a.block) (v : Value) : MapV P k (w.setCell a v) b n f := by
 obtain ⟨D, h, hf⟩ := h
 exact ⟨D, h.setCell ha v, hf⟩
theorem MapV.look2 (h : MapV P k w b n f) (K : Keyed P k) (ht : P.underlying t = some (.map k e)) (hz : (zeroValue e).run P w = .ok z w) (hkey : keyOf P k key = some kl) :
  (Instr.lookup t (.map (some b)) key true).run P w = .ok (.tuple #[(f kl).getD z, .bool (f kl).isSome]) w := by
 obtain ⟨D, h, hf⟩ := h
 obtain ⟨v, ps, hrun, hv⟩ := h.look_ok K ht hz (zd := .held z) (zp := []) rfl hkey
 obtain ⟨h1, h2⟩ := hf kl (K.key hkey)
 rw [hrun, h1]
 unfold heldR at hv
 simp only [Option.some.injEq, Prod.mk.injEq] at hv
 cases hq : f kl with
 | none =>
  rw [hq] at h1
  rw [Maps.atKey_of_not_has (by simpa using h1)] at hv
  simp only [DataW.held.injEq] at hv
  rw [hv.1]
  rfl
 | some u =>
  rw [h2 u hq] at hv
  simp only [DataW.held.injEq] at hv
  rw [hv.1]
  rfl
theorem MapV.look1 (h : MapV P k w b n f) (K : Keyed P k) (ht : P.underlying t = some (.map k e)) (hz : (zeroValue e).run P w = .ok z w) (hkey : keyOf P k key = some kl) :
  (Instr.lookup t (.map (some b)) key false).run P w = .ok ((f kl).getD z) w := by
 obtain ⟨D, h, hf⟩ := h
 obtain ⟨v, ps, hrun, hv⟩ := h.lookup K ht hz (zd := .held z) (zp := []) rfl hkey
 obtain ⟨h1, h2⟩ := hf kl (K.key hkey)
 rw [hrun]
 unfold heldR at hv
 simp only [Option.some.injEq, Prod.mk.injEq] at hv
 cases hq : f kl with
 | none =>
  rw [hq] at h1
  rw [Maps.atKey_of_not_has (by simpa using h1)] at hv
  simp only [DataW.held.injEq] at hv
  rw [hv.1]
  rfl
 | some u =>
  rw [h2 u hq] at hv
  simp only [DataW.held.injEq] at hv
  rw [hv.1]
  rfl
open Classical in
noncomputable def putF (f : Lit → Option Value) (kl : Lit) (v : Value) : Lit → Option Value := fun l => if l = kl then some v else f l
open Classical in
noncomputable def delF (f : Lit → Option Value) (kl : Lit) : Lit → Option Value := fun l => if l = kl then none else f l
theorem MapV.store (h : MapV P k w b n f) (K : Keyed P k) (ht : P.underlying t = some (.map k e)) (hn : n < maxLen) (hkey : keyOf P k key = some kl) :
  ∃ w', (Instr.mapUpdate t (.map (some b)) key val).run P w = .ok () w' ∧ MapV P k w' b (n + 1) (putF f kl val) ∧ w.mapTurned w' b := by
 obtain ⟨D, h, hf⟩ := h
 obtain ⟨w', hrun, ho, ht'⟩ := h.store K ht hn hkey (val := val) (d := .held val) (ps := []) rfl
 refine ⟨w', hrun, ⟨_, ho, fun l hl => ?_⟩, ht'⟩
 unfold putF
 by_cases hq : l = kl
 ·subst hq
  rw [if_pos rfl]
  exact ⟨Maps.has_put_same h.isMap hl _, fun v hv z => by rw [Maps.atKey_put_same h.isMap hl]; rw [Option.some.inj hv]⟩
 ·rw [if_neg hq, Maps.has_put_other hq]
  exact ⟨(hf l hl).1, fun v hv z => by rw [Maps.atKey_put_other hq]; exact (hf l hl).2 v hv z⟩
theorem MapV.drop (h : MapV P k w b n f) (K : Keyed P k) (ht : P.underlying t = some (.map k e)) (hkey : keyOf P k key = some kl) (ty : TypeId) :
  ∃ w', (Builtin.delete_ #[t, k] ty #[.map (some b), key]).run P w = .ok (.tuple #[]) w' ∧ MapV P k w' b n (delF f kl) ∧ w.mapTurned w' b := by
 obtain ⟨D, h, hf⟩ := h
 obtain ⟨w', hrun, ho, ht'⟩ := h.drop K ht hkey ty
 refine ⟨w', hrun, ⟨_, ho, fun l hl => ?_⟩, ht'⟩
 unfold delF
 by_cases hq : l = kl
 ·subst hq
  rw [if_pos rfl]
  exact ⟨Maps.has_del_same, fun v hv z => by cases hv⟩
 ·rw [if_neg hq, Maps.has_del_other hq]
  exact ⟨(hf l hl).1, fun v hv z => by rw [Maps.atKey_del_other hq]; exact (hf l hl).2 v hv z⟩
end
section
variable {P : Program} {w : World} {ops : Array Oper} {rest : List Oper} {o : Oper} {a : Act} {Q : Exit → Act → World → Prop}
theorem wpList_look2 (hg : o.guard = none) (m x : Operand) (t : TypeId) (hop : o.op = Op.lookup t m x true) {k e : TypeId} (K : Keyed P k) (ht : P.underlying t = some (.map k e)) {z : Value} (hz : (zeroValue e).run P w = .ok z w) (b n : Nat) (f : Lit → Option Value)
  (hm : a.eval m = .map (some b)) (h : MapV P k w b n f) (key : Value) (kl : Lit) (hx : a.eval x = key) (hkey : keyOf P k key = some kl) (v : Value) (c : Bool) (hv : (f kl).getD z = v) (hc : (f kl).isSome = c)
  (hK : wpList P ops Q rest (a.put o.dst (.tuple #[v, .bool c])) w) : wpList P ops Q (o :: rest) a w := by
 refine wpList_plain hg fun K' hK' => ?_
 have hrun := h.look2 K ht hz hkey
 rw [hv, hc] at hrun
 unfold Oper.wp
 simp [execOp, hop, hm, hx, hrun, Result.andThen]
 exact hK' _ _ hK
theorem wpList_look1 (hg : o.guard = none) (m x : Operand) (t : TypeId) (hop : o.op = Op.lookup t m x false) {k e : TypeId} (K : Keyed P k) (ht : P.underlying t = some (.map k e)) {z : Value} (hz : (zeroValue e).run P w = .ok z w) (b n : Nat) (f : Lit → Option Value)
  (hm : a.eval m = .map (some b)) (h : MapV P k w b n f) (key : Value) (kl : Lit) (hx : a.eval x = key) (hkey : keyOf P k key = some kl) (v : Value) (hv : (f kl).getD z = v)
  (hK : wpList P ops Q rest (a.put o.dst v) w) : wpList P ops Q (o :: rest) a w := by
 refine wpList_plain hg fun K' hK' => ?_
 have hrun := h.look1 K ht hz hkey
 rw [hv] at hrun
 unfold Oper.wp
 simp [execOp, hop, hm, hx, hrun, Result.andThen]
 exact hK' _ _ hK
theorem wpList_store_map (hg : o.guard = none) (m x y : Operand) (t : TypeId) (hop : o.op = Op.mapUpdate t m x y) {k e : TypeId} (K : Keyed P k) (ht : P.underlying t = some (.map k e)) (b n : Nat) (f : Lit → Option Value)
  (hm : a.eval m = .map (some b)) (h : MapV P k w b n f) (hn : n < maxLen) (key : Value) (kl : Lit) (hx : a.eval x = key) (hkey : keyOf P k key = some kl) (val : Value) (hy : a.eval y = val)
  (hK : ∀ w', MapV P k w' b (n + 1) (putF f kl val) → w.mapTurned w' b → wpList P ops Q rest (a.put o.dst undef) w') : wpList P ops Q (o :: rest) a w := by
 refine wpList_plain hg fun K' hK' => ?_
 obtain ⟨w', hrun, h1, h2⟩ := h.store K ht hn hkey (val := val)
 unfold Oper.wp
 simp [execOp, hop, hm, hx, hy, hrun, Result.andThen]
 exact hK' _ _ (hK w' h1 h2)
theorem wpList_drop_map (hg : o.guard = none) (m x : Operand) (t k : TypeId) (hop : o.op = Op.call { callee := Callee.builtin Builtin.delete, args := #[m, x], argTypes := #[t, k] }) {e : TypeId} (K : Keyed P k) (ht : P.underlying t = some (.map k e)) (b n : Nat) (f : Lit → Option Value)
  (hm : a.eval m = .map (some b)) (h : MapV P k w b n f) (key : Value) (kl : Lit) (hx : a.eval x = key) (hkey : keyOf P k key = some kl)
  (hK : ∀ w', MapV P k w' b n (delF f kl) → w.mapTurned w' b → wpList P ops Q rest (a.put o.dst (.tuple #[])) w') : wpList P ops Q (o :: rest) a w := by
 refine wpList_plain hg fun K' hK' => ?_
 obtain ⟨w', hrun, h1, h2⟩ := h.drop K ht hkey o.type
 unfold Oper.wp
 simp [execOp, hop, resolve, invoke, builtin, hm, hx, hrun, Result.andThen]
 exact hK' _ _ (hK w' h1 h2)
end
def MapR (P : Program) (k : TypeId) (w : World) (b r n : Nat) (f : Lit → Option Value) (left : Lit → Bool) (cnt : Nat) : Prop :=
 ∃ D : DataW Value, w.ranges P k heldR b r n D left cnt ∧ ∀ l, WideAt.IsKeyLit l → Maps.has D l = (f l).isSome ∧ ∀ v, f l = some v → ∀ z, D.atKey l z = .held v
section
variable {P : Program} {k : TypeId} {w : World} {b r n : Nat} {f : Lit → Option Value} {left : Lit → Bool} {cnt : Nat}
theorem MapR.kept {w' : World} {row : Option Nat} (h : MapR P k w b r n f left cnt) (hg : w.grownBy w' row) (hb : some b ≠ row) (hr : some r ≠ row) : MapR P k w' b r n f left cnt := by
 obtain ⟨D, h, hf⟩ := h
 exact ⟨D, h.kept hg hb hr, hf⟩
theorem MapR.alloc (h : MapR P k w b r n f left cnt) (o : Obj) : MapR P k (w.alloc o) b r n f left cnt := by
 obtain ⟨D, h, hf⟩ := h
 exact ⟨D, h.alloc o, hf⟩
theorem MapR.left_eq (h : MapR P k w b r n f left cnt) : w.rangeLeft b r = cnt := by
 obtain ⟨D, h, hf⟩ := h
 exact h.left_eq
theorem MapR.lt (h : MapR P k w b r n f left cnt) : r < w.heap.size := by
 obtain ⟨D, h, hf⟩ := h
 exact h.lt
theorem MapR.ne_row {base e size m : Nat} {v : Value} {xs : List Value} (h : MapR P k w b r n f left cnt) (ho : w.ownsRow base e size v m xs) : v.ownBlock ≠ some r ∧ v.ownBlock ≠ some b := by
 obtain ⟨D, h, _⟩ := h
 obtain ⟨es, clock, since, seen, c0, hb, _, _, _, hr, _⟩ := h
 rcases ho.2 with ⟨rfl, _⟩ | ⟨g, cap, cur, rfl, _, hg, _⟩
 ·exact ⟨fun e => (by cases e), fun e => (by cases e)⟩
 ·exact ⟨fun e => (by cases e; rw [hg] at hr; cases hr), fun e => (by cases e; rw [hg] at hb; cases hb)⟩
theorem MapR.congr {g : Lit → Bool} (h : MapR P k w b r n f left cnt) (hg : ∀ l, left l = g l) : MapR P k w b r n f g cnt := by
 have : left = g := funext hg
 subst this
 exact h
end
section
variable {P : Program} {w : World} {ops : Array Oper} {rest : List Oper} {o : Oper} {a : Act} {Q : Exit → Act → World → Prop}
theorem wpList_range_map (hg : o.guard = none) (m : Operand) (t : TypeId) (hop : o.op = Op.range t m) {k e : TypeId} (K : Keyed P k) (ht : P.underlying t = some (.map k e)) (b n : Nat) (f : Lit → Option Value)
  (hm : a.eval m = .map (some b)) (h : MapV P k w b n f)
  (hK : ∀ w' left cnt, MapR P k w' b w.heap.size n f left cnt → (∀ l, WideAt.IsKeyLit l → left l = (f l).isSome) → w.grownBy w' none → w'.heap.size = w.heap.size + 1 → cnt ≤ n → wpList P ops Q rest (a.put o.dst (.pointer (some ⟨w.heap.size, 0, none⟩))) w') :
  wpList P ops Q (o :: rest) a w := by
 obtain ⟨D, h, hf⟩ := h
 exact wpList_range_own w hg m t hop k e K ht heldR b n D hm h (fun w' h1 h2 h3 => hK w' _ _ ⟨D, h1, hf⟩ (fun l hl => (hf l hl).1) h2 h3 h.size_le)
theorem wpList_next_map (hg : o.guard = none) (it : Operand) (hop : o.op = Op.next it false) {k : TypeId} {q : IntKind} (hk : P.underlying k = some (.int q)) (b r n : Nat) (f : Lit → Option Value) (left : Lit → Bool) (cnt : Nat)
  (hit : a.eval it = .pointer (some ⟨r, 0, none⟩)) (h : MapR P k w b r n f left cnt)
  (hDone : cnt = 0 → (∀ kl, left kl = false) → wpList P ops Q rest (a.put o.dst (.tuple #[.bool false])) w)
  (hMore : ∀ (x : Int) (v : Value) (w' : World) (cnt' : Nat), (Lit.int q x).wf = true → left (.int q x) = true → f (.int q x) = some v → MapR P k w' b r n f (fun z => left z && !z.sameKey (.int q x)) cnt' → cnt' < cnt →
   w.grownBy w' (some r) → w'.heap.size = w.heap.size → (Instr.entry (.pointer (some ⟨r, 0, none⟩))).run P w' = .ok (.tuple #[.int q x, v]) w' → wpList P ops Q rest (a.put o.dst (.tuple #[.bool true, .int q x, v])) w') :
  wpList P ops Q (o :: rest) a w := by
 obtain ⟨D, h, hf⟩ := h
 refine wpList_next_ranges w hg it hop k (Maps.int_keyed hk) heldR (Value.int q) (fun v : Value => v) (fun key kl hkey => by obtain ⟨x, rfl, _⟩ := Maps.keyOf_int_inv hk hkey; exact ⟨x, rfl⟩) (fun v y hv => ⟨v, rfl⟩) b r n D left cnt hit h hDone ?_
 intro x c kl y w' cnt' hkey hlk hv hat hrg hlt hgr hsz hen
 obtain ⟨x', ex, rfl, hwx⟩ := Maps.keyOf_int_inv hk hkey
 cases ex
 unfold heldR at hv
 cases hv
 have hkl : WideAt.IsKeyLit (Lit.int q x) := (Maps.int_keyed hk).key hkey
 refine hMore x c w' cnt' hwx hlk ?_ ⟨D, hrg, hf⟩ hlt hgr hsz hen
 obtain ⟨h1, h2⟩ := hf _ hkl
 cases hq : f (.int q x) with
 | none =>
  rw [hq] at h1
  have := hat .nil
  rw [Maps.atKey_of_not_has (by simpa using h1)] at this
  cases this
 | some u =>
  have := (h2 u hq .nil).symm.trans (hat .nil)
  cases this
  rfl
end
theorem turned_size {w w' : World} {b : Nat} (h : w.mapTurned w' b) : w'.heap.size = w.heap.size := by
 obtain ⟨es, c, es', c', hb, rfl⟩ := h
 simp [setBlock]
theorem turned_block {w w' : World} {b : Nat} (h : w.mapTurned w' b) {i : Nat} (hi : i ≠ b) : w'.heap[i]? = w.heap[i]? := by
 obtain ⟨es, c, es', c', hb, rfl⟩ := h
 exact heap_setBlock_other hb _ hi
theorem turned_below {w0 w w' : World} {b B : Nat} (hb : Below B w0 w) (h : w.mapTurned w' b) (hB : B ≤ b) : Below B w0 w' :=
 hb.grown (World.mapTurned.grown h) (by obtain ⟨es, c, es', c', hm, _⟩ := h; have := (Array.getElem?_eq_some_iff.1 hm).1; omega) (fun k e => by cases e; exact hB)
theorem turned_cell {w w' : World} {b : Nat} (h : w.mapTurned w' b) {a : Addr} (ha : a.block ≠ b) : w'.cell? a = w.cell? a := World.cell?_of_block (turned_block h ha)
theorem turned_frozen {w w' : World} {b : Nat} (h : w.mapTurned w' b) {a : Addr} (ha : a.block ≠ b) : w'.frozen? a = w.frozen? a := World.frozen?_of_block (turned_block h ha)
end Go.Proofs.YtlmhgnkkdjpkcaaDoorV
