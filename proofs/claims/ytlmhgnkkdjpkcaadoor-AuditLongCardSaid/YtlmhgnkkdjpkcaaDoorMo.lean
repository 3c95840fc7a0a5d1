import Derived.Test.YtlmhgnkkdjpkcaaDoorWm
import Derived.Deep.Slices
import Derived.Deep.Fields
import Derived.Carry
import Derived.WideShapes
import Derived.SizedLaws
import Derived.Test.YtlmhgnkkdjpkcaaDoorPAx0m
set_option linter.unusedVariables false
set_option linter.unusedSimpArgs false
namespace Go.Proofs.YtlmhgnkkdjpkcaaDoorO
open Go.ChangeShapes Go.WideShapes Go.RowKit Go.Deep Go.Proofs.YtlmhgnkkdjpkcaaDoorW.PrintWords Go.Proofs.YtlmhgnkkdjpkcaaDoorW.PrintWords.Kd
def Opens {α : Type} (P : Program) (W : World) (t : TypeId) (d : Kd α) : Prop :=
 ∀ {H : Type} {enc : TypeId × Value → H} {base : Nat} {spare : Nat → Bool} {held : Bool} {fuel : Nat} {cs : List Value} {x : DataW H × List MemPlace}, DataW.trod enc P W base spare held fuel t cs = some x → ∃ y : α, d.K W y cs
theorem opens_int {P : Program} {W : World} {t : TypeId} {k : IntKind} (ht : P.underlying t = some (.int k)) : Opens P W t (Kd.int k) := fun h => by
 obtain ⟨n, h1, _⟩ := DataW.trod_int ht h
 exact ⟨n, h1⟩
theorem opens_bool {P : Program} {W : World} {t : TypeId} (ht : P.underlying t = some .bool) : Opens P W t Kd.bool := fun h => by
 obtain ⟨n, h1, _⟩ := DataW.trod_bool ht h
 exact ⟨n, h1⟩
theorem opens_string {P : Program} {W : World} {t : TypeId} (ht : P.underlying t = some .string) : Opens P W t Kd.string := fun h => by
 obtain ⟨n, h1, _⟩ := DataW.trod_string ht h
 exact ⟨n, h1⟩
theorem listOf {α : Type} {Q : Nat → α → Prop} : ∀ n, (∀ i, i < n → ∃ x, Q i x) → ∃ l : List α, l.length = n ∧ ∀ j (h : j < l.length), Q j l[j]
 | 0, _ => ⟨[], rfl, fun j h => absurd h (by simp)⟩
 | n + 1, h => by
  obtain ⟨l, hl, hq⟩ := listOf n fun i hi => h i (by omega)
  obtain ⟨x, hx⟩ := h n (by omega)
  refine ⟨l ++ [x], by simp [hl], fun j hj => ?_⟩
  by_cases e : j < l.length
  ·rw [List.getElem_append_left e]
   exact hq j e
  ·have : j = n := by simp at hj; omega
   subst this
   subst hl
   simpa using hx
theorem opens_slice {α : Type} {P : Program} {W : World} {t e : TypeId} {d : Kd α} (ht : P.underlying t = some (.slice e)) (hs : P.cellsOf e = d.sz) (he : Opens P W e d) : Opens P W t (Kd.slice e d) := fun {H enc base spare held fuel cs x} h => by
 rcases open_slice ht h with ⟨rfl, _⟩ | ⟨a, len, cap, m, n, D, Pl, rfl, hb, hl, hm, hmm, _, hi⟩
 ·exact ⟨[], none, 0, rfl, Nat.le_refl _, rfl, by simp, fun hp => absurd hp (by simp)⟩
 ·have hlm : len ≤ m := by rw [hmm]; split <;> omega
  have each : ∀ i, i < len → ∃ y : α, ∃ c, c.length = d.sz ∧ d.K W y c ∧ ∀ j u, c[j]? = some u → W.cell? (a.add (i * d.sz + j)) = some u := by
   intro i hil
   obtain ⟨cs', hc, htr⟩ := hi i (by omega)
   rw [hs] at hc
   obtain ⟨_, hlen, hat⟩ := World.cells?_some hc
   obtain ⟨y, hy⟩ := he htr
   refine ⟨y, cs', hlen, hy, fun j u hu => ?_⟩
   have hj : j < cs'.length := (List.getElem?_eq_some_iff.1 hu).1
   have := hat j (by omega)
   rw [Go.Proofs.YtlmhgnkkdjpkcaaDoorW.PrintWords.add_add] at this
   rw [this, hu]
  obtain ⟨l, hll, hq⟩ := listOf len each
  refine ⟨l, some a, cap, by rw [hll], by omega, rfl, by have := hm; unfold maxLen at this; omega, fun _ => ⟨a, rfl, fun j p hj => ?_⟩⟩
  obtain ⟨hjl, rfl⟩ := List.getElem?_eq_some_iff.1 hj
  exact hq j hjl
theorem pairK {α β : Type} {a : Kd α} {b : Kd β} {W : World} {cs : List Value} (h1 : ∃ x, a.K W x (cs.take a.sz)) (h2 : ∃ y, b.K W y (cs.drop a.sz)) : ∃ z, (Kd.pair a b).K W z cs := by
 obtain ⟨x, hx⟩ := h1
 obtain ⟨y, hy⟩ := h2
 exact ⟨(x, y), cs.take a.sz, cs.drop a.sz, (List.take_append_drop _ _).symm, hx, hy⟩
theorem isoK {α β : Type} {d : Kd α} {f : β → α} {W : World} {cs : List Value} (g : α → β) (hg : ∀ x, f (g x) = x) (h : ∃ x, d.K W x cs) : ∃ y, (Kd.iso d f).K W y cs := by
 obtain ⟨x, hx⟩ := h
 exact ⟨g x, by show d.K W (f (g x)) cs; rw [hg]; exact hx⟩
def Part {α : Type} (W : World) (cs : List Value) (o : Nat) (d : Kd α) : Prop := ∃ y, d.K W y ((cs.drop o).take d.sz)
theorem Part.pair {α β : Type} {a : Kd α} {b : Kd β} {W : World} {cs : List Value} {o : Nat} (h1 : Part W cs o a) (h2 : Part W cs (o + a.sz) b) : Part W cs o (Kd.pair a b) := by
 refine pairK ?_ ?_
 ·show ∃ x, a.K W x (((cs.drop o).take (a.sz + b.sz)).take a.sz)
  rw [List.take_take, Nat.min_eq_left (by omega)]
  exact h1
 ·show ∃ x, b.K W x (((cs.drop o).take (a.sz + b.sz)).drop a.sz)
  rw [List.drop_take, List.drop_drop, Nat.add_sub_cancel_left]
  exact h2
theorem Part.iso {α β : Type} {d : Kd α} {f : β → α} {W : World} {cs : List Value} {o : Nat} (g : α → β) (hg : ∀ x, f (g x) = x) (h : Part W cs o d) : Part W cs o (Kd.iso d f) := isoK g hg h
theorem Part.whole {α : Type} {d : Kd α} {W : World} {cs : List Value} (hl : cs.length = d.sz) (h : Part W cs 0 d) : ∃ y, d.K W y cs := by
 unfold Part at h
 rwa [List.drop_zero, List.take_of_length_le (by omega)] at h
section
variable {H : Type} {enc : TypeId × Value → H} {P : Program} {W : World} {base : Nat} {spare : Nat → Bool} {held : Bool} {fuel : Nat} {t : TypeId} {cs : List Value} {x : DataW H × List MemPlace}
theorem field_of {fs : Array Field} (ht : P.underlying t = some (.struct fs)) (h : DataW.trod enc P W base spare held fuel t cs = some x) :
  cs.length = P.cellsOf t ∧ ∀ {α : Type} (d : Kd α) (i : Nat) (f : Field) (s o : Nat), fs[i]? = some f → P.cellsOf f.type = s → f.offset = o → Opens P W f.type d → ∃ y, d.K W y ((cs.drop o).take s) := by
 obtain ⟨xs, n, _, _, hl, hlen, hf⟩ := DataW.trod_struct ht h
 refine ⟨hl, fun d i f s o hi hs ho hd => ?_⟩
 subst hs ho
 have hix : i < xs.length := by
  have := (Array.getElem?_eq_some_iff.1 hi).1
  omega
 have := hf i f hi
 rw [List.getElem?_eq_getElem hix] at this
 exact hd this
end
theorem open_struct {α : Type} {H : Type} {enc : TypeId × Value → H} {P : Program} {W : World} {base b0 : Nat} {sp : Nat → Bool} {held : Bool} {r : Reach} {t : TypeId} {fs : Array Field} {v : Value} {d : DataW H} {p : List MemPlace} {k : Kd α} (ht : P.underlying t = some (.struct fs)) (hk : Opens P W t k)
  (hv : Value.okWide P W r b0 t v) (h : DataW.Trod enc P W base sp held t v d p) : ∃ (cs : List Value) (y : α), v = .agg cs.toArray ∧ k.K W y cs := by
 obtain ⟨cs, rfl, hsz⟩ := okWide_struct ht hv
 obtain ⟨fuel, hf⟩ := h
 obtain ⟨y, hy⟩ := hk hf
 exact ⟨cs.toList, y, by simp, hy⟩
end Go.Proofs.YtlmhgnkkdjpkcaaDoorO
set_option linter.unusedVariables false
set_option linter.unusedSimpArgs false
namespace Go.Proofs.YtlmhgnkkdjpkcaaDoorO
open Go.ChangeShapes Go.WideShapes Go.RowKit Go.Deep Go.Proofs.YtlmhgnkkdjpkcaaDoorW.PrintWords Go.Proofs.YtlmhgnkkdjpkcaaDoorW.PrintWords.Kd
def OpensQ {α : Type} (P : Program) (W : World) (t : TypeId) (d : Kd α) (Q : α → Prop) : Prop :=
 ∀ {H : Type} {enc : TypeId × Value → H} {base : Nat} {spare : Nat → Bool} {held : Bool} {fuel : Nat} {cs : List Value} {x : DataW H × List MemPlace}, DataW.trod enc P W base spare held fuel t cs = some x → ∃ y : α, d.K W y cs ∧ Q y
theorem opensQ_int {P : Program} {W : World} {t : TypeId} {k : IntKind} (ht : P.underlying t = some (.int k)) : OpensQ P W t (Kd.int k) (fun n => (Lit.int k n).wf = true) := fun h => by
 obtain ⟨n, h1, _, h2⟩ := DataW.trod_int ht h
 exact ⟨n, h1, h2⟩
theorem opensQ_slice {α : Type} {P : Program} {W : World} {t e : TypeId} {d : Kd α} {Q : α → Prop} (ht : P.underlying t = some (.slice e)) (hs : P.cellsOf e = d.sz) (he : OpensQ P W e d Q) : OpensQ P W t (Kd.slice e d) (fun l => ∀ y ∈ l, Q y) := fun {H enc base spare held fuel cs x} h => by
 rcases open_slice ht h with ⟨rfl, _⟩ | ⟨a, len, cap, m, n, D, Pl, rfl, hb, hl, hm, hmm, _, hi⟩
 ·exact ⟨[], ⟨none, 0, rfl, Nat.le_refl _, rfl, by simp, fun hp => absurd hp (by simp)⟩, fun y hy => by cases hy⟩
 ·have hlm : len ≤ m := by rw [hmm]; split <;> omega
  have each : ∀ i, i < len → ∃ y : α, (∃ c, c.length = d.sz ∧ d.K W y c ∧ ∀ j u, c[j]? = some u → W.cell? (a.add (i * d.sz + j)) = some u) ∧ Q y := by
   intro i hil
   obtain ⟨cs', hc, htr⟩ := hi i (by omega)
   rw [hs] at hc
   obtain ⟨_, hlen, hat⟩ := World.cells?_some hc
   obtain ⟨y, hy, hq⟩ := he htr
   refine ⟨y, ⟨cs', hlen, hy, fun j u hu => ?_⟩, hq⟩
   have hj : j < cs'.length := (List.getElem?_eq_some_iff.1 hu).1
   have := hat j (by omega)
   rw [Go.Proofs.YtlmhgnkkdjpkcaaDoorW.PrintWords.add_add] at this
   rw [this, hu]
  obtain ⟨l, hll, hq⟩ := listOf len each
  refine ⟨l, ⟨some a, cap, by rw [hll], by omega, rfl, by have := hm; unfold maxLen at this; omega, fun _ => ⟨a, rfl, fun j p hj => ?_⟩⟩, fun y hy => ?_⟩
  ·obtain ⟨hjl, rfl⟩ := List.getElem?_eq_some_iff.1 hj
   exact (hq j hjl).1
  ·obtain ⟨j, hj, rfl⟩ := List.mem_iff_getElem.1 hy
   exact (hq j hj).2
theorem OpensQ.plain {α : Type} {P : Program} {W : World} {t : TypeId} {d : Kd α} {Q : α → Prop} (h : OpensQ P W t d Q) : Opens P W t d := fun hx => by
 obtain ⟨y, hy, _⟩ := h hx
 exact ⟨y, hy⟩
section
variable {H : Type} {enc : TypeId × Value → H} {P : Program} {W : World} {base : Nat} {spare : Nat → Bool} {held : Bool} {fuel : Nat} {t : TypeId} {cs : List Value} {x : DataW H × List MemPlace}
theorem fieldQ_of {fs : Array Field} (ht : P.underlying t = some (.struct fs)) (h : DataW.trod enc P W base spare held fuel t cs = some x) :
  ∀ {α : Type} (d : Kd α) (Q : α → Prop) (i : Nat) (f : Field) (s o : Nat), fs[i]? = some f → P.cellsOf f.type = s → f.offset = o → OpensQ P W f.type d Q → ∃ y, d.K W y ((cs.drop o).take s) ∧ Q y := by
 obtain ⟨xs, n, _, _, hl, hlen, hf⟩ := DataW.trod_struct ht h
 refine fun d Q i f s o hi hs ho hd => ?_
 subst hs ho
 have hix : i < xs.length := by
  have := (Array.getElem?_eq_some_iff.1 hi).1
  omega
 have := hf i f hi
 rw [List.getElem?_eq_getElem hix] at this
 exact hd this
end
theorem open_slice_q {α : Type} {H : Type} {enc : TypeId × Value → H} {P : Program} {W : World} {base b0 : Nat} {sp : Nat → Bool} {held : Bool} {r : Reach} {t e : TypeId} {v : Value} {d : DataW H} {p : List MemPlace} {k : Kd α} {Q : α → Prop} (ht : P.underlying t = some (.slice e)) (hs : P.cellsOf e = k.sz) (hk : OpensQ P W e k Q)
  (hv : Value.okWide P W r b0 t v) (h : DataW.Trod enc P W base sp held t v d p) : ∃ (A : Option Addr) (c : Nat) (l : List α), v = .slice A l.length c ∧ k.C W A l.length l ∧ l.length ≤ c ∧ ∀ y ∈ l, Q y := by
 obtain ⟨fuel, hf⟩ := h
 obtain ⟨l, ⟨A, c, e3, hl, hc⟩, hq⟩ := opensQ_slice ht hs hk hf
 obtain ⟨a, n, cp, rfl⟩ := okWide_slice ht hv
 simp [Value.cells] at e3
 obtain ⟨rfl, rfl, rfl⟩ := e3
 exact ⟨_, _, l, rfl, hc, hl, hq⟩
theorem open_struct_q {α : Type} {H : Type} {enc : TypeId × Value → H} {P : Program} {W : World} {base b0 : Nat} {sp : Nat → Bool} {held : Bool} {r : Reach} {t : TypeId} {fs : Array Field} {v : Value} {d : DataW H} {p : List MemPlace} {k : Kd α} {Q : α → Prop} (ht : P.underlying t = some (.struct fs)) (hk : OpensQ P W t k Q)
  (hv : Value.okWide P W r b0 t v) (h : DataW.Trod enc P W base sp held t v d p) : ∃ (cs : List Value) (y : α), v = .agg cs.toArray ∧ k.K W y cs ∧ Q y := by
 obtain ⟨cs, rfl, hsz⟩ := okWide_struct ht hv
 obtain ⟨fuel, hf⟩ := h
 obtain ⟨y, hy, hq⟩ := hk hf
 exact ⟨cs.toList, y, by simp, hy, hq⟩
end Go.Proofs.YtlmhgnkkdjpkcaaDoorO
set_option linter.unusedVariables false
set_option linter.unusedSimpArgs false
set_option maxRecDepth 100000
namespace Go.Proofs.YtlmhgnkkdjpkcaaDoorO
open Go.ChangeShapes Go.WideShapes Go.RowKit Go.Deep Go.Proofs.YtlmhgnkkdjpkcaaDoorW.PrintWords Go.Proofs.YtlmhgnkkdjpkcaaDoorW.PrintWords.Kd Go.Proofs.YtlmhgnkkdjpkcaaDoor.PA
section
variable {W : World}
theorem opens29 : Opens Tryd.prog W 28 k28 := fun {H enc base spare held fuel cs x} h => by
 obtain ⟨hl, hf⟩ := field_of Tryd.underlying28 h
 exact Part.whole (hl.trans (by kernel_rfl)) (Part.iso (fun y => ⟨y.1, y.2.1, y.2.2.1, y.2.2.2.1, y.2.2.2.2⟩) (fun _ => rfl) (Part.pair (hf (Kd.int .i64) 0 _ 1 0 rfl (by kernel_rfl) rfl (opens_int Tryd.underlying3)) (Part.pair (hf Kd.string 1 _ 1 1 rfl (by kernel_rfl) rfl (opens_string Tryd.underlying9)) (Part.pair (hf Kd.string 2 _ 1 2 rfl (by kernel_rfl) rfl (opens_string Tryd.underlying9)) (Part.pair (hf Kd.string 3 _ 1 3 rfl (by kernel_rfl) rfl (opens_string Tryd.underlying9)) (hf Kd.string 4 _ 1 4 rfl (by kernel_rfl) rfl (opens_string Tryd.underlying9)))))))
theorem opens31 : Opens Tryd.prog W 30 k30 := fun {H enc base spare held fuel cs x} h => by
 obtain ⟨hl, hf⟩ := field_of Tryd.underlying30 h
 exact Part.whole (hl.trans (by kernel_rfl)) (Part.iso (fun y => ⟨y.1, y.2.1, y.2.2.1, y.2.2.2.1, y.2.2.2.2⟩) (fun _ => rfl) (Part.pair (hf (Kd.int .i64) 0 _ 1 0 rfl (by kernel_rfl) rfl (opens_int Tryd.underlying3)) (Part.pair (hf (Kd.int .i64) 1 _ 1 1 rfl (by kernel_rfl) rfl (opens_int Tryd.underlying2)) (Part.pair (hf k28 2 _ 5 2 rfl (by kernel_rfl) rfl opens29) (Part.pair (hf (Kd.int .i64) 3 _ 1 7 rfl (by kernel_rfl) rfl (opens_int Tryd.underlying3)) (hf Kd.string 4 _ 1 8 rfl (by kernel_rfl) rfl (opens_string Tryd.underlying9)))))))
def NoteOk (n : S30) : Prop := (Lit.int .i64 n.f0).wf = true ∧ (Lit.int .i64 n.f1).wf = true ∧ (Lit.int .i64 n.f3).wf = true
theorem opens31q : OpensQ Tryd.prog W 30 k30 NoteOk := fun {H enc base spare held fuel cs x} h => by
 obtain ⟨y, hy⟩ := opens31 h
 obtain ⟨n0, e0, w0⟩ := fieldQ_of Tryd.underlying30 h (Kd.int .i64) _ 0 _ 1 0 rfl (by kernel_rfl) rfl (opensQ_int Tryd.underlying3)
 obtain ⟨n1, e1, w1⟩ := fieldQ_of Tryd.underlying30 h (Kd.int .i64) _ 1 _ 1 1 rfl (by kernel_rfl) rfl (opensQ_int Tryd.underlying2)
 obtain ⟨n3, e3, w3⟩ := fieldQ_of Tryd.underlying30 h (Kd.int .i64) _ 3 _ 1 7 rfl (by kernel_rfl) rfl (opensQ_int Tryd.underlying3)
 have hc := k30_open hy
 subst hc
 have q0 : [Value.int .i64 y.f0] = [Value.int .i64 n0] := e0
 have q1 : [Value.int .i64 y.f1] = [Value.int .i64 n1] := e1
 have q3 : [Value.int .i64 y.f3] = [Value.int .i64 n3] := e3
 simp only [List.cons.injEq, Value.int.injEq, true_and, and_true] at q0 q1 q3
 subst q0 q1 q3
 exact ⟨y, hy, w0, w1, w3⟩
theorem open_notes {H : Type} {enc : TypeId × Value → H} {base b0 : Nat} {sp : Nat → Bool} {held : Bool} {r : Reach} {v : Value} {d : DataW H} {p : List MemPlace} (hv : Value.okWide Tryd.prog W r b0 22 v) (h : DataW.Trod enc Tryd.prog W base sp held 22 v d p) :
  ∃ (A : Option Addr) (c : Nat) (l : List S30), v = .slice A l.length c ∧ Kd.C k30 W A l.length l ∧ l.length ≤ c ∧ ∀ y ∈ l, NoteOk y := open_slice_q Tryd.underlying22 (by kernel_rfl) opens31q hv h
theorem open_note {H : Type} {enc : TypeId × Value → H} {base b0 : Nat} {sp : Nat → Bool} {held : Bool} {r : Reach} {v : Value} {d : DataW H} {p : List MemPlace} (hv : Value.okWide Tryd.prog W r b0 30 v) (h : DataW.Trod enc Tryd.prog W base sp held 30 v d p) :
  ∃ (n : S30), v = .agg #[.int .i64 n.f0, .int .i64 n.f1, .int .i64 n.f2.f0, .string n.f2.f1, .string n.f2.f2, .string n.f2.f3, .string n.f2.f4, .int .i64 n.f3, .string n.f4] ∧ NoteOk n := by
 obtain ⟨cs, y, rfl, hk, hq⟩ := open_struct_q (k := k30) Tryd.underlying30 opens31q hv h
 obtain rfl := k30_open hk
 exact ⟨y, rfl, hq⟩
end
end Go.Proofs.YtlmhgnkkdjpkcaaDoorO
