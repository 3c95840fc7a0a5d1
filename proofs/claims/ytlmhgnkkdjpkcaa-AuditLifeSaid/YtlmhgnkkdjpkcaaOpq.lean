/- Arguments opened by their kinds, with what is known of the numbers in them. -/
import Derived.Test.YtlmhgnkkdjpkcaaOpn
set_option linter.unusedVariables false
set_option linter.unusedSimpArgs false
namespace Go.Proofs.YtlmhgnkkdjpkcaaO
open Go.ChangeShapes Go.WideShapes Go.RowKit Go.Deep Go.Proofs.YtlmhgnkkdjpkcaaW.PrintWords Go.Proofs.YtlmhgnkkdjpkcaaW.PrintWords.Kd
def OpensQ {α : Type} (P : Program) (W : World) (t : TypeId) (d : Kd α) (Q : α → Prop) : Prop :=
  ∀ {H : Type} {enc : TypeId × Value → H} {base : Nat} {spare : Nat → Bool} {held : Bool} {fuel : Nat} {cs : List Value} {x : DataW H × List MemPlace}, DataW.trod enc P W base spare held fuel t cs = some x → ∃ y : α, d.K W y cs ∧ Q y
theorem opensQ_int {P : Program} {W : World} {t : TypeId} {k : IntKind} (ht : P.underlying t = some (.int k)) : OpensQ P W t (Kd.int k) (fun n => (Lit.int k n).wf = true) := fun h => by
  obtain ⟨n, h1, _, h2⟩ := DataW.trod_int ht h
  exact ⟨n, h1, h2⟩
theorem opensQ_slice {α : Type} {P : Program} {W : World} {t e : TypeId} {d : Kd α} {Q : α → Prop} (ht : P.underlying t = some (.slice e)) (hs : P.cellsOf e = d.sz) (he : OpensQ P W e d Q) : OpensQ P W t (Kd.slice e d) (fun l => ∀ y ∈ l, Q y) := fun {H enc base spare held fuel cs x} h => by
  rcases open_slice ht h with ⟨rfl, _⟩ | ⟨a, len, cap, m, n, D, Pl, rfl, hb, hl, hm, hmm, _, hi⟩
  · exact ⟨[], ⟨none, 0, rfl, Nat.le_refl _, rfl, by simp, fun hp => absurd hp (by simp)⟩, fun y hy => by cases hy⟩
  · have hlm : len ≤ m := by rw [hmm]; split <;> omega
    have each : ∀ i, i < len → ∃ y : α, (∃ c, c.length = d.sz ∧ d.K W y c ∧ ∀ j u, c[j]? = some u → W.cell? (a.add (i * d.sz + j)) = some u) ∧ Q y := by
      intro i hil
      obtain ⟨cs', hc, htr⟩ := hi i (by omega)
      rw [hs] at hc
      obtain ⟨_, hlen, hat⟩ := World.cells?_some hc
      obtain ⟨y, hy, hq⟩ := he htr
      refine ⟨y, ⟨cs', hlen, hy, fun j u hu => ?_⟩, hq⟩
      have hj : j < cs'.length := (List.getElem?_eq_some_iff.1 hu).1
      have := hat j (by omega)
      rw [Go.Proofs.YtlmhgnkkdjpkcaaW.PrintWords.add_add] at this
      rw [this, hu]
    obtain ⟨l, hll, hq⟩ := listOf len each
    refine ⟨l, ⟨some a, cap, by rw [hll], by omega, rfl, by have := hm; unfold maxLen at this; omega, fun _ => ⟨a, rfl, fun j p hj => ?_⟩⟩, fun y hy => ?_⟩
    · obtain ⟨hjl, rfl⟩ := List.getElem?_eq_some_iff.1 hj
      exact (hq j hjl).1
    · obtain ⟨j, hj, rfl⟩ := List.mem_iff_getElem.1 hy
      exact (hq j hj).2
theorem OpensQ.plain {α : Type} {P : Program} {W : World} {t : TypeId} {d : Kd α} {Q : α → Prop} (h : OpensQ P W t d Q) : Opens P W t d := fun hx => by
  obtain ⟨y, hy, _⟩ := h hx
  exact ⟨y, hy⟩
section
variable {H : Type} {enc : TypeId × Value → H} {P : Program} {W : World} {base : Nat} {spare : Nat → Bool} {held : Bool} {fuel : Nat} {t : TypeId} {cs : List Value} {x : DataW H × List MemPlace}
theorem fieldQ_of {fs : Array Field} (ht : P.underlying t = some (.struct fs)) (h : DataW.trod enc P W base spare held fuel t cs = some x) :
    ∀ {α : Type} (d : Kd α) (Q : α → Prop) (i : Nat) (f : Field) (s o : Nat), fs[i]? = some f → P.cellsOf f.type = s → f.offset = o → OpensQ P W f.type d Q → ∃ y, d.K W y ((cs.drop o).take s) ∧ Q y := by
  obtain ⟨xs, n, _, _, hl, hlen, hf⟩ := DataW.trod_struct ht h
  refine fun d Q i f s o hi hs ho hd => ?_
  subst hs ho
  have hix : i < xs.length := by
    have := (Array.getElem?_eq_some_iff.1 hi).1
    omega
  have := hf i f hi
  rw [List.getElem?_eq_getElem hix] at this
  exact hd this
end
/-- An argument of type t, of one cell or many. -/
theorem open_slice_q {α : Type} {H : Type} {enc : TypeId × Value → H} {P : Program} {W : World} {base b0 : Nat} {sp : Nat → Bool} {held : Bool} {r : Reach} {t e : TypeId} {v : Value} {d : DataW H} {p : List MemPlace} {k : Kd α} {Q : α → Prop} (ht : P.underlying t = some (.slice e)) (hs : P.cellsOf e = k.sz) (hk : OpensQ P W e k Q)
    (hv : Value.okWide P W r b0 t v) (h : DataW.Trod enc P W base sp held t v d p) : ∃ (A : Option Addr) (c : Nat) (l : List α), v = .slice A l.length c ∧ k.C W A l.length l ∧ l.length ≤ c ∧ ∀ y ∈ l, Q y := by
  obtain ⟨fuel, hf⟩ := h
  obtain ⟨l, ⟨A, c, e3, hl, hc⟩, hq⟩ := opensQ_slice ht hs hk hf
  obtain ⟨a, n, cp, rfl⟩ := okWide_slice ht hv
  simp [Value.cells] at e3
  obtain ⟨rfl, rfl, rfl⟩ := e3
  exact ⟨_, _, l, rfl, hc, hl, hq⟩
theorem open_struct_q {α : Type} {H : Type} {enc : TypeId × Value → H} {P : Program} {W : World} {base b0 : Nat} {sp : Nat → Bool} {held : Bool} {r : Reach} {t : TypeId} {fs : Array Field} {v : Value} {d : DataW H} {p : List MemPlace} {k : Kd α} {Q : α → Prop} (ht : P.underlying t = some (.struct fs)) (hk : OpensQ P W t k Q)
    (hv : Value.okWide P W r b0 t v) (h : DataW.Trod enc P W base sp held t v d p) : ∃ (cs : List Value) (y : α), v = .agg cs.toArray ∧ k.K W y cs ∧ Q y := by
  obtain ⟨cs, rfl, hsz⟩ := okWide_struct ht hv
  obtain ⟨fuel, hf⟩ := h
  obtain ⟨y, hy, hq⟩ := hk hf
  exact ⟨cs.toList, y, by simp, hy, hq⟩
end Go.Proofs.YtlmhgnkkdjpkcaaO
