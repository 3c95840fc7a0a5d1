import Derived.Test.YtfgibjkgiolonaaWm
import Derived.Deep.Slices
import Derived.Deep.Fields
import Derived.Carry
import Derived.WideShapes
import Derived.SizedLaws
import Derived.Test.YtfgibjkgiolonaaPAx0
set_option linter.unusedVariables false
set_option linter.unusedSimpArgs false
namespace Go.Proofs.YtfgibjkgiolonaaO
open Go.ChangeShapes Go.WideShapes Go.RowKit Go.Deep Go.Proofs.YtfgibjkgiolonaaW.PrintWords Go.Proofs.YtfgibjkgiolonaaW.PrintWords.Kd
def Opens {α : Type} (P : Program) (W : World) (t : TypeId) (d : Kd α) : Prop :=
 ∀ {H : Type} {enc : TypeId × Value → H} {base : Nat} {spare : Nat → Bool} {held : Bool} {fuel : Nat} {cs : List Value} {x : DataW H × List MemPlace}, DataW.trod enc P W base spare held fuel t cs = some x → ∃ y : α, d.K W y cs
theorem opens_int {P : Program} {W : World} {t : TypeId} {k : IntKind} (ht : P.underlying t = some (.int k)) : Opens P W t (Kd.int k) := fun h => by
 obtain ⟨n, h1, _⟩ := DataW.trod_int ht h
 exact ⟨n, h1⟩
theorem opens_bool {P : Program} {W : World} {t : TypeId} (ht : P.underlying t = some .bool) : Opens P W t Kd.bool := fun h => by
 obtain ⟨n, h1, _⟩ := DataW.trod_bool ht h
 exact ⟨n, h1⟩
theorem opens_string {P : Program} {W : World} {t : TypeId} (ht : P.underlying t = some .string) : Opens P W t Kd.string := fun h => by
 obtain ⟨n, h1, _⟩ := DataW.trod_string ht h
 exact ⟨n, h1⟩
theorem listOf {α : Type} {Q : Nat → α → Prop} : ∀ n, (∀ i, i < n → ∃ x, Q i x) → ∃ l : List α, l.length = n ∧ ∀ j (h : j < l.length), Q j l[j]
 | 0, _ => ⟨[], rfl, fun j h => absurd h (by simp)⟩
 | n + 1, h => by
  obtain ⟨l, hl, hq⟩ := listOf n fun i hi => h i (by omega)
  obtain ⟨x, hx⟩ := h n (by omega)
  refine ⟨l ++ [x], by simp [hl], fun j hj => ?_⟩
  by_cases e : j < l.length
  ·rw [List.getElem_append_left e]
   exact hq j e
  ·have : j = n := by simp at hj; omega
   subst this
   subst hl
   simpa using hx
theorem opens_slice {α : Type} {P : Program} {W : World} {t e : TypeId} {d : Kd α} (ht : P.underlying t = some (.slice e)) (hs : P.cellsOf e = d.sz) (he : Opens P W e d) : Opens P W t (Kd.slice e d) := fun {H enc base spare held fuel cs x} h => by
 rcases open_slice ht h with ⟨rfl, _⟩ | ⟨a, len, cap, m, n, D, Pl, rfl, hb, hl, hm, hmm, _, hi⟩
 ·exact ⟨[], none, 0, rfl, Nat.le_refl _, rfl, by simp, fun hp => absurd hp (by simp)⟩
 ·have hlm : len ≤ m := by rw [hmm]; split <;> omega
  have each : ∀ i, i < len → ∃ y : α, ∃ c, c.length = d.sz ∧ d.K W y c ∧ ∀ j u, c[j]? = some u → W.cell? (a.add (i * d.sz + j)) = some u := by
   intro i hil
   obtain ⟨cs', hc, htr⟩ := hi i (by omega)
   rw [hs] at hc
   obtain ⟨_, hlen, hat⟩ := World.cells?_some hc
   obtain ⟨y, hy⟩ := he htr
   refine ⟨y, cs', hlen, hy, fun j u hu => ?_⟩
   have hj : j < cs'.length := (List.getElem?_eq_some_iff.1 hu).1
   have := hat j (by omega)
   rw [Go.Proofs.YtfgibjkgiolonaaW.PrintWords.add_add] at this
   rw [this, hu]
  obtain ⟨l, hll, hq⟩ := listOf len each
  refine ⟨l, some a, cap, by rw [hll], by omega, rfl, by have := hm; unfold maxLen at this; omega, fun _ => ⟨a, rfl, fun j p hj => ?_⟩⟩
  obtain ⟨hjl, rfl⟩ := List.getElem?_eq_some_iff.1 hj
  exact hq j hjl
theorem pairK {α β : Type} {a : Kd α} {b : Kd β} {W : World} {cs : List Value} (h1 : ∃ x, a.K W x (cs.take a.sz)) (h2 : ∃ y, b.K W y (cs.drop a.sz)) : ∃ z, (Kd.pair a b).K W z cs := by
 obtain ⟨x, hx⟩ := h1
 obtain ⟨y, hy⟩ := h2
 exact ⟨(x, y), cs.take a.sz, cs.drop a.sz, (List.take_append_drop _ _).symm, hx, hy⟩
theorem isoK {α β : Type} {d : Kd α} {f : β → α} {W : World} {cs : List Value} (g : α → β) (hg : ∀ x, f (g x) = x) (h : ∃ x, d.K W x cs) : ∃ y, (Kd.iso d f).K W y cs := by
 obtain ⟨x, hx⟩ := h
 exact ⟨g x, by show d.K W (f (g x)) cs; rw [hg]; exact hx⟩
def Part {α : Type} (W : World) (cs : List Value) (o : Nat) (d : Kd α) : Prop := ∃ y, d.K W y ((cs.drop o).take d.sz)
theorem Part.pair {α β : Type} {a : Kd α} {b : Kd β} {W : World} {cs : List Value} {o : Nat} (h1 : Part W cs o a) (h2 : Part W cs (o + a.sz) b) : Part W cs o (Kd.pair a b) := by
 refine pairK ?_ ?_
 ·show ∃ x, a.K W x (((cs.drop o).take (a.sz + b.sz)).take a.sz)
  rw [List.take_take, Nat.min_eq_left (by omega)]
  exact h1
 ·show ∃ x, b.K W x (((cs.drop o).take (a.sz + b.sz)).drop a.sz)
  rw [List.drop_take, List.drop_drop, Nat.add_sub_cancel_left]
  exact h2
theorem Part.iso {α β : Type} {d : Kd α} {f : β → α} {W : World} {cs : List Value} {o : Nat} (g : α → β) (hg : ∀ x, f (g x) = x) (h : Part W cs o d) : Part W cs o (Kd.iso d f) := isoK g hg h
theorem Part.whole {α : Type} {d : Kd α} {W : World} {cs : List Value} (hl : cs.length = d.sz) (h : Part W cs 0 d) : ∃ y, d.K W y cs := by
 unfold Part at h
 rwa [List.drop_zero, List.take_of_length_le (by omega)] at h
section
variable {H : Type} {enc : TypeId × Value → H} {P : Program} {W : World} {base : Nat} {spare : Nat → Bool} {held : Bool} {fuel : Nat} {t : TypeId} {cs : List Value} {x : DataW H × List MemPlace}
theorem field_of {fs : Array Field} (ht : P.underlying t = some (.struct fs)) (h : DataW.trod enc P W base spare held fuel t cs = some x) :
  cs.length = P.cellsOf t ∧ ∀ {α : Type} (d : Kd α) (i : Nat) (f : Field) (s o : Nat), fs[i]? = some f → P.cellsOf f.type = s → f.offset = o → Opens P W f.type d → ∃ y, d.K W y ((cs.drop o).take s) := by
 obtain ⟨xs, n, _, _, hl, hlen, hf⟩ := DataW.trod_struct ht h
 refine ⟨hl, fun d i f s o hi hs ho hd => ?_⟩
 subst hs ho
 have hix : i < xs.length := by
  have := (Array.getElem?_eq_some_iff.1 hi).1
  omega
 have := hf i f hi
 rw [List.getElem?_eq_getElem hix] at this
 exact hd this
end
theorem open_struct {α : Type} {H : Type} {enc : TypeId × Value → H} {P : Program} {W : World} {base b0 : Nat} {sp : Nat → Bool} {held : Bool} {r : Reach} {t : TypeId} {fs : Array Field} {v : Value} {d : DataW H} {p : List MemPlace} {k : Kd α} (ht : P.underlying t = some (.struct fs)) (hk : Opens P W t k)
  (hv : Value.okWide P W r b0 t v) (h : DataW.Trod enc P W base sp held t v d p) : ∃ (cs : List Value) (y : α), v = .agg cs.toArray ∧ k.K W y cs := by
 obtain ⟨cs, rfl, hsz⟩ := okWide_struct ht hv
 obtain ⟨fuel, hf⟩ := h
 obtain ⟨y, hy⟩ := hk hf
 exact ⟨cs.toList, y, by simp, hy⟩
end Go.Proofs.YtfgibjkgiolonaaO
set_option linter.unusedVariables false
set_option linter.unusedSimpArgs false
namespace Go.Proofs.YtfgibjkgiolonaaO
open Go.ChangeShapes Go.WideShapes Go.RowKit Go.Deep Go.Proofs.YtfgibjkgiolonaaW.PrintWords Go.Proofs.YtfgibjkgiolonaaW.PrintWords.Kd Go.Proofs.Ytfgibjkgiolonaa.PA
section
variable {W : World}
theorem opens42 : Opens Try.prog W 42 k42 := fun {H enc base spare held fuel cs x} h => by
 obtain ⟨hl, hf⟩ := field_of Try.underlying42 h
 exact Part.whole (hl.trans (by kernel_rfl)) (Part.iso (fun y => ⟨y.1, y.2.1, y.2.2.1, y.2.2.2.1, y.2.2.2.2⟩) (fun _ => rfl) (Part.pair (hf (Kd.int .i64) 0 _ 1 0 rfl (by kernel_rfl) rfl (opens_int Try.underlying3)) (Part.pair (hf (Kd.int .i64) 1 _ 1 1 rfl (by kernel_rfl) rfl (opens_int Try.underlying3)) (Part.pair (hf (Kd.int .i64) 2 _ 1 2 rfl (by kernel_rfl) rfl (opens_int Try.underlying2)) (Part.pair (hf Kd.bool 3 _ 1 3 rfl (by kernel_rfl) rfl (opens_bool Try.underlying4)) (hf Kd.string 4 _ 1 4 rfl (by kernel_rfl) rfl (opens_string Try.underlying9)))))))
theorem opens45 : Opens Try.prog W 45 k45 := fun {H enc base spare held fuel cs x} h => by
 obtain ⟨hl, hf⟩ := field_of Try.underlying45 h
 exact Part.whole (hl.trans (by kernel_rfl)) (Part.iso (fun y => ⟨y.1, y.2.1, y.2.2⟩) (fun _ => rfl) (Part.pair (hf Kd.bool 0 _ 1 0 rfl (by kernel_rfl) rfl (opens_bool Try.underlying4)) (Part.pair (hf k42 1 _ 5 1 rfl (by kernel_rfl) rfl opens42) (hf (Kd.slice 3 (Kd.int .i64)) 2 _ 1 6 rfl (by kernel_rfl) rfl (opens_slice Try.underlying43 (by kernel_rfl) (opens_int Try.underlying3))))))
def kScr : Kd (ByteArray × Int × List S45) := Kd.pair Kd.string (Kd.pair (Kd.int .i64) (Kd.slice 45 k45))
theorem opens24 : Opens Try.prog W 24 kScr := fun {H enc base spare held fuel cs x} h => by
 obtain ⟨hl, hf⟩ := field_of Try.underlying24 h
 exact Part.whole (hl.trans (by kernel_rfl)) (Part.pair (hf Kd.string 0 _ 1 0 rfl (by kernel_rfl) rfl (opens_string Try.underlying9)) (Part.pair (hf (Kd.int .i64) 1 _ 1 1 rfl (by kernel_rfl) rfl (opens_int Try.underlying3)) (hf (Kd.slice 45 k45) 2 _ 1 2 rfl (by kernel_rfl) rfl (opens_slice Try.underlying22 (by kernel_rfl) opens45))))
set_option maxRecDepth 100000 in
theorem open_script {H : Type} {enc : TypeId × Value → H} {base b0 : Nat} {sp : Nat → Bool} {held : Bool} {r : Reach} {v : Value} {d : DataW H} {p : List MemPlace} (hv : Value.okWide Try.prog W r b0 24 v) (h : DataW.Trod enc Try.prog W base sp held 24 v d p) :
  ∃ (bot : ByteArray) (sec : Int) (A : Option Addr) (c : Nat) (l : List S45), v = .agg #[.string bot, .int .i64 sec, .slice A l.length c] ∧ Kd.C k45 W A l.length l ∧ l.length ≤ c := by
 obtain ⟨cs, ⟨bot, sec, l⟩, hv1, hk⟩ := open_struct (P := Try.prog) (W := W) (t := 24) (r := r) (b0 := b0) (v := v) (k := kScr) Try.underlying24 opens24 hv h
 obtain ⟨c0, c1, e1, h1, c2, c3, e2, h2, A, c, e3, hl, hc⟩ := hk
 have q1 : c0 = [.string bot] := h1
 have q2 : c2 = [.int .i64 sec] := h2
 refine ⟨bot, sec, A, c, l, ?_, hc, hl⟩
 rw [hv1, e1, e2, e3, q1, q2]
 rfl
end
end Go.Proofs.YtfgibjkgiolonaaO
