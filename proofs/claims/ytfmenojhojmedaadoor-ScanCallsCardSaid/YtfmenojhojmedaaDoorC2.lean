/- The contract of scan.Unquote, over those of the reader's methods, which a program printed. -/
import Derived.Test.YtfmenojhojmedaaDoorPRx2
import Derived.Deep.QuietTactic
import Derived.BigQuiet
import Derived.Deep.LoopGhost
import Derived.Deep.RegionHeld3
set_option linter.unusedVariables false
set_option linter.unusedSimpArgs false
namespace Go.Proofs.YtfmenojhojmedaaDoorG
open Go.RowKit Go.Proofs Go.Proofs.YtfmenojhojmedaaDoorX Go.Proofs.YtfmenojhojmedaaDoorB Go.Proofs.YtfmenojhojmedaaDoorW.PrintWords Go.Proofs.YtfmenojhojmedaaDoor.PR
def unqBad (e : Int) : Option (ByteArray × Int × Int) := some (⟨#[]⟩, 0, e)
def scan_Unquote.l0 : Nat → ByteArray → Int → Int → List UInt8 → Option (ByteArray × Int × Int)
  | 0, _, _, _, _ => none
  | k + 1, s, at_, e, acc => (scan_reader_next.f s at_ e).bind fun n =>
    if n.2.2.1 = s ∧ 1 ≤ n.2.2.2.1 ∧ n.2.2.2.1 ≤ s.size ∧ acc.length ≤ 100000000 ∧ n.1 < 256 then
      if n.2.1 = true then
        if n.1 = 34 then some (⟨acc.toArray⟩, n.2.2.2.1, 0)
        else if n.1 < 32 then unqBad 5
        else if n.1 = 92 then (scan_reader_escape.f k s n.2.2.2.1 n.2.2.2.2).bind fun x =>
          if x.2.1 = true then (if x.2.2.1 = s ∧ 0 ≤ x.1 ∧ x.1 ≤ 2147483647 then scan_Unquote.l0 k s x.2.2.2.1 x.2.2.2.2 (acc ++ Lib.encodeRune x.1) else none)
          else unqBad x.2.2.2.2
        else if (Lib.decodeGo (s.extract (n.2.2.2.1.toNat - 1) s.size)).1 = 65533 ∧ (Lib.decodeGo (s.extract (n.2.2.2.1.toNat - 1) s.size)).2 < 2 then unqBad 6
        else if 0 ≤ (Lib.decodeGo (s.extract (n.2.2.2.1.toNat - 1) s.size)).2 ∧ (Lib.decodeGo (s.extract (n.2.2.2.1.toNat - 1) s.size)).2 ≤ 4 ∧ 0 ≤ (Lib.decodeGo (s.extract (n.2.2.2.1.toNat - 1) s.size)).1 ∧ (Lib.decodeGo (s.extract (n.2.2.2.1.toNat - 1) s.size)).1 ≤ 2147483647 then
          scan_Unquote.l0 k s (n.2.2.2.1 + ((Lib.decodeGo (s.extract (n.2.2.2.1.toNat - 1) s.size)).2 - 1)) n.2.2.2.2 (acc ++ Lib.encodeRune (Lib.decodeGo (s.extract (n.2.2.2.1.toNat - 1) s.size)).1)
        else none
      else unqBad n.2.2.2.2
    else none
def scan_Unquote.f (k : Nat) (s : ByteArray) : Option (ByteArray × Int × Int) :=
  if s.size ≤ 1000000 then (scan_reader_next.f s 0 0).bind fun n =>
    if n.2.2.1 = s then if n.2.1 = true then (if n.1 = 34 then scan_Unquote.l0 k s n.2.2.2.1 n.2.2.2.2 [] else unqBad 5) else unqBad n.2.2.2.2 else none
  else none
theorem builder_keep {B b g : Nat} {bs : List Value} {w w' : World} {cs : Array Value} (h : Lib.IsBuilderF 46 5 B b bs w) (hk : KeepBut w w' g none) (hne : b ≠ g) (hg : w.heap[g]? = some (.cells cs 56 (0, 0))) : Lib.IsBuilderF 46 5 B b bs w' := by
  have key : ∀ p, Lib.BuilderAtF 46 5 B b p bs w → Lib.BuilderAtF 46 5 B b p bs w' := by
    rintro p ⟨hB, v, hb, hown, hn⟩
    have lt : ∀ i o, w.heap[i]? = some o → i < w.heap.size := fun i o h => (Array.getElem?_eq_some_iff.1 h).1
    refine ⟨hB, v, (hk.2 b (lt _ _ hb) hne (by simp)).trans hb, ⟨hown.1, ?_⟩, hn⟩
    rcases hown.2 with h | ⟨r, cap, cur, fz, hv, hbr, hr, rest⟩
    · exact .inl h
    · refine .inr ⟨r, cap, cur, fz, hv, hbr, (hk.2 r (lt _ _ hr) ?_ (by simp)).trans hr, rest⟩
      rintro rfl
      rw [hg] at hr
      injection hr with hr
      injection hr with _ ht
      exact absurd ht (by decide)
  exact h.elim (fun x => .inl (key _ x)) (fun x => .inr (key _ x))
/-- What holds at a round's head. -/
structure St (w W : World) (g b : Nat) (s : ByteArray) (at_ e : Int) (acc : List UInt8) : Prop where
  rd : IsS56 w W g s at_ e
  bld : Lib.IsBuilderF 46 5 b b (Lib.byteCells acc) W
  bel : Below w.heap.size w W
  lt : g < b
  le : b ≤ W.heap.size
theorem St.step {w W W' : World} {g b : Nat} {s : ByteArray} {at_ e at2 e2 : Int} {acc : List UInt8} (h : St w W g b s at_ e acc) (h1 : IsS56 w W' g s at2 e2) (h2 : Below w.heap.size w W') (h3 : KeepBut W W' g none) : St w W' g b s at2 e2 acc :=
  ⟨h1, builder_keep h.bld h3 (by have := h.lt; omega) h.rd.1, h2, h.lt, Nat.le_trans h.le h3.1⟩
theorem St.wrote {w W W' : World} {g b : Nat} {s : ByteArray} {at_ e : Int} {acc l : List UInt8} (h : St w W g b s at_ e acc) (hw : Wr b (Lib.byteCells (acc ++ l)) W W') (hb : w.heap.size ≤ b) : St w W' g b s at_ e (acc ++ l) :=
  ⟨⟨(hw.2.1.block g h.lt).trans h.rd.1, h.rd.2⟩, .inr hw.1, h.bel.trans (hw.2.1.mono hb), h.lt, Nat.le_trans h.le hw.2.1.size⟩
end Go.Proofs.YtfmenojhojmedaaDoorG
