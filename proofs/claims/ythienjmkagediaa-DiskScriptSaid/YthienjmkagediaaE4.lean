/- The law DiskScript, for any string. -/
import Derived.Test.YthienjmkagediaaE3
namespace Go.Proofs.YthienjmkagediaaM
open Go.RowKit
theorem diskScript_walk (a0 : Int) (a1 : ByteArray) (a2 : Option Addr) (l2 : List ActD) (c2 : Nat) (w : World) (_ : (Lit.int .i64 a0).wf = true) (_ : a1.size ≤ 140737488351232) (h : ActsAt w a2 l2) (_ : a2 = none → c2 = 0) (hl : l2.length ≤ 140737488351232) :
    Calls Try.prog 7 #[.int .i64 a0, .string a1, .slice a2 l2.length c2] w fun e w' => e = .returned (.bool true) ∧ Below w.heap.size w w' := by
  obtain ⟨s, hs⟩ : ∃ s, a1 = bs s := ⟨_, (bs_data _).symm⟩
  subst hs
  exact diskScript a0 s a2 c2 l2 w h hl
end Go.Proofs.YthienjmkagediaaM
