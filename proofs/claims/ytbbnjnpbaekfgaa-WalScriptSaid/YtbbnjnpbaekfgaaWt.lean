/- The law WalScript's walk, as its row asks for it. -/
import Derived.Test.YtbbnjnpbaekfgaaWs
set_option linter.unusedVariables false
namespace Go.Proofs.YtbbnjnpbaekfgaaM
open Go.RowKit
theorem wf_le (x : Int) (h : (Lit.int .i64 x).wf = true) : x ≤ 9223372036854775807 := by
  simp [Lit.wf] at h
  exact h.2
theorem walScript_row (x0 : ByteArray) (a1 : Option Addr) (l : List ActD) (c1 : Nat) (x2 : Int) (x3 : ByteArray) (x4 : Int) (w : World) (_ : x0.size ≤ 140737488351232) (h1 : ActsAt w a1 l) (hnil1 : a1 = none → c1 = 0) (l1 : l.length ≤ 140737488351232) (h2 : (Lit.int .i64 x2).wf = true) (_ : x3.size ≤ 140737488351232) (_ : (Lit.int .i64 x4).wf = true) :
    Calls Try.prog 8 #[.string x0, .slice a1 l.length c1, .int .i64 x2, .string x3, .int .i64 x4] w fun e w' => e = .returned (.bool true) ∧ Below w.heap.size w w' := walScript_walk x0 a1 l c1 x2 x3 x4 w (wf_le x2 h2) h1 hnil1 l1
end Go.Proofs.YtbbnjnpbaekfgaaM
