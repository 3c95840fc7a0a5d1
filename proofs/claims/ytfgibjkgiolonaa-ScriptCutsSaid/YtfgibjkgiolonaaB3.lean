/- The law ScriptCuts at every script, cut and byte: it answers true. -/
import Derived.Test.YtfgibjkgiolonaaPAx8
import Derived.Test.YtfgibjkgiolonaaPureScriptCuts
import Derived.Test.YtfgibjkgiolonaaOm
namespace Go.Proofs.YtfgibjkgiolonaaO
open Go.RowKit Go.Proofs.YtfgibjkgiolonaaW.PrintWords Go.Proofs.YtfgibjkgiolonaaS Go.Proofs.Ytfgibjkgiolonaa.PA
theorem scriptCuts_walk (bot : ByteArray) (sec : Int) (A : Option Addr) (c : Nat) (l : List S45) (cut b : Int) (W : World) (hC : Kd.C k45 W A l.length l) (hc : l.length ≤ c) (_hcut : (Lit.int .i64 cut).wf = true) (hb : (Lit.int .u8 b).wf = true) :
    Calls Try.prog 4 #[.agg #[.string bot, .int .i64 sec, .slice A l.length c], .int .i64 cut, .int .u8 b] W fun e W' => e = .returned (.bool true) ∧ Below W.heap.size W W' := by
  have hb2 : 0 ≤ b ∧ b ≤ 255 := by
    simp [Lit.wf] at hb
    have e1 : IntKind.u8.min = 0 := rfl
    have e2 : IntKind.u8.max = 255 := rfl
    rw [e1, e2] at hb
    exact hb
  obtain ⟨k, hk⟩ := scriptCuts bot sec l cut b hb2
  exact outlawlaw25_ScriptCuts.calls k bot sec A c l cut b true W ⟨rfl⟩ hC hc (hk k (Nat.le_refl _))
end Go.Proofs.YtfgibjkgiolonaaO
