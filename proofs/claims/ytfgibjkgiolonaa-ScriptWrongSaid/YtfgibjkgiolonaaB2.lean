/- The law ScriptWrong at every script: it answers true. -/
import Derived.Test.YtfgibjkgiolonaaPAx9
import Derived.Test.YtfgibjkgiolonaaPureScriptWrong
import Derived.Test.YtfgibjkgiolonaaOm
namespace Go.Proofs.YtfgibjkgiolonaaO
open Go.RowKit Go.Proofs.YtfgibjkgiolonaaW.PrintWords Go.Proofs.YtfgibjkgiolonaaS Go.Proofs.Ytfgibjkgiolonaa.PA
theorem scriptWrong_walk (bot : ByteArray) (sec : Int) (A : Option Addr) (c : Nat) (l : List S45) (W : World) (hC : Kd.C k45 W A l.length l) (hc : l.length ≤ c) :
    Calls Try.prog 5 #[.agg #[.string bot, .int .i64 sec, .slice A l.length c]] W fun e W' => e = .returned (.bool true) ∧ Below W.heap.size W W' := by
  obtain ⟨k, hk⟩ := scriptWrong bot sec l
  exact outlawlaw25_ScriptWrong.calls k bot sec A c l true W ⟨rfl⟩ hC hc (hk k (Nat.le_refl _))
end Go.Proofs.YtfgibjkgiolonaaO
