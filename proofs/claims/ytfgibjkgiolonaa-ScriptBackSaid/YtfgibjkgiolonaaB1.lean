/- The law ScriptBack at every script and text: it answers true. -/
import Derived.Test.YtfgibjkgiolonaaPAx6
import Derived.Test.YtfgibjkgiolonaaPureScriptBack
import Derived.Test.YtfgibjkgiolonaaOm
namespace Go.Proofs.YtfgibjkgiolonaaO
open Go.RowKit Go.Proofs.YtfgibjkgiolonaaW.PrintWords Go.Proofs.YtfgibjkgiolonaaS Go.Proofs.Ytfgibjkgiolonaa.PA
theorem scriptBack_walk (bot : ByteArray) (sec : Int) (A : Option Addr) (c : Nat) (l : List S45) (s : ByteArray) (W : World) (hC : Kd.C k45 W A l.length l) (hc : l.length ≤ c) (_hs : s.size ≤ 140737488351232) :
  Calls Try.prog 3 #[.agg #[.string bot, .int .i64 sec, .slice A l.length c], .string s] W fun e W' => e = .returned (.bool true) ∧ Below W.heap.size W W' := by
 obtain ⟨k, hk⟩ := scriptBack bot sec l s
 exact outlawlaw25_ScriptBack.calls k bot sec A c l s true W ⟨rfl⟩ hC hc (hk k (Nat.le_refl _))
end Go.Proofs.YtfgibjkgiolonaaO
