/- The law ScriptCalls at every two scripts and every string: it answers true. -/
import Derived.Test.YtfgibjkgiolonaaPAx14
import Derived.Test.YtfgibjkgiolonaaPureScriptCalls
import Derived.Test.YtfgibjkgiolonaaOm
namespace Go.Proofs.YtfgibjkgiolonaaO
open Go.RowKit Go.Proofs.YtfgibjkgiolonaaW.PrintWords Go.Proofs.YtfgibjkgiolonaaS Go.Proofs.Ytfgibjkgiolonaa.PA
theorem scriptCalls_walk (b1 : ByteArray) (s1 : Int) (A1 : Option Addr) (c1 : Nat) (l : List S45) (b2 : ByteArray) (s2 : Int) (A2 : Option Addr) (c2 : Nat) (m : List S45) (s : ByteArray) (W : World) (hC1 : Kd.C k45 W A1 l.length l) (hc1 : l.length ≤ c1) (hC2 : Kd.C k45 W A2 m.length m) (hc2 : m.length ≤ c2) (_w : s.size ≤ 140737488351232) :
    Calls Try.prog 7 #[.agg #[.string b1, .int .i64 s1, .slice A1 l.length c1], .agg #[.string b2, .int .i64 s2, .slice A2 m.length c2], .string s] W fun e W' => e = .returned (.bool true) ∧ Below W.heap.size W W' := by
  obtain ⟨k, hk⟩ := scriptCalls b1 s1 l b2 s2 m s
  exact outlawlaw25_ScriptCalls.calls k b1 s1 A1 c1 l b2 s2 A2 c2 m s true W ⟨rfl⟩ hC1 hc1 hC2 hc2 (hk k (Nat.le_refl _))
end Go.Proofs.YtfgibjkgiolonaaO
