/- The law AuditLife at every argument: it answers true. -/
import Derived.Test.YtlmhgnkkdjpkcaaB9
import Derived.Test.YtlmhgnkkdjpkcaaOn
set_option linter.unusedVariables false
namespace Go.Proofs.YtlmhgnkkdjpkcaaO
open Go.RowKit Go.Proofs.YtlmhgnkkdjpkcaaW.PrintWords Go.Proofs.Ytlmhgnkkdjpkcaa.PA Go.Proofs.YtlmhgnkkdjpkcaaG
theorem auditLife_row (A : Option Addr) (c : Nat) (l : List S31) (cut : Int) (W : World) (hC : Kd.C k31 W A l.length l) (hc : l.length ≤ c) (hq : ∀ y ∈ l, NoteOk y) (hw : (Lit.int .i64 cut).wf = true) :
    Calls Try.prog 3 #[.slice A l.length c, .int .i64 cut] W fun e W' => e = .returned (.bool true) ∧ Below W.heap.size W W' :=
  auditLife_walk A c l cut W hC hc (fun n hn => (hq n hn).2.1) hw
end Go.Proofs.YtlmhgnkkdjpkcaaO
