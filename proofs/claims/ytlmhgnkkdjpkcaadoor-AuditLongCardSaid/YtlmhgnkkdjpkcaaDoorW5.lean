/- The law AuditLong at every argument: it answers true. -/
import Derived.Test.YtlmhgnkkdjpkcaaDoorPureAuditLong
import Derived.Test.YtlmhgnkkdjpkcaaDoorWf
set_option linter.unusedVariables false
namespace Go.Proofs.YtlmhgnkkdjpkcaaDoorO
open Go.RowKit Go.Proofs.YtlmhgnkkdjpkcaaDoorW.PrintWords Go.Proofs.YtlmhgnkkdjpkcaaDoor.PA Go.Proofs.YtlmhgnkkdjpkcaaDoorG
theorem auditLong_row (a0 : Int) (A : Option Addr) (c : Nat) (l : List S30) (a2 : Int) (W : World) (ht : Tab W) (hw0 : (Lit.int .i64 a0).wf = true) (hC : Kd.C k30 W A l.length l) (hc : l.length ≤ c) (hq : ∀ y ∈ l, NoteOk y) (hw2 : (Lit.int .i64 a2).wf = true) :
  Calls Tryd.prog 6 #[.int .i64 a0, .slice A l.length c, .int .i64 a2] W fun e W' => e = .returned (.bool true) ∧ Below W.heap.size W W' := by
 obtain ⟨k, hk⟩ := auditLong a0 l a2 (Kd.C_max hC) (fun n hn => fit_of (hq n hn))
 exact outlawlaw23_AuditLong.calls k a0 A c l a2 true W ⟨rfl⟩ ht hC hc (hk k (Nat.le_refl _))
end Go.Proofs.YtlmhgnkkdjpkcaaDoorO
