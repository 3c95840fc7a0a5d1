/- The laws AuditCalls and AuditLong at every argument: they answer true. -/
import Derived.Test.YtlmhgnkkdjpkcaaDoorPureAuditCalls
import Derived.Test.YtlmhgnkkdjpkcaaDoorWf
set_option linter.unusedVariables false
namespace Go.Proofs.YtlmhgnkkdjpkcaaDoorO
open Go.RowKit Go.Proofs.YtlmhgnkkdjpkcaaDoorW.PrintWords Go.Proofs.YtlmhgnkkdjpkcaaDoor.PA Go.Proofs.YtlmhgnkkdjpkcaaDoorG
theorem auditCalls_row (A : Option Addr) (c : Nat) (l : List S30) (a1 a2 : ByteArray) (a3 : Int) (W : World) (ht : Tab W) (hC : Kd.C k30 W A l.length l) (hc : l.length ≤ c) (hq : ∀ y ∈ l, NoteOk y) (hs1 : a1.size ≤ 140737488351232) (hs2 : a2.size ≤ 140737488351232) (hw : (Lit.int .i64 a3).wf = true) :
  Calls Tryd.prog 5 #[.slice A l.length c, .string a1, .string a2, .int .i64 a3] W fun e W' => e = .returned (.bool true) ∧ Below W.heap.size W W' := by
 obtain ⟨k, hk⟩ := auditCalls l a1 a2 a3 (Kd.C_max hC) (fun n hn => fit_of (hq n hn))
 exact outlawlaw23_AuditCalls.calls k A c l a1 a2 a3 true W ⟨rfl⟩ ht hC hc (hk k (Nat.le_refl _))
end Go.Proofs.YtlmhgnkkdjpkcaaDoorO
