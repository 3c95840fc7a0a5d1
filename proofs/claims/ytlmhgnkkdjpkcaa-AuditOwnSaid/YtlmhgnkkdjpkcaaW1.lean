/- The law AuditOwn at every argument: it answers true. -/
import Derived.Test.YtlmhgnkkdjpkcaaPureAuditOwn
import Derived.Test.YtlmhgnkkdjpkcaaOn
set_option linter.unusedVariables false
namespace Go.Proofs.YtlmhgnkkdjpkcaaO
open Go.RowKit Go.Proofs.YtlmhgnkkdjpkcaaW.PrintWords Go.Proofs.Ytlmhgnkkdjpkcaa.PA Go.Proofs.YtlmhgnkkdjpkcaaG
theorem auditOwn_walk (A : Option Addr) (c : Nat) (l : List S31) (n : S31) (room user : ByteArray) (W : World) (hC : Kd.C k31 W A l.length l) (hc : l.length ≤ c) (_hq : ∀ y ∈ l, NoteOk y) (_hn : NoteOk n) (_h2 : room.size ≤ 140737488351232) (_h3 : user.size ≤ 140737488351232) :
    Calls Try.prog 4 #[.slice A l.length c, .agg #[.int .i64 n.f0, .int .i64 n.f1, .int .i64 n.f2.f0, .string n.f2.f1, .string n.f2.f2, .string n.f2.f3, .string n.f2.f4, .int .i64 n.f3, .string n.f4], .string room, .string user] W fun e W' => e = .returned (.bool true) ∧ Below W.heap.size W W' := by
  obtain ⟨k, hk⟩ := auditOwn l n room user (Kd.C_max hC)
  exact outlawlaw23_AuditOwn.calls k A c l n.f0 n.f1 n.f2.f0 n.f2.f1 n.f2.f2 n.f2.f3 n.f2.f4 n.f3 n.f4 room user true W ⟨rfl⟩ hC hc (hk k (Nat.le_refl _))
end Go.Proofs.YtlmhgnkkdjpkcaaO
