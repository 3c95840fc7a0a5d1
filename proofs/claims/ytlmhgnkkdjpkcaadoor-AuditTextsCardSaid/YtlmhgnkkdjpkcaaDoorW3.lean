/- The law AuditTexts at every argument: it answers true. -/
import Derived.Test.YtlmhgnkkdjpkcaaDoorPureAuditTexts
import Derived.Test.YtlmhgnkkdjpkcaaDoorMo
set_option linter.unusedVariables false
namespace Go.Proofs.YtlmhgnkkdjpkcaaDoorO
open Go.RowKit Go.Proofs.YtlmhgnkkdjpkcaaDoorW.PrintWords Go.Proofs.YtlmhgnkkdjpkcaaDoor.PA Go.Proofs.YtlmhgnkkdjpkcaaDoorG
theorem wf_is {n : Int} (h : (Lit.int .i64 n).wf = true) : -9223372036854775808 ≤ n ∧ n ≤ 9223372036854775807 := by
  simp only [Lit.wf, Bool.and_eq_true, decide_eq_true_eq] at h
  exact h
theorem fit_of {n : S30} (h : NoteOk n) : FitN n := by
  obtain ⟨-, h1, h2⟩ := h
  exact ⟨wf_is h1, wf_is h2⟩
theorem auditTexts_row (A : Option Addr) (c : Nat) (l : List S30) (cut : Int) (W : World) (ht : Tab W) (hC : Kd.C k30 W A l.length l) (hc : l.length ≤ c) (hq : ∀ y ∈ l, NoteOk y) (hw : (Lit.int .i64 cut).wf = true) :
    Calls Tryd.prog 3 #[.slice A l.length c, .int .i64 cut] W fun e W' => e = .returned (.bool true) ∧ Below W.heap.size W W' := by
  replace hw := wf_is hw
  obtain ⟨k, hk⟩ := auditTexts l cut (Kd.C_max hC) (fun n hn => fit_of (hq n hn)) hw.1 hw.2
  exact outlawlaw23_AuditTexts.calls k A c l cut true W ⟨rfl⟩ ht hC hc (hk k (Nat.le_refl _))
end Go.Proofs.YtlmhgnkkdjpkcaaDoorO
