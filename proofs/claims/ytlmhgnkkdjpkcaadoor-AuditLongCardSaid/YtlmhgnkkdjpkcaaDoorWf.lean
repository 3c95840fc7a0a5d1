/- Notes that were opened: their numbers fit. -/
import Derived.Test.YtlmhgnkkdjpkcaaDoorP0
import Derived.Test.YtlmhgnkkdjpkcaaDoorMo
set_option linter.unusedVariables false
namespace Go.Proofs.YtlmhgnkkdjpkcaaDoorO
open Go.RowKit Go.Proofs.YtlmhgnkkdjpkcaaDoorW.PrintWords Go.Proofs.YtlmhgnkkdjpkcaaDoor.PA Go.Proofs.YtlmhgnkkdjpkcaaDoorG
theorem wf_is {n : Int} (h : (Lit.int .i64 n).wf = true) : -9223372036854775808 ≤ n ∧ n ≤ 9223372036854775807 := by
 simp only [Lit.wf, Bool.and_eq_true, decide_eq_true_eq] at h
 exact h
theorem fit_of {n : S30} (h : NoteOk n) : FitN n := by
 obtain ⟨-, h1, h2⟩ := h
 exact ⟨wf_is h1, wf_is h2⟩
end Go.Proofs.YtlmhgnkkdjpkcaaDoorO
