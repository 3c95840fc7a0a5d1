/- What the laws of this chapter share: the example; light notes; line and text as the plain functions. -/
import Derived.Test.YtlmhgnkkdjpkcaaDoorP1
import Derived.Test.YtlmhgnkkdjpkcaaDoorPAx4
import Derived.Test.YtlmhgnkkdjpkcaaDoorMl
import Derived.Test.YtlmhgnkkdjpkcaaDoorMt
set_option linter.unusedVariables false
set_option linter.unusedSimpArgs false
namespace Go.Proofs.YtlmhgnkkdjpkcaaDoorG
open Go.RowKit Go.Proofs.YtlmhgnkkdjpkcaaDoorW.PrintWords Go.Proofs.YtlmhgnkkdjpkcaaDoorW.PrintLast Go.Proofs.YtlmhgnkkdjpkcaaDoorW.PrintMore Go.Proofs.YtlmhgnkkdjpkcaaDoor.PA
set_option maxRecDepth 100000 in
theorem lives_now : outlawlaw23_lives.f 40 = some true := by kernel_rfl
theorem lives_ev : Ev (fun k => outlawlaw23_lives.f k) true := Ev.of outlawlaw23_lives.mono lives_now
/-- The numbers of a note are of their kind's size. -/
def FitN (n : S30) : Prop := (-9223372036854775808 ≤ n.f1 ∧ n.f1 ≤ 9223372036854775807) ∧ (-9223372036854775808 ≤ n.f3 ∧ n.f3 ≤ 9223372036854775807)
theorem textOk_of {n : S30} (h : lightB n = true) (hf : FitN n) : TextOk n := by
 unfold lightB at h
 simp only [Bool.and_eq_true, decide_eq_true_eq] at h
 exact ⟨hf, by omega⟩
theorem line_is {n : S30} (h : TextOk n) : audit_Line.f n.f0 n.f1 n.f2.f0 n.f2.f1 n.f2.f2 n.f2.f3 n.f2.f4 n.f3 n.f4 = some (noteS n) := by
 unfold audit_Line.f
 rw [if_pos ⟨h.1, Nat.le_trans h.2 (by decide)⟩]; rfl
theorem text_is {l : List S30} (h : ∀ n ∈ l, TextOk n) (hl : l.length ≤ 1000) : audit_Text.f l = some (textS l) := by
 unfold audit_Text.f; rw [if_pos ⟨h, hl⟩]
end Go.Proofs.YtlmhgnkkdjpkcaaDoorG
