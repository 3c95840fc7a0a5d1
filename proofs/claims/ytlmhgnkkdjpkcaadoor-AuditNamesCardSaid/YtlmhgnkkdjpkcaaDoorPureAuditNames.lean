/- The examples of the chapter have the results that it states: no condition. -/
import Derived.Test.YtlmhgnkkdjpkcaaDoorPAx23
set_option linter.unusedVariables false
namespace Go.Proofs.YtlmhgnkkdjpkcaaDoor.Pure
open Go.RowKit Go.Proofs.YtlmhgnkkdjpkcaaDoor.PA Go.Proofs.YtlmhgnkkdjpkcaaDoorW.PrintWords Go.Proofs.YtlmhgnkkdjpkcaaDoorW.PrintLast Go.Proofs.YtlmhgnkkdjpkcaaDoorG
set_option maxRecDepth 100000 in
theorem AuditNames : outlawlaw23_AuditNames.Pure := ⟨80, by kernel_rfl⟩
end Go.Proofs.YtlmhgnkkdjpkcaaDoor.Pure
