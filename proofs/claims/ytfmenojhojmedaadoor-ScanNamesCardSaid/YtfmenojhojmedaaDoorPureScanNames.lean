import Derived.Test.YtfmenojhojmedaaDoorPBx3
set_option linter.unusedVariables false
namespace Go.Proofs.YtfmenojhojmedaaDoor.Pure
open Go.RowKit Go.Proofs.YtfmenojhojmedaaDoor.PB Go.Proofs.YtfmenojhojmedaaDoorW.PrintWords Go.Proofs.YtfmenojhojmedaaDoorG Go.Proofs.YtfmenojhojmedaaDoorX
theorem ScanNames : outlawlaw01_ScanNames.Pure := ⟨60, by kernel_rfl⟩
end Go.Proofs.YtfmenojhojmedaaDoor.Pure
