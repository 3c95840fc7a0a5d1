import Derived.Test.YtfgibjkgiolonaaPRx0
import Derived.Test.YtfgibjkgiolonaaPRx1
import Derived.Test.YtfgibjkgiolonaaPRx2
namespace Go.Proofs.Ytfgibjkgiolonaa.PR
open Go.RowKit Go.Proofs.YtfgibjkgiolonaaW.PrintWords Go.Proofs.YtfgibjkgiolonaaW.PrintLast Go.Proofs.YtfgibjkgiolonaaW.PrintMore Go.Proofs.YtfgibjkgiolonaaX
attribute [local go_sem] max2_int min2_int max_two min_two max_three min_three max_four min_four
set_option linter.unusedVariables false
set_option linter.unusedSimpArgs false
end Go.Proofs.Ytfgibjkgiolonaa.PR
