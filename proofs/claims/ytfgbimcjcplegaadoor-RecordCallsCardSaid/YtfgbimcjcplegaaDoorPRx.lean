-- Written by a program of this session (gprint.py, a turned print with given contracts).
import Derived.Test.YtfgbimcjcplegaaDoorPRx0
import Derived.Test.YtfgbimcjcplegaaDoorPRx1
import Derived.Test.YtfgbimcjcplegaaDoorPRx2
namespace Go.Proofs.YtfgbimcjcplegaaDoor.PR
open Go.RowKit Go.Proofs.YtfgbimcjcplegaaDoorW.PrintWords Go.Proofs.YtfgbimcjcplegaaDoorW.PrintLast Go.Proofs.YtfgbimcjcplegaaDoorW.PrintMore Go.Proofs.YtfgbimcjcplegaaDoorX
attribute [local go_sem] max2_int min2_int max_two min_two max_three min_three max_four min_four   -- for this text's walks alone
set_option linter.unusedVariables false
set_option linter.unusedSimpArgs false

end Go.Proofs.YtfgbimcjcplegaaDoor.PR
