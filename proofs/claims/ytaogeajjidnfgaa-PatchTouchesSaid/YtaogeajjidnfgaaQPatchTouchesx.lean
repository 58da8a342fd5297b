-- Own text of this seat, laid by the session's program ownprint.py (wip/tools). Lean checks it.
import Derived.Test.YtaogeajjidnfgaaQPatchTouchesx0
import Derived.Test.YtaogeajjidnfgaaQPatchTouchesx1
import Derived.Test.YtaogeajjidnfgaaQPatchTouchesx2
import Derived.Test.YtaogeajjidnfgaaQPatchTouchesx3
import Derived.Test.YtaogeajjidnfgaaQPatchTouchesx4
import Derived.Test.YtaogeajjidnfgaaQPatchTouchesx5
import Derived.Test.YtaogeajjidnfgaaQPatchTouchesx6
import Derived.Test.YtaogeajjidnfgaaQPatchTouchesx7
import Derived.Test.YtaogeajjidnfgaaQPatchTouchesx8
namespace Go.Proofs.Ytaogeajjidnfgaa.QPatchTouches
open Go.RowKit Go.Proofs.YtaogeajjidnfgaaW.PrintWords Go.Proofs.YtaogeajjidnfgaaW.PrintLast Go.Proofs.YtaogeajjidnfgaaW.PrintMore
attribute [local go_sem] max2_int min2_int max_two min_two max_three min_three max_four min_four   -- for this text's walks alone
set_option linter.unusedVariables false
set_option linter.unusedSimpArgs false

end Go.Proofs.Ytaogeajjidnfgaa.QPatchTouches
