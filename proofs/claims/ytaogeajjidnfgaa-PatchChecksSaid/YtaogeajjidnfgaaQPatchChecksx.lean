-- Own text of this seat, laid by the session's program ownprint.py (wip/tools). Lean checks it.
import Derived.Test.YtaogeajjidnfgaaQPatchChecksx0
import Derived.Test.YtaogeajjidnfgaaQPatchChecksx1
import Derived.Test.YtaogeajjidnfgaaQPatchChecksx2
import Derived.Test.YtaogeajjidnfgaaQPatchChecksx3
import Derived.Test.YtaogeajjidnfgaaQPatchChecksx4
import Derived.Test.YtaogeajjidnfgaaQPatchChecksx5
import Derived.Test.YtaogeajjidnfgaaQPatchChecksx6
import Derived.Test.YtaogeajjidnfgaaQPatchChecksx7
import Derived.Test.YtaogeajjidnfgaaQPatchChecksx8
import Derived.Test.YtaogeajjidnfgaaQPatchChecksx9
namespace Go.Proofs.Ytaogeajjidnfgaa.QPatchChecks
open Go.RowKit Go.Proofs.YtaogeajjidnfgaaW.PrintWords Go.Proofs.YtaogeajjidnfgaaW.PrintLast Go.Proofs.YtaogeajjidnfgaaW.PrintMore
attribute [local go_sem] max2_int min2_int max_two min_two max_three min_three max_four min_four   -- for this text's walks alone
set_option linter.unusedVariables false
set_option linter.unusedSimpArgs false

end Go.Proofs.Ytaogeajjidnfgaa.QPatchChecks
