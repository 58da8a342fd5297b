-- Own text of this seat, laid by the session's program ownprint.py (wip/tools). Lean checks it.
import Derived.Test.YtbnhjkcpecilbaaDoorQClockFillsx0
import Derived.Test.YtbnhjkcpecilbaaDoorQClockFillsx1
import Derived.Test.YtbnhjkcpecilbaaDoorQClockFillsx2
import Derived.Test.YtbnhjkcpecilbaaDoorQClockFillsx3
import Derived.Test.YtbnhjkcpecilbaaDoorQClockFillsx4
import Derived.Test.YtbnhjkcpecilbaaDoorQClockFillsx5
namespace Go.Proofs.YtbnhjkcpecilbaaDoor.QClockFills
open Go.RowKit Go.Proofs.YtbnhjkcpecilbaaDoorW.PrintWords Go.Proofs.YtbnhjkcpecilbaaDoorW.PrintLast Go.Proofs.YtbnhjkcpecilbaaDoorW.PrintMore
attribute [local go_sem] max2_int min2_int max_two min_two max_three min_three max_four min_four   -- for this text's walks alone
set_option linter.unusedVariables false
set_option linter.unusedSimpArgs false

end Go.Proofs.YtbnhjkcpecilbaaDoor.QClockFills
