-- Own text of this seat, laid by the session's program ownprint.py (wip/tools). Lean checks it.
import Derived.Test.YtbnhjkcpecilbaaDoorQClockTextsx0
import Derived.Test.YtbnhjkcpecilbaaDoorQClockTextsx1
import Derived.Test.YtbnhjkcpecilbaaDoorQClockTextsx2
import Derived.Test.YtbnhjkcpecilbaaDoorQClockTextsx3
import Derived.Test.YtbnhjkcpecilbaaDoorQClockTextsx4
namespace Go.Proofs.YtbnhjkcpecilbaaDoor.QClockTexts
open Go.RowKit Go.Proofs.YtbnhjkcpecilbaaDoorW.PrintWords Go.Proofs.YtbnhjkcpecilbaaDoorW.PrintLast Go.Proofs.YtbnhjkcpecilbaaDoorW.PrintMore
attribute [local go_sem] max2_int min2_int max_two min_two max_three min_three max_four min_four   -- for this text's walks alone
set_option linter.unusedVariables false
set_option linter.unusedSimpArgs false

end Go.Proofs.YtbnhjkcpecilbaaDoor.QClockTexts
