-- Own text of this seat, laid by the session's program ownprint.py (wip/tools). Lean checks it.
import Derived.Test.YtgoolgmcbnikkaaDoorQChangeCopiesx0
import Derived.Test.YtgoolgmcbnikkaaDoorQChangeCopiesx1
import Derived.Test.YtgoolgmcbnikkaaDoorQChangeCopiesx2
import Derived.Test.YtgoolgmcbnikkaaDoorQChangeCopiesx3
import Derived.Test.YtgoolgmcbnikkaaDoorQChangeCopiesx4
import Derived.Test.YtgoolgmcbnikkaaDoorQChangeCopiesx5
import Derived.Test.YtgoolgmcbnikkaaDoorQChangeCopiesx6
import Derived.Test.YtgoolgmcbnikkaaDoorQChangeCopiesx7
import Derived.Test.YtgoolgmcbnikkaaDoorQChangeCopiesx8
import Derived.Test.YtgoolgmcbnikkaaDoorQChangeCopiesx9
import Derived.Test.YtgoolgmcbnikkaaDoorQChangeCopiesx10
import Derived.Test.YtgoolgmcbnikkaaDoorQChangeCopiesx11
import Derived.Test.YtgoolgmcbnikkaaDoorQChangeCopiesx12
import Derived.Test.YtgoolgmcbnikkaaDoorQChangeCopiesx13
import Derived.Test.YtgoolgmcbnikkaaDoorQChangeCopiesx14
namespace Go.Proofs.YtgoolgmcbnikkaaDoor.QChangeCopies
open Go.RowKit Go.Proofs.YtgoolgmcbnikkaaDoorW.PrintWords Go.Proofs.YtgoolgmcbnikkaaDoorW.PrintLast Go.Proofs.YtgoolgmcbnikkaaDoorW.PrintMore
attribute [local go_sem] max2_int min2_int max_two min_two max_three min_three max_four min_four   -- for this text's walks alone
set_option linter.unusedVariables false
set_option linter.unusedSimpArgs false

end Go.Proofs.YtgoolgmcbnikkaaDoor.QChangeCopies
