-- Own text of this seat, laid by the session's program ownprint.py (wip/tools). Lean checks it.
import Derived.Test.YtgoolgmcbnikkaaDoorQChangeBackx0
import Derived.Test.YtgoolgmcbnikkaaDoorQChangeBackx1
import Derived.Test.YtgoolgmcbnikkaaDoorQChangeBackx2
import Derived.Test.YtgoolgmcbnikkaaDoorQChangeBackx3
import Derived.Test.YtgoolgmcbnikkaaDoorQChangeBackx4
import Derived.Test.YtgoolgmcbnikkaaDoorQChangeBackx5
import Derived.Test.YtgoolgmcbnikkaaDoorQChangeBackx6
import Derived.Test.YtgoolgmcbnikkaaDoorQChangeBackx7
import Derived.Test.YtgoolgmcbnikkaaDoorQChangeBackx8
import Derived.Test.YtgoolgmcbnikkaaDoorQChangeBackx9
import Derived.Test.YtgoolgmcbnikkaaDoorQChangeBackx10
import Derived.Test.YtgoolgmcbnikkaaDoorQChangeBackx11
import Derived.Test.YtgoolgmcbnikkaaDoorQChangeBackx12
import Derived.Test.YtgoolgmcbnikkaaDoorQChangeBackx13
namespace Go.Proofs.YtgoolgmcbnikkaaDoor.QChangeBack
open Go.RowKit Go.Proofs.YtgoolgmcbnikkaaDoorW.PrintWords Go.Proofs.YtgoolgmcbnikkaaDoorW.PrintLast Go.Proofs.YtgoolgmcbnikkaaDoorW.PrintMore
attribute [local go_sem] max2_int min2_int max_two min_two max_three min_three max_four min_four   -- for this text's walks alone
set_option linter.unusedVariables false
set_option linter.unusedSimpArgs false

end Go.Proofs.YtgoolgmcbnikkaaDoor.QChangeBack
