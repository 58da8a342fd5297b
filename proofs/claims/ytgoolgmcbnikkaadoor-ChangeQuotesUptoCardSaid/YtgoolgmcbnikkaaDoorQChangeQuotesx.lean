-- Own text of this seat, laid by the session's program ownprint.py (wip/tools). Lean checks it.
import Derived.Test.YtgoolgmcbnikkaaDoorQChangeQuotesx0
import Derived.Test.YtgoolgmcbnikkaaDoorQChangeQuotesx1
import Derived.Test.YtgoolgmcbnikkaaDoorQChangeQuotesx2
import Derived.Test.YtgoolgmcbnikkaaDoorQChangeQuotesx3
import Derived.Test.YtgoolgmcbnikkaaDoorQChangeQuotesx4
import Derived.Test.YtgoolgmcbnikkaaDoorQChangeQuotesx5
import Derived.Test.YtgoolgmcbnikkaaDoorQChangeQuotesx6
import Derived.Test.YtgoolgmcbnikkaaDoorQChangeQuotesx7
import Derived.Test.YtgoolgmcbnikkaaDoorQChangeQuotesx8
import Derived.Test.YtgoolgmcbnikkaaDoorQChangeQuotesx9
import Derived.Test.YtgoolgmcbnikkaaDoorQChangeQuotesx10
import Derived.Test.YtgoolgmcbnikkaaDoorQChangeQuotesx11
import Derived.Test.YtgoolgmcbnikkaaDoorQChangeQuotesx12
import Derived.Test.YtgoolgmcbnikkaaDoorQChangeQuotesx13
import Derived.Test.YtgoolgmcbnikkaaDoorQChangeQuotesx14
namespace Go.Proofs.YtgoolgmcbnikkaaDoor.QChangeQuotes
open Go.RowKit Go.Proofs.YtgoolgmcbnikkaaDoorW.PrintWords Go.Proofs.YtgoolgmcbnikkaaDoorW.PrintLast Go.Proofs.YtgoolgmcbnikkaaDoorW.PrintMore
attribute [local go_sem] max2_int min2_int max_two min_two max_three min_three max_four min_four   -- for this text's walks alone
set_option linter.unusedVariables false
set_option linter.unusedSimpArgs false

end Go.Proofs.YtgoolgmcbnikkaaDoor.QChangeQuotes
