-- Own text of this seat, laid by the session's program ownprint.py (wip/tools). Lean checks it.
import Derived.Test.YtlmkgccaiihgjaaDoorQIdentSortsx0
import Derived.Test.YtlmkgccaiihgjaaDoorQIdentSortsx1
import Derived.Test.YtlmkgccaiihgjaaDoorQIdentSortsx2
import Derived.Test.YtlmkgccaiihgjaaDoorQIdentSortsx3
import Derived.Test.YtlmkgccaiihgjaaDoorQIdentSortsx4
import Derived.Test.YtlmkgccaiihgjaaDoorQIdentSortsx5
namespace Go.Proofs.YtlmkgccaiihgjaaDoor.QIdentSorts
open Go.RowKit Go.Proofs.YtlmkgccaiihgjaaDoorW.PrintWords Go.Proofs.YtlmkgccaiihgjaaDoorW.PrintLast Go.Proofs.YtlmkgccaiihgjaaDoorW.PrintMore
attribute [local go_sem] max2_int min2_int max_two min_two max_three min_three max_four min_four   -- for this text's walks alone
set_option linter.unusedVariables false
set_option linter.unusedSimpArgs false

end Go.Proofs.YtlmkgccaiihgjaaDoor.QIdentSorts
