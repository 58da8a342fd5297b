-- Own text of this seat, laid by the session's program ownprint.py (wip/tools). Lean checks it.
import Derived.Test.YtlmkgccaiihgjaaDoorQIdentGoesx0
import Derived.Test.YtlmkgccaiihgjaaDoorQIdentGoesx1
import Derived.Test.YtlmkgccaiihgjaaDoorQIdentGoesx2
import Derived.Test.YtlmkgccaiihgjaaDoorQIdentGoesx3
import Derived.Test.YtlmkgccaiihgjaaDoorQIdentGoesx4
import Derived.Test.YtlmkgccaiihgjaaDoorQIdentGoesx5
namespace Go.Proofs.YtlmkgccaiihgjaaDoor.QIdentGoes
open Go.RowKit Go.Proofs.YtlmkgccaiihgjaaDoorW.PrintWords Go.Proofs.YtlmkgccaiihgjaaDoorW.PrintLast Go.Proofs.YtlmkgccaiihgjaaDoorW.PrintMore
attribute [local go_sem] max2_int min2_int max_two min_two max_three min_three max_four min_four   -- for this text's walks alone
set_option linter.unusedVariables false
set_option linter.unusedSimpArgs false

end Go.Proofs.YtlmkgccaiihgjaaDoor.QIdentGoes
