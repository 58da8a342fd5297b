-- Own text of this seat, laid by the session's program ownprint.py (wip/tools). Lean checks it.
import Derived.Test.YtaogeajjidnfgaaQPatchTouchesx0
namespace Go.Proofs.Ytaogeajjidnfgaa.QPatchTouches
open Go.RowKit Go.Proofs.YtaogeajjidnfgaaW.PrintWords Go.Proofs.YtaogeajjidnfgaaW.PrintLast Go.Proofs.YtaogeajjidnfgaaW.PrintMore
attribute [local go_sem] max2_int min2_int max_two min_two max_three min_three max_four min_four   -- for this text's walks alone
set_option linter.unusedVariables false
set_option linter.unusedSimpArgs false

-- NOT PRINTED: function 45 (vtree_nodes)

-- NOT PRINTED: function 46 (vtree_node)

-- NOT PRINTED: function 34 (vtree_Check)

-- NOT PRINTED: function 35 (patch_bench_load)

-- NOT PRINTED: function 36 (patch_bench_step)

-- NOT PRINTED: function 37 (patch_tell)

-- NOT PRINTED: function 14 (patch_Apply)

end Go.Proofs.Ytaogeajjidnfgaa.QPatchTouches
