-- Own text of this seat, laid by the session's program ownprint.py (wip/tools). Lean checks it.
import Derived.Test.YtjlimpnfoeeofaaGreatDoorQWatchTextsx0
import Derived.Test.YtjlimpnfoeeofaaGreatDoorQWatchTextsx1
import Derived.Test.YtjlimpnfoeeofaaGreatDoorQWatchTextsx2
namespace Go.Proofs.YtjlimpnfoeeofaaGreatDoor.QWatchTexts
open Go.RowKit Go.Proofs.YtjlimpnfoeeofaaGreatDoorW.PrintWords Go.Proofs.YtjlimpnfoeeofaaGreatDoorW.PrintLast Go.Proofs.YtjlimpnfoeeofaaGreatDoorW.PrintMore
attribute [local go_sem] max2_int min2_int max_two min_two max_three min_three max_four min_four   -- for this text's walks alone
set_option linter.unusedVariables false
set_option linter.unusedSimpArgs false

end Go.Proofs.YtjlimpnfoeeofaaGreatDoor.QWatchTexts
