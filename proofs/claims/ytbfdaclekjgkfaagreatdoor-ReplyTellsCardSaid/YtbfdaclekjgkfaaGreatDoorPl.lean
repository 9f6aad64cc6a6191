-- Laid by wip/tools/ext.py, a program of this repo, over the kit's printer: Go functions as plain Lean functions, and their contracts.
import Derived.Test.YtbfdaclekjgkfaaGreatDoorPl0
import Derived.Test.YtbfdaclekjgkfaaGreatDoorPl1
namespace Go.Proofs.YtbfdaclekjgkfaaGreatDoor.Pl
open Go.RowKit Go.Proofs.YtbfdaclekjgkfaaGreatDoorW.PrintWords Go.Proofs.YtbfdaclekjgkfaaGreatDoorW.PrintLast Go.Proofs.YtbfdaclekjgkfaaGreatDoorW.PrintMore
attribute [local go_sem] max2_int min2_int max_two min_two max_three min_three max_four min_four   -- for this text's walks alone
set_option linter.unusedVariables false
set_option linter.unusedSimpArgs false

end Go.Proofs.YtbfdaclekjgkfaaGreatDoor.Pl
