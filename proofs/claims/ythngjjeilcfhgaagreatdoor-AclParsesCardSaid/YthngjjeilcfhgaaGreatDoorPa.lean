-- Laid by wip/tools/ext.py, a program of this repo, over the kit's printer: Go functions as plain Lean functions, and their contracts.
import Derived.Test.YthngjjeilcfhgaaGreatDoorPa0
import Derived.Test.YthngjjeilcfhgaaGreatDoorPa1
import Derived.Test.YthngjjeilcfhgaaGreatDoorPa2
import Derived.Test.YthngjjeilcfhgaaGreatDoorPa3
namespace Go.Proofs.YthngjjeilcfhgaaGreatDoor.Pa
open Go.RowKit Go.Proofs.YthngjjeilcfhgaaGreatDoorW.PrintWords Go.Proofs.YthngjjeilcfhgaaGreatDoorW.PrintLast Go.Proofs.YthngjjeilcfhgaaGreatDoorW.PrintMore
attribute [local go_sem] max2_int min2_int max_two min_two max_three min_three max_four min_four   -- for this text's walks alone
set_option linter.unusedVariables false
set_option linter.unusedSimpArgs false

end Go.Proofs.YthngjjeilcfhgaaGreatDoor.Pa
