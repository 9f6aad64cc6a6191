-- Laid by wip/tools/ext.py, a program of this repo, over the kit's printer: Go functions as plain Lean functions, and their contracts.
import Derived.Test.YthngjjeilcfhgaaGreatDoorPl0
import Derived.Test.YthngjjeilcfhgaaGreatDoorPl1
import Derived.Test.YthngjjeilcfhgaaGreatDoorPl2
import Derived.Test.YthngjjeilcfhgaaGreatDoorPl3
import Derived.Test.YthngjjeilcfhgaaGreatDoorPl4
import Derived.Test.YthngjjeilcfhgaaGreatDoorPl5
namespace Go.Proofs.YthngjjeilcfhgaaGreatDoor.Pl
open Go.Proofs.YthngjjeilcfhgaaGreatDoor.Pa Go.Proofs.YthngjjeilcfhgaaGreatDoor.Pb
open Go.RowKit Go.Proofs.YthngjjeilcfhgaaGreatDoorW.PrintWords Go.Proofs.YthngjjeilcfhgaaGreatDoorW.PrintLast Go.Proofs.YthngjjeilcfhgaaGreatDoorW.PrintMore
attribute [local go_sem] max2_int min2_int max_two min_two max_three min_three max_four min_four   -- for this text's walks alone
set_option linter.unusedVariables false
set_option linter.unusedSimpArgs false

end Go.Proofs.YthngjjeilcfhgaaGreatDoor.Pl
