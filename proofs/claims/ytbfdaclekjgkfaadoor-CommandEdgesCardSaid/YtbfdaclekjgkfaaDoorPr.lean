-- Laid by wip/tools/ext.py, a program of this repo, over the kit's printer: Go functions as plain Lean functions, and their contracts.
import Derived.Test.YtbfdaclekjgkfaaDoorPr0
import Derived.Test.YtbfdaclekjgkfaaDoorPr1
import Derived.Test.YtbfdaclekjgkfaaDoorPr2
import Derived.Test.YtbfdaclekjgkfaaDoorPr3
import Derived.Test.YtbfdaclekjgkfaaDoorPr4
import Derived.Test.YtbfdaclekjgkfaaDoorPr5
import Derived.Test.YtbfdaclekjgkfaaDoorPr6
namespace Go.Proofs.YtbfdaclekjgkfaaDoor.Pr
open Go.RowKit Go.Proofs.YtbfdaclekjgkfaaDoorW.PrintWords Go.Proofs.YtbfdaclekjgkfaaDoorW.PrintLast Go.Proofs.YtbfdaclekjgkfaaDoorW.PrintMore
attribute [local go_sem] max2_int min2_int max_two min_two max_three min_three max_four min_four   -- for this text's walks alone
set_option linter.unusedVariables false
set_option linter.unusedSimpArgs false

end Go.Proofs.YtbfdaclekjgkfaaDoor.Pr
