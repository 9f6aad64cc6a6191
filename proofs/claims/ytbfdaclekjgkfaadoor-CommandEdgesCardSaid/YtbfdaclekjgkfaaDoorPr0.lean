-- Laid by wip/tools/ext.py, a program of this repo, over the kit's printer: Go functions as plain Lean functions, and their contracts.
import Derived.Test.YtbfdaclekjgkfaaDoorProg
import Derived.Below
import Derived.Deep.Draws
import Derived.Deep.AppendLies
import Derived.Maps.AppendAt
import Derived.OwnWalk
import Derived.Laws.BytesArg
import Derived.Laws.MakeOwn
import Derived.Laws.OwnMore
import Derived.Deep.OwnRows
import Derived.Tactics
import Derived.Lib.ConvBytes
import Derived.Laws.Slices
import Derived.WalkKit
import Derived.KernelRfl
import Derived.RowKit3
import Derived.Deep.LoopGhost
import Derived.Deep.QuietTactic
import Derived.BigQuiet
import Derived.WideLaws
import Derived.Deep.DeepCutAuto
import Derived.Deep.CutBlock
import Derived.Deep.RegionHeld3
import Derived.Laws.Rows
import Derived.Lib.AppendStr
import Derived.ArgAppend
import Derived.Laws.IdiomCopy
import Derived.OrdersHeld
import Derived.Laws.BitsLemmas
import Derived.RowKit
import Derived.Test.YtbfdaclekjgkfaaDoorWrap
import Derived.Test.YtbfdaclekjgkfaaDoorWWords
import Derived.Test.YtbfdaclekjgkfaaDoorWLast
import Derived.Test.YtbfdaclekjgkfaaDoorWTab
import Derived.Test.YtbfdaclekjgkfaaDoorWFour
import Derived.Test.YtbfdaclekjgkfaaDoorWQPut
import Derived.Test.YtbfdaclekjgkfaaDoorWApart
import Derived.Test.YtbfdaclekjgkfaaDoorWArr
import Derived.Test.YtbfdaclekjgkfaaDoorWZeros
import Derived.Test.YtbfdaclekjgkfaaDoorWFoot
import Derived.Test.YtbfdaclekjgkfaaDoorWKept
import Derived.Test.YtbfdaclekjgkfaaDoorWShare
import Derived.Test.YtbfdaclekjgkfaaDoorWN
import Derived.Test.YtbfdaclekjgkfaaDoorWFootNe
import Derived.Test.YtbfdaclekjgkfaaDoorWAt
import Derived.Test.YtbfdaclekjgkfaaDoorWEqStruct
import Derived.Test.YtbfdaclekjgkfaaDoorWRepsOne
import Derived.Test.YtbfdaclekjgkfaaDoorWInv
import Derived.Test.YtbfdaclekjgkfaaDoorWInvWords
import Derived.Test.YtbfdaclekjgkfaaDoorWGuard
import Derived.Test.YtbfdaclekjgkfaaDoorWNEv
import Derived.Test.YtbfdaclekjgkfaaDoorWMore
namespace Go.Proofs.YtbfdaclekjgkfaaDoor.Pr
open Go.RowKit Go.Proofs.YtbfdaclekjgkfaaDoorW.PrintWords Go.Proofs.YtbfdaclekjgkfaaDoorW.PrintLast Go.Proofs.YtbfdaclekjgkfaaDoorW.PrintMore
attribute [local go_sem] max2_int min2_int max_two min_two max_three min_three max_four min_four   -- for this text's walks alone
set_option linter.unusedVariables false
set_option linter.unusedSimpArgs false



def errW : Option Int → Value
  | none => .nilIface
  | some c => .iface 0 (.int .i64 c)
theorem errW_none : errW none = .nilIface := rfl
theorem errW_some (c : Int) : errW (some c) = .iface 0 (.int .i64 c) := rfl

theorem info5 : (Tryd.prog.info? 5).map (fun i => (i.zero, i.size, i.bytes)) = some (some (.int .u8 0), 1, 1) := by kernel_rfl
theorem info9 : (Tryd.prog.info? 9).map (fun i => (i.zero, i.size, i.bytes)) = some (some (.string ⟨#[]⟩), 1, 16) := by kernel_rfl
-- the values' own types

end Go.Proofs.YtbfdaclekjgkfaaDoor.Pr
