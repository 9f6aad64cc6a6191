-- Laid by wip/tools/ext.py, a program of this repo, over the kit's printer: Go functions as plain Lean functions, and their contracts.
import Derived.Test.YthngjjeilcfhgaaGreatDoorProg
import Derived.Below
import Derived.Deep.Draws
import Derived.Deep.AppendLies
import Derived.Maps.AppendAt
import Derived.OwnWalk
import Derived.Laws.BytesArg
import Derived.Laws.MakeOwn
import Derived.Laws.OwnMore
import Derived.Deep.OwnRows
import Derived.Tactics
import Derived.Lib.ConvBytes
import Derived.Laws.Slices
import Derived.WalkKit
import Derived.KernelRfl
import Derived.RowKit3
import Derived.Deep.LoopGhost
import Derived.Deep.QuietTactic
import Derived.BigQuiet
import Derived.WideLaws
import Derived.Deep.DeepCutAuto
import Derived.Deep.CutBlock
import Derived.Deep.RegionHeld3
import Derived.Laws.Rows
import Derived.Lib.AppendStr
import Derived.ArgAppend
import Derived.Laws.IdiomCopy
import Derived.OrdersHeld
import Derived.Laws.BitsLemmas
import Derived.RowKit
import Derived.Test.YthngjjeilcfhgaaGreatDoorPb
import Derived.Test.YthngjjeilcfhgaaGreatDoorWWords
import Derived.Test.YthngjjeilcfhgaaGreatDoorWLast
import Derived.Test.YthngjjeilcfhgaaGreatDoorWTab
import Derived.Test.YthngjjeilcfhgaaGreatDoorWEqStruct
import Derived.Test.YthngjjeilcfhgaaGreatDoorWRepsOne
import Derived.Test.YthngjjeilcfhgaaGreatDoorWGuard
import Derived.Test.YthngjjeilcfhgaaGreatDoorWMore
namespace Go.Proofs.YthngjjeilcfhgaaGreatDoor.Pl
open Go.Proofs.YthngjjeilcfhgaaGreatDoor.Pa Go.Proofs.YthngjjeilcfhgaaGreatDoor.Pb
open Go.RowKit Go.Proofs.YthngjjeilcfhgaaGreatDoorW.PrintWords Go.Proofs.YthngjjeilcfhgaaGreatDoorW.PrintLast Go.Proofs.YthngjjeilcfhgaaGreatDoorW.PrintMore
attribute [local go_sem] max2_int min2_int max_two min_two max_three min_three max_four min_four   -- for this text's walks alone
set_option linter.unusedVariables false
set_option linter.unusedSimpArgs false



def errW : Option Int → Value
  | none => .nilIface
  | some c => .iface 0 (.int .i64 c)
theorem errW_none : errW none = .nilIface := rfl
theorem errW_some (c : Int) : errW (some c) = .iface 0 (.int .i64 c) := rfl

theorem info9 : (Tryz.prog.info? 9).map (fun i => (i.zero, i.size, i.bytes)) = some (some (.string ⟨#[]⟩), 1, 16) := by kernel_rfl
theorem info45 : (Tryz.prog.info? 45).map (fun i => (i.zero, i.size, i.bytes)) = some (some (.agg #[(.bool false), (.string ⟨#[]⟩), (.int .i64 0), (.string ⟨#[]⟩)]), 4, 48) := by kernel_rfl
-- the values' own types
end Go.Proofs.YthngjjeilcfhgaaGreatDoor.Pl
