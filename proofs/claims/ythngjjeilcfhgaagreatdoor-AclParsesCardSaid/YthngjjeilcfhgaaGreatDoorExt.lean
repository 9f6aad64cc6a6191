/- The hand-walked functions of chapter 18: more rounds give the same answer. -/
import Derived.Test.YthngjjeilcfhgaaGreatDoorRead
import Derived.Test.YthngjjeilcfhgaaGreatDoorPrint
set_option linter.unusedVariables false
namespace Go.Proofs.YthngjjeilcfhgaaGreatDoor
open Go.RowKit Go.Proofs.YthngjjeilcfhgaaGreatDoorW.PrintWords Go.Proofs.YthngjjeilcfhgaaGreatDoorW.PrintLast

theorem acl_Right.mono : ∀ a0_0 a0_1 a0_2 a0_3 k, LeO (acl_Right.f k a0_0 a0_1 a0_2 a0_3) (acl_Right.f (k + 1) a0_0 a0_1 a0_2 a0_3) := by
  intro b u c p k
  unfold acl_Right.f
  refine LeO.ite (LeO.refl _) (LeO.bind (LeO.refl _) fun t => LeO.ite (LeO.refl _) (LeO.ite (LeO.ite (Pa.glob_Right.mono _ _) (LeO.refl _)) (LeO.refl _)))
theorem acl_read.mono : ∀ a0 k, LeO (acl_read.f k a0) (acl_read.f (k + 1) a0) := by
  intro s k
  unfold acl_read.f
  refine LeO.bind (LeO.refl _) fun l => ?_
  split
  · exact LeO.bind (acl_Right.mono _ _ _ _ _) fun rr => LeO.refl _
  · exact LeO.refl _
end Go.Proofs.YthngjjeilcfhgaaGreatDoor
