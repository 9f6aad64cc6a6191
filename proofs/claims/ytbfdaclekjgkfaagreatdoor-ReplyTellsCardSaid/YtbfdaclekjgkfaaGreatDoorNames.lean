/- CommandNames: each operation has a class, and a name of its own; there are thirteen: the walk. -/
import Derived.Test.YtbfdaclekjgkfaaGreatDoorAlive
namespace Go.Proofs.YtbfdaclekjgkfaaGreatDoor
open Go.RowKit

def nm (op : Int) : ByteArray := if 0 < op ∧ op < 14 then nameOf op else ⟨#[]⟩
theorem nm_some (op : Int) : command_Name.f op = some (nm op) := rfl
theorem name_any (op : Int) (w : World) (hL : Laid w) : Calls Tryz.prog 17 #[.int .i64 op] w fun e w' => e = .returned (.string (nm op)) ∧ Below w.heap.size w w' :=
  command_Name.calls op _ w (nm_some op) hL
theorem names_full : ∀ i : Nat, i < 14 → 0 < i → ((nameOf (i : Int)).toList.isEmpty = false) := by decide +kernel
theorem names_apart : ∀ i : Nat, i < 14 → ∀ j : Nat, j < 14 → 0 < i → i ≠ j → ((nameOf (i : Int)).toList == (nameOf (j : Int)).toList) = false := by decide +kernel
theorem nm_in {a : Int} (h1 : 1 ≤ a) (h2 : a ≤ 13) : nm a = nameOf a := by unfold nm; rw [if_pos (by omega)]
theorem nm_out {a : Int} (h : a < 1 ∨ 13 < a) : nm a = ⟨#[]⟩ := by unfold nm; rw [if_neg (by omega)]
theorem nm_full {a : Int} (h1 : 1 ≤ a) (h2 : a ≤ 13) : (nm a).toList.isEmpty = false := by
  rw [nm_in h1 h2]
  obtain ⟨i, rfl⟩ := Int.eq_ofNat_of_zero_le (show 0 ≤ a by omega)
  exact names_full i (by omega) (by omega)
theorem nm_apart {a b : Int} (h1 : 1 ≤ a) (h2 : a ≤ 13) (hab : a ≠ b) : ((nm a).toList == (nm b).toList) = false := by
  by_cases hb : 1 ≤ b ∧ b ≤ 13
  · rw [nm_in h1 h2, nm_in hb.1 hb.2]
    obtain ⟨i, rfl⟩ := Int.eq_ofNat_of_zero_le (show 0 ≤ a by omega)
    obtain ⟨j, rfl⟩ := Int.eq_ofNat_of_zero_le (show 0 ≤ b by omega)
    exact names_apart i (by omega) j (by omega) (by omega) (by omega)
  · rw [nm_out (a := b) (by omega)]
    have := nm_full h1 h2
    have e : (⟨#[]⟩ : ByteArray).toList = [] := by decide +kernel
    rw [e]
    cases hh : (nm a).toList with
    | nil => rw [hh] at this; cases this
    | cons x xs => rfl

end Go.Proofs.YtbfdaclekjgkfaaGreatDoor
