/- CommandNames: each operation has a class, and a name of its own; there are thirteen: the walk. -/
import Derived.Test.YtbfdaclekjgkfaaDoorAlive
namespace Go.Proofs.YtbfdaclekjgkfaaDoor
open Go.RowKit

def nm (op : Int) : ByteArray := if 0 < op ∧ op < 14 then nameOf op else ⟨#[]⟩
theorem nm_some (op : Int) : command_Name.f op = some (nm op) := rfl
theorem name_any (op : Int) (w : World) (hL : Laid w) : Calls Tryd.prog 18 #[.int .i64 op] w fun e w' => e = .returned (.string (nm op)) ∧ Below w.heap.size w w' :=
  command_Name.calls op _ w (nm_some op) hL
theorem names_full : ∀ i : Nat, i < 14 → 0 < i → ((nameOf (i : Int)).toList.isEmpty = false) := by decide +kernel
theorem names_apart : ∀ i : Nat, i < 14 → ∀ j : Nat, j < 14 → 0 < i → i ≠ j → ((nameOf (i : Int)).toList == (nameOf (j : Int)).toList) = false := by decide +kernel
theorem nm_in {a : Int} (h1 : 1 ≤ a) (h2 : a ≤ 13) : nm a = nameOf a := by unfold nm; rw [if_pos (by omega)]
theorem nm_out {a : Int} (h : a < 1 ∨ 13 < a) : nm a = ⟨#[]⟩ := by unfold nm; rw [if_neg (by omega)]
theorem nm_full {a : Int} (h1 : 1 ≤ a) (h2 : a ≤ 13) : (nm a).toList.isEmpty = false := by
  rw [nm_in h1 h2]
  obtain ⟨i, rfl⟩ := Int.eq_ofNat_of_zero_le (show 0 ≤ a by omega)
  exact names_full i (by omega) (by omega)
theorem nm_apart {a b : Int} (h1 : 1 ≤ a) (h2 : a ≤ 13) (hab : a ≠ b) : ((nm a).toList == (nm b).toList) = false := by
  by_cases hb : 1 ≤ b ∧ b ≤ 13
  · rw [nm_in h1 h2, nm_in hb.1 hb.2]
    obtain ⟨i, rfl⟩ := Int.eq_ofNat_of_zero_le (show 0 ≤ a by omega)
    obtain ⟨j, rfl⟩ := Int.eq_ofNat_of_zero_le (show 0 ≤ b by omega)
    exact names_apart i (by omega) j (by omega) (by omega) (by omega)
  · rw [nm_out (a := b) (by omega)]
    have := nm_full h1 h2
    have e : (⟨#[]⟩ : ByteArray).toList = [] := by decide +kernel
    rw [e]
    cases hh : (nm a).toList with
    | nil => rw [hh] at this; cases this
    | cons x xs => rfl

set_option maxRecDepth 100000 in
set_option maxHeartbeats 1600000 in
theorem names_walk (a b : Int) (w : World) (hL : Laid w) (_ha : -9223372036854775808 ≤ a ∧ a ≤ 9223372036854775807) (_hb : -9223372036854775808 ≤ b ∧ b ≤ 9223372036854775807) :
    Calls Tryd.prog 5 #[.int .i64 a, .int .i64 b] w fun e w' => e = .returned (.bool true) ∧ Below w.heap.size w w' := by
  by_cases hin : 1 ≤ a ∧ a ≤ 13
  · obtain ⟨h1, h2⟩ := hin
    have hc := (cls_pos a).2 ⟨h1, h2⟩
    have hf := nm_full h1 h2
    by_cases hab : a = b
    · subst hab
      go_enter Tryd.func5, Tryd.ntmps5
      go_wp2_with fail
      refine (alive_any _ hL).mono ?_
      rintro e w1 ⟨rfl, hb1⟩
      have L1 := Lib.hid (hL.below rfl hb1)
      have B1 := Lib.hid hb1
      clear hb1
      go_wp2_with (first | (go_at_call 16; refine (class_any _ _).mono ?_; rintro e w' ⟨rfl, rfl⟩) | (go_at_call 18; refine (name_any _ _ L1.out).mono ?_; rintro e w2 ⟨rfl, hb2⟩; have B2 := Lib.hid (B1.out.trans (hb2.mono B1.out.size)); clear hb2))
      go_ret
      exact ⟨rfl, B2.out⟩
    · have hap := nm_apart h1 h2 hab
      have hab' : (a == b) = false := beq_eq_false_iff_ne.2 hab
      clear hab
      go_enter Tryd.func5, Tryd.ntmps5
      go_wp2_with fail
      refine (alive_any _ hL).mono ?_
      rintro e w1 ⟨rfl, hb1⟩
      have L1 := Lib.hid (hL.below rfl hb1)
      have B1 := Lib.hid hb1
      clear hb1
      go_wp2_with (go_at_call 16; refine (class_any _ _).mono ?_; rintro e w' ⟨rfl, rfl⟩)
      refine (name_any _ _ L1.out).mono ?_
      rintro e w2 ⟨rfl, hb2⟩
      have L2 := Lib.hid (L1.out.below rfl hb2)
      have B2 := Lib.hid (B1.out.trans (hb2.mono B1.out.size))
      clear hb2
      go_wp2_with fail
      refine (name_any _ _ L2.out).mono ?_
      rintro e w3 ⟨rfl, hb3⟩
      have L3 := Lib.hid (L2.out.below rfl hb3)
      have B3 := Lib.hid (B2.out.trans (hb3.mono B2.out.size))
      clear hb3
      go_wp2_with fail
      refine (name_any _ _ L3.out).mono ?_
      rintro e w4 ⟨rfl, hb4⟩
      have B4 := Lib.hid (B3.out.trans (hb4.mono B3.out.size))
      clear hb4
      go_wp2_with fail
      go_ret
      exact ⟨rfl, B4.out⟩
  · have hc : cls a ≤ 0 := (cls_npos a).2 hin
    have hcd : decide (0 < cls a) = false := decide_eq_false (by omega)
    clear hc
    have hn := nm_out (a := a) (by omega)
    have hin' : a < 1 ∨ 13 < a := by omega
    have HN := Lib.hid hn
    clear hin hn
    have key : Calls Tryd.prog 5 #[.int .i64 a, .int .i64 b] w fun e w' => e = .returned (.bool true) ∧ Below w.heap.size w w' := by
      rcases hin' with h | h
      all_goals
        go_enter Tryd.func5, Tryd.ntmps5
        go_wp2_with fail
        refine (alive_any _ hL).mono ?_
        rintro e w1 ⟨rfl, hb1⟩
        have L1 := Lib.hid (hL.below rfl hb1)
        have B1 := Lib.hid hb1
        clear hb1
        go_wp2_with (go_at_call 16; refine (class_any _ _).mono ?_; rintro e w' ⟨rfl, rfl⟩)
        refine (name_any _ _ L1.out).mono ?_
        rw [HN.out]
        rintro e w2 ⟨rfl, hb2⟩
        have B2 := Lib.hid (B1.out.trans (hb2.mono B1.out.size))
        clear hb2
        go_wp2_with fail
        go_ret
        exact ⟨rfl, B2.out⟩
    exact key
end Go.Proofs.YtbfdaclekjgkfaaDoor
