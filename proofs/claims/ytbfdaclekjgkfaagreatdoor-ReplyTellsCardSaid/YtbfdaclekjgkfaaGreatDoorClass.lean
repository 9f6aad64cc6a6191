/- The walks of the two functions that give an operation's class, and of the small tests of a command's numbers and key. -/
import Derived.Test.YtbfdaclekjgkfaaGreatDoorProg
import Derived.WalkKit
import Derived.WalkSpells
import Derived.WalkLawsBesides
import Derived.Lib.Strings
import Derived.Lib.Hide
namespace Go.Proofs.YtbfdaclekjgkfaaGreatDoor
open Go.RowKit

def cls (op : Int) : Int := if op = 1 ∨ op = 10 ∨ op = 11 then 1 else if 2 ≤ op ∧ op ≤ 9 then 2 else if op = 12 ∨ op = 13 then 3 else 0

theorem ret_int {k : IntKind} {a b : Int} (h : a = b) : Ending.returned (.int k a) = .returned (.int k b) := by rw [h]
theorem ret_bool {a b : Bool} (h : a = b) : Ending.returned (.bool a) = .returned (.bool b) := by rw [h]

theorem cls1 {op : Int} (h : op = 1 ∨ op = 10 ∨ op = 11) : cls op = 1 := by unfold cls; rw [if_pos h]
theorem cls2 {op : Int} (h : 2 ≤ op ∧ op ≤ 9) : cls op = 2 := by unfold cls; rw [if_neg (by omega), if_pos h]
theorem cls3 {op : Int} (h : op = 12 ∨ op = 13) : cls op = 3 := by unfold cls; rw [if_neg (by omega), if_neg (by omega), if_pos h]
theorem cls0 {op : Int} (h : op < 1 ∨ 13 < op) : cls op = 0 := by unfold cls; rw [if_neg (by omega), if_neg (by omega), if_neg (by omega)]

set_option maxHeartbeats 400000 in
theorem class_any (op : Int) (w : World) :
    Calls Tryz.prog 16 #[.int .i64 op] w fun e w' => e = .returned (.int .i64 (cls op)) ∧ w = w' := by
  go_enter Tryz.func16, Tryz.ntmps16
  go_wp2
  all_goals (go_ret; refine ⟨ret_int ?_, rfl⟩; simp only [beq_iff_eq, beq_eq_false_iff_ne, ne_eq] at *)
  all_goals first
    | (rw [cls1 (by omega)]; done)
    | (rw [cls2 (by omega)]; done)
    | (rw [cls3 (by omega)]; done)
    | (rw [cls0 (by omega)]; done)

theorem cls_pos (op : Int) : 0 < cls op ↔ 1 ≤ op ∧ op ≤ 13 := by
  unfold cls
  split
  · omega
  · split
    · omega
    · split <;> omega

/-- May an operation have a key of so many bytes? -/
def KeyP (op : Int) (n : Nat) : Prop := (op = 11 ∧ n ≤ 60) ∨ ((op = 12 ∨ op = 13) ∧ n = 0) ∨ (op ≠ 11 ∧ op ≠ 12 ∧ op ≠ 13 ∧ 1 ≤ n ∧ n ≤ 60)
instance (op : Int) (n : Nat) : Decidable (KeyP op n) := by unfold KeyP; infer_instance
def NumP (a b : Int) : Prop := -1000000000000 ≤ a ∧ a ≤ 1000000000000 ∧ 0 ≤ b ∧ b ≤ 1000000000000
instance (a b : Int) : Decidable (NumP a b) := by unfold NumP; infer_instance
/-- May a command be? -/
def RightP (op : Int) (k v : Nat) (a b : Int) : Prop := 1 ≤ op ∧ op ≤ 13 ∧ KeyP op k ∧ v ≤ 500 ∧ NumP a b
instance (op : Int) (k v : Nat) (a b : Int) : Decidable (RightP op k v a b) := by unfold RightP; infer_instance
def keyB (op : Int) (n : Nat) : Bool := decide (KeyP op n)
def numB (a b : Int) : Bool := decide (NumP a b)
def rightB (op : Int) (k v : Nat) (a b : Int) : Bool := decide (RightP op k v a b)
theorem keyB_true {op : Int} {n : Nat} (h : KeyP op n) : keyB op n = true := decide_eq_true h
theorem keyB_false {op : Int} {n : Nat} (h : ¬ KeyP op n) : keyB op n = false := decide_eq_false h
theorem numB_true {a b : Int} (h : NumP a b) : numB a b = true := decide_eq_true h
theorem numB_false {a b : Int} (h : ¬ NumP a b) : numB a b = false := decide_eq_false h
theorem rightB_true {op : Int} {k v : Nat} {a b : Int} (h : RightP op k v a b) : rightB op k v a b = true := decide_eq_true h
theorem rightB_false {op : Int} {k v : Nat} {a b : Int} (h : ¬ RightP op k v a b) : rightB op k v a b = false := decide_eq_false h
theorem isEmpty_of {s : ByteArray} : (s.toList.isEmpty = true) ↔ s.size = 0 := by
  rw [Lib.toList_data, Lib.size_eq, List.isEmpty_iff, List.length_eq_zero_iff]

theorem cls_npos (op : Int) : cls op ≤ 0 ↔ ¬ (1 ≤ op ∧ op ≤ 13) := by rw [← cls_pos]; omega
theorem toList_nil (s : ByteArray) : s.toList = [] ↔ s.size = 0 := by rw [Lib.toList_data, Lib.size_eq, List.length_eq_zero_iff]
theorem isEmpty_of' (s : ByteArray) : s.toList.isEmpty = decide (s.size = 0) := by
  by_cases h : s.size = 0
  · rw [decide_eq_true h]; exact isEmpty_of.2 h
  · rw [decide_eq_false h]; cases e : s.toList.isEmpty with
    | true => exact absurd (isEmpty_of.1 e) h
    | false => rfl
theorem numB_iff (a b : Int) : numB a b = true ↔ (-1000000000000 ≤ a ∧ a ≤ 1000000000000 ∧ 0 ≤ b ∧ b ≤ 1000000000000) := decide_eq_true_iff
theorem keyB_iff (op : Int) (n : Nat) : keyB op n = true ↔ ((op = 11 ∧ n ≤ 60) ∨ ((op = 12 ∨ op = 13) ∧ n = 0) ∨ (op ≠ 11 ∧ op ≠ 12 ∧ op ≠ 13 ∧ 1 ≤ n ∧ n ≤ 60)) := decide_eq_true_iff

set_option maxHeartbeats 400000 in
theorem numbers_any (a b : Int) (w : World) :
    Calls Tryz.prog 61 #[.int .i64 a, .int .i64 b] w fun e w' => e = .returned (.bool (numB a b)) ∧ w = w' := by
  go_enter Tryz.func61, Tryz.ntmps61
  go_wp2
  all_goals (go_ret; refine ⟨ret_bool ?_, rfl⟩)
  · by_cases h : b ≤ 1000000000000
    · exact (decide_eq_true h).trans (numB_true (by unfold NumP; omega)).symm
    · exact (decide_eq_false h).trans (numB_false (by unfold NumP; omega)).symm
  all_goals exact (numB_false (by unfold NumP; omega)).symm

set_option maxHeartbeats 400000 in
theorem key_any (op : Int) (s : ByteArray) (w : World) :
    Calls Tryz.prog 78 #[.int .i64 op, .string s] w fun e w' => e = .returned (.bool (keyB op s.size)) ∧ w = w' := by
  go_enter Tryz.func78, Tryz.ntmps78
  go_wp2
  all_goals (go_ret; refine ⟨ret_bool ?_, rfl⟩; unfold keyB; (try rw [isEmpty_of']); simp only [beq_iff_eq, beq_eq_false_iff_ne, ne_eq] at *)
  all_goals first
    | exact decide_eq_decide.mpr (by unfold KeyP; omega)
    | exact (decide_eq_true (by unfold KeyP; omega)).symm
    | exact (decide_eq_false (by unfold KeyP; omega)).symm

set_option maxHeartbeats 400000 in
theorem rnumber_any (a : Int) (w : World) :
    Calls Tryz.prog 25 #[.int .i64 a] w fun e w' => e = .returned (.bool (numB a 0)) ∧ w = w' := by
  go_enter Tryz.func25, Tryz.ntmps25
  go_wp2
  all_goals (go_ret; refine ⟨ret_bool ?_, rfl⟩)
  · by_cases h : a ≤ 1000000000000
    · exact (decide_eq_true h).trans (numB_true (by unfold NumP; omega)).symm
    · exact (decide_eq_false h).trans (numB_false (by unfold NumP; omega)).symm
  all_goals exact (numB_false (by unfold NumP; omega)).symm

set_option maxHeartbeats 800000 in
theorem right_any (op : Int) (k v : ByteArray) (a b : Int) (w : World) :
    Calls Tryz.prog 59 #[.agg #[.int .i64 op, .string k, .string v, .int .i64 a, .int .i64 b]] w fun e w' => e = .returned (.bool (rightB op k.size v.size a b)) ∧ Below w.heap.size w w' := by
  go_enter Tryz.func59, Tryz.ntmps59
  go_wp2_with (first | (go_at_call 16; refine (class_any _ _).mono ?_; rintro e w' ⟨rfl, rfl⟩) | (go_at_call 78; refine (key_any _ _ _).mono ?_; rintro e w' ⟨rfl, rfl⟩) | (go_at_call 61; refine (numbers_any _ _ _).mono ?_; rintro e w' ⟨rfl, rfl⟩))
  all_goals (go_ret; refine ⟨ret_bool ?_, (Below.refl _ w).alloc (Nat.le_refl _) _⟩; unfold rightB; (try unfold numB); simp only [cls_pos, cls_npos, keyB_iff] at *)
  all_goals first
    | exact decide_eq_decide.mpr (by unfold RightP KeyP NumP; omega)
    | exact (decide_eq_true (by unfold RightP KeyP NumP; omega)).symm
    | exact (decide_eq_false (by unfold RightP KeyP NumP; omega)).symm

end Go.Proofs.YtbfdaclekjgkfaaGreatDoor
