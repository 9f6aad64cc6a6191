/- The walked functions in the form that the printed ones ask: a plain function with 'some' or 'none', and its call. -/
import Derived.Test.YtbfdaclekjgkfaaGreatDoorPut
namespace Go.Proofs.YtbfdaclekjgkfaaGreatDoor
open Go.RowKit

theorem lsA {α : Type} (l : List α) (i : Nat) (a : α) : l.toArray.setIfInBounds i a = (l.set i a).toArray := List.setIfInBounds_toArray ..
theorem lsB {α : Type} (x : α) (xs : List α) (a : α) : (x :: xs).set 0 a = a :: xs := List.set_cons_zero
theorem lsC {α : Type} (x : α) (xs : List α) (n : Nat) (a : α) : (x :: xs).set (n + 1) a = x :: xs.set n a := List.set_cons_succ
theorem five_ {W : World} {g T : Nat} {a b c d e : Value} {fr : Nat × Nat} (h : W.heap[g]? = some (.cells #[a, b, c, d, e] T fr)) :
    W.cell? ⟨g, 0, none⟩ = some a ∧ W.cell? ⟨g, 1, none⟩ = some b ∧ W.cell? ⟨g, 2, none⟩ = some c ∧ W.cell? ⟨g, 3, none⟩ = some d ∧ W.cell? ⟨g, 4, none⟩ = some e := by
  simp [World.cell?, h]

def command_Right.f (op : Int) (k v : ByteArray) (a b : Int) : Option Bool := some (rightB op k.size v.size a b)
theorem command_Right.calls (op : Int) (k v : ByteArray) (a b : Int) (r : Bool) (w : World) (h : command_Right.f op k v a b = some r) :
    Calls Tryz.prog 59 #[.agg #[.int .i64 op, .string k, .string v, .int .i64 a, .int .i64 b]] w fun e w' => e = .returned (.bool r) ∧ Below w.heap.size w w' := by
  obtain rfl := Option.some.inj h
  exact right_any op k v a b w
def escutcheonref1_Command.f (op : Int) (k v : ByteArray) (a b : Int) : Option Bool := some (rightB op k.size v.size a b)
def command_pair.f (a b : Int) : Option ByteArray := if NumP a b then some (pairB a b) else none
theorem command_pair.calls (a b : Int) (r : ByteArray) (w : World) (h : command_pair.f a b = some r) :
    Calls Tryz.prog 21 #[.int .i64 a, .int .i64 b] w fun e w' => e = .returned (.string r) ∧ Below w.heap.size w w' := by
  unfold command_pair.f at h
  by_cases hn : NumP a b
  · rw [if_pos hn] at h
    obtain rfl := Option.some.inj h
    obtain ⟨h1, h2, h3, h4⟩ := hn
    exact pair_any a b w h1 h2 h3 h4
  · rw [if_neg hn] at h
    cases h
def command_short.f (s : ByteArray) : Option ByteArray := if s.size ≤ 140737488351232 then some (shortB s) else none
theorem command_short.calls (s : ByteArray) (r : ByteArray) (w : World) (h : command_short.f s = some r) :
    Calls Tryz.prog 23 #[.string s] w fun e w' => e = .returned (.string r) ∧ Below w.heap.size w w' := by
  unfold command_short.f at h
  by_cases hn : s.size ≤ 140737488351232
  · rw [if_pos hn] at h
    obtain rfl := Option.some.inj h
    exact short_any s w hn
  · rw [if_neg hn] at h
    cases h
def escutcheonref1_PutBig.f (x n : Int) : Option ByteArray := if 0 ≤ x ∧ x < 18446744073709551616 ∧ 1 ≤ n ∧ n ≤ 8 then some (strOfNums (pcells x n.toNat n.toNat)) else none
theorem escutcheonref1_PutBig.calls (x n : Int) (r : ByteArray) (w : World) (h : escutcheonref1_PutBig.f x n = some r) :
    Calls Tryz.prog 26 #[.int .u64 x, .int .i64 n] w fun e w' => e = .returned (.string r) ∧ Below w.heap.size w w' := by
  unfold escutcheonref1_PutBig.f at h
  by_cases hn : 0 ≤ x ∧ x < 18446744073709551616 ∧ 1 ≤ n ∧ n ≤ 8
  · rw [if_pos hn] at h
    obtain rfl := Option.some.inj h
    obtain ⟨h1, h2, h3, h4⟩ := hn
    obtain ⟨m, rfl⟩ := Int.eq_ofNat_of_zero_le (show 0 ≤ n by omega)
    exact rpb_any x m w h1 h2 (by omega) (by omega)
  · rw [if_neg hn] at h
    cases h
end Go.Proofs.YtbfdaclekjgkfaaGreatDoor
