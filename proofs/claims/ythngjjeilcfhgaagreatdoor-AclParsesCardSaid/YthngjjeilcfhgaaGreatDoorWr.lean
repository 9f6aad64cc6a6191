/- The library's functions of chapter 18 in the form that the printed walks ask. -/
import Derived.Test.YthngjjeilcfhgaaGreatDoorCls
import Derived.Test.YthngjjeilcfhgaaGreatDoorIdx
import Derived.Test.YthngjjeilcfhgaaGreatDoorSp
import Derived.Test.YthngjjeilcfhgaaGreatDoorWWords
import Derived.Test.YthngjjeilcfhgaaGreatDoorWLast
import Derived.Test.YthngjjeilcfhgaaGreatDoorWTab
set_option linter.unusedVariables false
namespace Go.Proofs.YthngjjeilcfhgaaGreatDoor
open Go.RowKit Go.Proofs.YthngjjeilcfhgaaGreatDoorW.PrintWords Go.Proofs.YthngjjeilcfhgaaGreatDoorW.PrintLast

def strings_Join.f (l0 : List ByteArray) (a1 : ByteArray) : Option ByteArray := if 0 < l0.length ∧ l0.length ≤ 140737488355328 ∧ (Lib.join (l0.map (·.data.toList)) a1.data.toList).length ≤ 140737488355328 then some ⟨(Lib.join (l0.map (·.data.toList)) a1.data.toList).toArray⟩ else none
theorem addr_of_C {w : World} {A : Option Addr} {n : Nat} {xs : List ByteArray} (hC : Kd.C Kd.string w A n xs) (h0 : 0 < n) : ∃ b o, A = some ⟨b, o, none⟩ ∧ b < w.heap.size ∧ ∀ (j : Nat) x, xs[j]? = some x → w.cell? ⟨b, o + j, none⟩ = some (.string x) := by
  have hl : xs.length = n := hC.1
  obtain ⟨ad, e, hx⟩ := Kd.at_string hC 0 (Int.le_refl 0) (by omega)
  obtain ⟨b, o, s⟩ := ad
  have hs : s = none := by
    cases s with
    | none => rfl
    | some q =>
      exfalso
      simp only [World.cell?, Addr.add] at hx
      split at hx <;> simp at hx
  subst hs
  refine ⟨b, o, e, World.block_lt_of_cell? w _ hx, fun j x hj => ?_⟩
  obtain ⟨hlt, hjx⟩ := List.getElem?_eq_some_iff.1 hj
  obtain ⟨ad', e', hx'⟩ := Kd.at_string hC (j : Int) (by omega) (by omega)
  have e2 := e.symm.trans e'
  injection e2 with e2
  subst e2
  have hr : rdOf ByteArray.empty xs (j : Int) = x := by simp [rdOf, List.getD, hlt, hjx]
  rw [hr] at hx'
  cases j with
  | zero => simpa [Addr.add] using hx'
  | succ j => simpa [Addr.add] using hx'
theorem strings_Join.calls (A0 : Option Addr) (c0 : Nat) (l0 : List ByteArray) (a1 : ByteArray) (r : ByteArray) (w : World) (hr0 : Kd.C Kd.string w A0 l0.length l0) (hc0 : l0.length ≤ c0) (h : strings_Join.f l0 a1 = some r) :
    Calls Tryz.prog 71 #[.slice A0 l0.length c0, .string a1] w fun e w' => e = .returned (.string r) ∧ Below w.heap.size w w' := by
  unfold strings_Join.f at h
  split at h
  · rename_i hc
    obtain rfl := Option.some.inj h
    obtain ⟨b, o, rfl, hb, hx⟩ := addr_of_C hr0 hc.1
    exact Tryz.strings_Join b o c0 l0 a1 w hx hb hc.2.1 hc0 hc.2.2
  · cases h

def strings_ContainsAny.f (a0 a1 : ByteArray) : Option Bool := if a0.size ≤ 9223372036854775807 ∧ a1 = ⟨#[32, 10]⟩ then some (hasBlank a0) else none
theorem strings_ContainsAny.calls (a0 a1 : ByteArray) (r : Bool) (w : World) (h : strings_ContainsAny.f a0 a1 = some r) :
    Calls Tryz.prog 79 #[.string a0, .string a1] w fun e w' => e = .returned (.bool r) ∧ Below w.heap.size w w' := by
  unfold strings_ContainsAny.f at h
  split at h
  · rename_i hc
    obtain rfl := Option.some.inj h
    rw [hc.2]
    exact containsAny_any a0 w hc.1
  · cases h

def strings_Split.f (a0 a1 : ByteArray) : Option (List ByteArray) := if a0.size < 4294967281 ∧ 1 ≤ a1.size then some (Lib.splitB a1 0 (Lib.countB a0 a1) a0) else none
theorem strings_Split.calls (a0 a1 : ByteArray) (r : List ByteArray) (w : World) (h : strings_Split.f a0 a1 = some r) (hLd : Laid w) :
    Calls Tryz.prog 12 #[.string a0, .string a1] w fun e w' => ∃ v0_ : Value, e = .returned v0_ ∧ Kd.R Kd.string 9 w' w.heap.size (fun _ => True) v0_ r ∧ Below w.heap.size w w' := by
  unfold strings_Split.f at h
  split at h
  · rename_i hc
    obtain rfl := Option.some.inj h
    obtain ⟨m, hm⟩ := hLd.2
    have hlen := Lib.splitB_all a1 hc.2 0 _ a0 rfl
    refine (Tryz.strings_Split a0 a1 m w hc.1 hm hc.2).mono ?_
    rintro e w' ⟨rfl, rfl⟩
    refine ⟨_, rfl, ?_, (Below.refl _ w).alloc (Nat.le_refl _) _⟩
    have hle := Lib.countB_le a1 hc.2 a0.size a0 (Nat.le_refl _)
    have ho := World.ownsRow_lit (base := w.heap.size) (e := 9) (size := 1) w ((Lib.splitB a1 0 (Lib.countB a0 a1) a0).map Value.string).toArray (Lib.countB a0 a1 + 1) (Nat.le_refl _) (by unfold maxLen; omega) (by simp [hlen])
    refine Kd.R_of_own ?_ (fun _ _ => trivial)
    rw [hlen]
    exact ho
  · cases h
end Go.Proofs.YthngjjeilcfhgaaGreatDoor
