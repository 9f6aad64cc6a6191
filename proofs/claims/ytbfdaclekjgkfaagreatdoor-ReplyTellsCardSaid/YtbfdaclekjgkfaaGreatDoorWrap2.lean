/- The walked functions of chapter 10 in the form that the printed laws ask. -/
import Derived.Test.YtbfdaclekjgkfaaGreatDoorNames
namespace Go.Proofs.YtbfdaclekjgkfaaGreatDoor
open Go.RowKit

def command_Class.f (op : Int) : Option Int := some (cls op)
theorem command_Class.calls (op r : Int) (w : World) (h : command_Class.f op = some r) :
    Calls Tryz.prog 16 #[.int .i64 op] w fun e w' => e = .returned (.int .i64 r) ∧ Below w.heap.size w w' := by
  obtain rfl := Option.some.inj h
  refine (class_any op w).mono ?_
  rintro e w' ⟨he, rfl⟩
  exact ⟨he, Below.refl _ _⟩
def escutcheonref1_Class.f (op : Int) : Option Int := some (cls op)
def escutcheonref1_Name.f (op : Int) : Option ByteArray := some (nm op)
def command_Put.f (op : Int) (k v : ByteArray) (a b : Int) : Option (ByteArray × Bool) := some (putS op k v a b, rightB op k.size v.size a b)
theorem command_Put.calls (op : Int) (k v : ByteArray) (a b : Int) (r1 : ByteArray) (r2 : Bool) (w : World) (h : command_Put.f op k v a b = some (r1, r2)) :
    Calls Tryz.prog 14 #[.agg #[.int .i64 op, .string k, .string v, .int .i64 a, .int .i64 b]] w fun e w' => e = .returned (.tuple #[.string r1, .bool r2]) ∧ Below w.heap.size w w' := by
  have h' := Option.some.inj h
  simp only [Prod.mk.injEq] at h'
  obtain ⟨rfl, rfl⟩ := h'
  exact put_any op k v a b w
def escutcheonref1_Put.f (op : Int) (k v : ByteArray) (a b : Int) : Option (ByteArray × Bool) := some (putS op k v a b, rightB op k.size v.size a b)
theorem gotE_of {s : ByteArray} {w w' : World} {e : Ending} {r1 : Int} {r2 r3 : ByteArray} {r4 r5 : Int} {r6 : Bool} (hr : gotR s = (r1, r2, r3, r4, r5, r6)) (h : GetE s w e w') :
    e = .returned (.tuple #[.agg #[.int .i64 r1, .string r2, .string r3, .int .i64 r4, .int .i64 r5], .bool r6]) ∧ Below w.heap.size w w' := by
  obtain ⟨he, hb⟩ := h
  refine ⟨he.trans ?_, hb⟩
  unfold gotR at hr
  cases hg : gotOk s with
  | true =>
    rw [hg, if_pos rfl] at hr
    simp only [Prod.mk.injEq] at hr
    obtain ⟨rfl, rfl, rfl, rfl, rfl, rfl⟩ := hr
    rfl
  | false =>
    rw [hg, if_neg (by decide)] at hr
    simp only [Prod.mk.injEq] at hr
    obtain ⟨rfl, rfl, rfl, rfl, rfl, rfl⟩ := hr
    rfl
def command_Get.f (s : ByteArray) : Option (Int × ByteArray × ByteArray × Int × Int × Bool) := if s.size ≤ 140737488351232 then some (gotR s) else none
theorem command_Get.calls (s : ByteArray) (r1 : Int) (r2 : ByteArray) (r3 : ByteArray) (r4 : Int) (r5 : Int) (r6 : Bool) (w : World) (h : command_Get.f s = some (r1, r2, r3, r4, r5, r6)) :
    Calls Tryz.prog 15 #[.string s] w fun e w' => e = .returned (.tuple #[.agg #[.int .i64 r1, .string r2, .string r3, .int .i64 r4, .int .i64 r5], .bool r6]) ∧ Below w.heap.size w w' := by
  unfold command_Get.f at h
  by_cases hs : s.size ≤ 140737488351232
  · rw [if_pos hs] at h
    exact (get_any s w hs).mono fun e w' hg => gotE_of (Option.some.inj h) hg
  · rw [if_neg hs] at h
    cases h
def escutcheonref1_Get.f (s : ByteArray) : Option (Int × ByteArray × ByteArray × Int × Int × Bool) := if s.size ≤ 140737488351232 then some (gotR s) else none
def escutcheonlaw10_alive.f : Option Bool := some true
theorem escutcheonlaw10_alive.calls (r : Bool) (w : World) (h : escutcheonlaw10_alive.f = some r) (hLd : Laid w) :
    Calls Tryz.prog 4 #[] w fun e w' => e = .returned (.bool r) ∧ Below w.heap.size w w' := by
  obtain rfl := Option.some.inj h
  exact alive_any w hLd
end Go.Proofs.YtbfdaclekjgkfaaGreatDoor
