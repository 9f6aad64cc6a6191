/- The statements' first call: its answer is true. -/
import Derived.Test.YtbfdaclekjgkfaaGreatDoorPlain3
namespace Go.Proofs.YtbfdaclekjgkfaaGreatDoor
open Go.RowKit

theorem putL_length (op : Int) (k v : ByteArray) (a b : Int) : (putL op k v a b).length = 18 + k.size + v.size := by
  unfold putL
  simp only [List.length_cons, List.length_append, pbytes_length, ← Lib.size_eq]
  omega
theorem putS_size {op : Int} {k v : ByteArray} {a b : Int} (h : RightP op k.size v.size a b) : (putS op k v a b).size = 18 + k.size + v.size := by
  rw [putS_yes h, bs_size, putL_length]
theorem got_putS {op : Int} {k v : ByteArray} {a b : Int} (h : RightP op k.size v.size a b) : got (putS op k v a b) = ⟨op, k, v, a, b, false⟩ := by
  rw [putS_yes h]
  exact got_put op k v a b h
/-- Get of what was put. -/
theorem get_put (op : Int) (k v : ByteArray) (a b : Int) (h : RightP op k.size v.size a b) (w : World) :
    Calls Tryz.prog 15 #[.string (putS op k v a b)] w fun e w' => e = .returned (.tuple #[.agg #[.int .i64 op, .string k, .string v, .int .i64 a, .int .i64 b], .bool true]) ∧ Below w.heap.size w w' := by
  have hz := putS_size h
  obtain ⟨h1, h2, hk, hv, hn⟩ := id h
  have hks : k.size ≤ 60 := by unfold KeyP at hk; omega
  refine (get_any _ w (by omega)).mono ?_
  rintro e w' ⟨he, hb⟩
  refine ⟨he.trans ?_, hb⟩
  rw [gotOk_put h, got_putS h]
  rfl

def kB : ByteArray := ⟨#[107]⟩
def vB : ByteArray := ⟨#[118]⟩
def aS : ByteArray := putS 2 kB vB 5 0
theorem aR : RightP 2 kB.size vB.size 5 0 := by decide
theorem a_put (w : World) : Calls Tryz.prog 14 #[.agg #[.int .i64 2, .string ⟨#[107]⟩, .string ⟨#[118]⟩, .int .i64 5, .int .i64 0]] w fun e w' => e = .returned (.tuple #[.string aS, .bool true]) ∧ Below w.heap.size w w' :=
  (put_any 2 kB vB 5 0 w).mono fun _ _ h => ⟨h.1.trans (by rw [rightB_true aR]; rfl), h.2⟩
theorem a_get (w : World) : Calls Tryz.prog 15 #[.string aS] w fun e w' => e = .returned (.tuple #[.agg #[.int .i64 2, .string ⟨#[107]⟩, .string ⟨#[118]⟩, .int .i64 5, .int .i64 0], .bool true]) ∧ Below w.heap.size w w' :=
  get_put 2 kB vB 5 0 aR w
theorem a_size : aS.size = 20 := putS_size aR
theorem a_class (w : World) : Calls Tryz.prog 16 #[.int .i64 6] w fun e w' => e = .returned (.int .i64 2) ∧ w = w' := class_any 6 w
theorem a_name (w : World) (hL : Laid w) : Calls Tryz.prog 17 #[.int .i64 10] w fun e w' => e = .returned (.string ⟨#[116, 116, 108]⟩) ∧ Below w.heap.size w w' :=
  command_Name.calls 10 _ w (by unfold command_Name.f; rw [if_pos (by omega)]; exact congrArg some (by decide +kernel)) hL

set_option maxRecDepth 100000 in
set_option maxHeartbeats 800000 in
theorem alive_any (w : World) (hL : Laid w) :
    Calls Tryz.prog 4 #[] w fun e w' => e = .returned (.bool true) ∧ Below w.heap.size w w' := by
  have hz := a_size
  go_enter Tryz.func4, Tryz.ntmps4
  go_wp2_with fail
  refine (a_put _).mono ?_
  rintro e w1 ⟨rfl, hb1⟩
  have B1 := Lib.hid (((Below.refl _ w).alloc (Nat.le_refl _) (.cells #[.int .i64 2, .string ⟨#[107]⟩, .string ⟨#[118]⟩, .int .i64 5, .int .i64 0] 47)).trans (hb1.mono (by simp)))
  have C1 : Hid (CB w1 w.heap.size 2 ⟨#[107]⟩ ⟨#[118]⟩ 5 0) := Lib.hid ((hb1.block _ (by simp)).trans (heap_alloc_new w _))
  clear hb1
  go_wp2_with fail
  refine (a_get _).mono ?_
  rintro e w2 ⟨rfl, hb2⟩
  have B2 := Lib.hid (B1.out.trans (hb2.mono B1.out.size))
  have C2 : Hid (CB w2 w.heap.size 2 ⟨#[107]⟩ ⟨#[118]⟩ 5 0) := Lib.hid ((hb2.block _ (lt_of_block C1.out)).trans C1.out)
  clear hb2
  obtain ⟨⟨c0, c1, c2, c3, c4⟩, -⟩ := C2.out.at
  have hl2 := lt_of_block C2.out
  go_wp2_with (first | (go_at_call 16; refine (a_class _).mono ?_; rintro e w' ⟨rfl, rfl⟩) | (go_at_call 17; refine (a_name _ (hL.below rfl (B2.out.alloc (B2.out.size) _))).mono ?_; rintro e w4 ⟨rfl, hb4⟩; have B4 := Lib.hid hb4; clear hb4))

  go_ret
  exact ⟨rfl, (B2.out.alloc (B2.out.size) _).trans (B4.out.mono (by simp; have := B2.out.size; omega))⟩
end Go.Proofs.YtbfdaclekjgkfaaGreatDoor
