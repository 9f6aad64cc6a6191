/- CommandOnly: the walk. -/
import Derived.Test.YtbfdaclekjgkfaaDoorWrap2
namespace Go.Proofs.YtbfdaclekjgkfaaDoor
open Go.RowKit

theorem get_r (s : ByteArray) (w : World) (hs : s.size ≤ 140737488351232) : Calls Tryd.prog 12 #[.string s] w fun e w' => e = .returned (.tuple #[.agg #[.int .i64 (gotR s).1, .string (gotR s).2.1, .string (gotR s).2.2.1, .int .i64 (gotR s).2.2.2.1, .int .i64 (gotR s).2.2.2.2.1], .bool (gotR s).2.2.2.2.2]) ∧ Below w.heap.size w w' :=
  (get_any s w hs).mono fun _ _ h => gotE_of rfl h

set_option maxRecDepth 100000 in
set_option maxHeartbeats 1600000 in
theorem only_walk (s : ByteArray) (w : World) (hL : Laid w) (hs : s.size ≤ 140737488351232) :
    Calls Tryd.prog 4 #[.string s] w fun e w' => e = .returned (.bool true) ∧ Below w.heap.size w w' := by
  by_cases h1 : s.size ≤ 1000
  rotate_left
  · have h1' : 1000 < s.size := by omega
    clear h1
    go_enter Tryd.func4, Tryd.ntmps4
    go_wp2_with fail
    refine (alive_any _ hL).mono ?_
    rintro e w1 ⟨rfl, hb1⟩
    have B1 := Lib.hid hb1
    clear hb1
    go_wp2
    go_ret
    exact ⟨rfl, B1.out⟩
  go_enter Tryd.func4, Tryd.ntmps4
  go_wp2_with fail
  refine (alive_any _ hL).mono ?_
  rintro e w1 ⟨rfl, hb1⟩
  have B1 := Lib.hid hb1
  have L1 := Lib.hid (hL.below rfl hb1)
  clear hb1
  go_wp2_with fail
  by_cases hg : gotOk s = true
  rotate_left
  · have hr : gotR s = (0, ⟨#[]⟩, ⟨#[]⟩, 0, 0, false) := by unfold gotR; rw [if_neg hg]
    refine ((get_any s w1 hs).mono fun e w' h => gotE_of hr h).mono ?_
    rintro e w2 ⟨rfl, hb2⟩
    have B2 := Lib.hid (B1.out.trans (hb2.mono B1.out.size))
    clear hb2
    go_wp2
    go_ret
    exact ⟨rfl, B2.out.alloc B2.out.size _⟩
  · obtain ⟨op, k, v, a, b, bad, hgs⟩ : ∃ op k v a b bad, got s = ⟨op, k, v, a, b, bad⟩ := ⟨_, _, _, _, _, _, rfl⟩
    have hr : gotR s = (op, k, v, a, b, true) := by unfold gotR; rw [if_pos hg, hgs]
    have hok := gotOk_of hgs
    rw [hg] at hok
    have hok2 := hok.symm
    simp only [Bool.and_eq_true, Bool.not_eq_true'] at hok2
    obtain ⟨-, hri, hput⟩ := hok2
    obtain ⟨o1, o2, -⟩ := of_decide_eq_true hri
    have hcp := (cls_pos op).2 ⟨o1, o2⟩
    have hnf := nm_full o1 o2
    clear hok hg o1 o2
    refine ((get_any s w1 hs).mono fun e w' h => gotE_of hr h).mono ?_
    rintro e w2 ⟨rfl, hb2⟩
    have B2 := Lib.hid (B1.out.trans (hb2.mono B1.out.size))
    have L2 := Lib.hid (L1.out.below rfl hb2)
    clear hb2 hr hgs
    go_wp2_with fail
    refine (put_any _ _ _ _ _ _).mono ?_
    rw [hri]
    rintro e w3 ⟨rfl, hb3⟩
    have C3 : Hid (CB w3 w2.heap.size op k v a b) := Lib.hid ((hb3.block _ (by simp)).trans (heap_alloc_new w2 _))
    have B3 := Lib.hid ((B2.out.alloc B2.out.size (.cells #[.int .i64 op, .string k, .string v, .int .i64 a, .int .i64 b] 23)).trans (hb3.mono (by have := B2.out.size; simp; omega)))
    have L3 := Lib.hid ((L2.out.below rfl ((Below.refl _ w2).alloc (Nat.le_refl _) (.cells #[.int .i64 op, .string k, .string v, .int .i64 a, .int .i64 b] 23))).below rfl hb3)
    clear hb3
    obtain ⟨⟨c0, c1, c2, c3, c4⟩, -⟩ := C3.out.at
    go_wp2_with (first | (go_at_call 16; refine (class_any _ _).mono ?_; rintro e w' ⟨rfl, rfl⟩) | (go_at_call 18; refine (name_any _ _ L3.out).mono ?_; rintro e w4 ⟨rfl, hb4⟩; have B4 := Lib.hid (B3.out.trans (hb4.mono B3.out.size)); clear hb4))
    go_ret
    exact ⟨rfl, B4.out⟩
end Go.Proofs.YtbfdaclekjgkfaaDoor
