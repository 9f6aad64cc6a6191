/- CommandTells: every size. -/
import Derived.Test.YtbfdaclekjgkfaaDoorTells
namespace Go.Proofs.YtbfdaclekjgkfaaDoor
open Go.RowKit

set_option maxRecDepth 100000 in
set_option maxHeartbeats 3200000 in
theorem tells_large (op : Int) (k v : ByteArray) (a b : Int) (s : ByteArray) (o : Int) (w : World) (hL : Laid w) (hz1 : k.size ≤ 9223372036854775807) (hz2 : v.size ≤ 9223372036854775807) (hz3 : s.size ≤ 140737488351232)
    (h : 300 < k.size ∨ (k.size ≤ 300 ∧ 1000 < v.size) ∨ (k.size ≤ 300 ∧ v.size ≤ 1000 ∧ 1000 < s.size)) :
    Calls Tryd.prog 3 #[.agg #[.int .i64 op, .string k, .string v, .int .i64 a, .int .i64 b], .string s, .int .i64 o] w fun e w' => e = .returned (.bool true) ∧ Below w.heap.size w w' := by
  have hal := alive_any (w.alloc (.cells #[.int .i64 op, .string k, .string v, .int .i64 a, .int .i64 b] 23)) (hL.below rfl ((Below.refl _ w).alloc (Nat.le_refl _) _))
  have HAL := Lib.hid hal
  clear hal
  rcases h with h | ⟨h, h'⟩ | ⟨h, h', h''⟩
  all_goals
    go_enter Tryd.func3, Tryd.ntmps3
    go_wp2_with fail
    refine HAL.out.mono ?_
    rintro e w1 ⟨rfl, hb1⟩
    have B1 := Lib.hid (((Below.refl _ w).alloc (Nat.le_refl _) (.cells #[.int .i64 op, .string k, .string v, .int .i64 a, .int .i64 b] 23)).trans (hb1.mono (by simp)))
    clear hb1
    go_wp2
    go_ret
    exact ⟨rfl, B1.out⟩
theorem tells_all (op : Int) (k v : ByteArray) (a b : Int) (s : ByteArray) (o : Int) (w : World) (hL : Laid w) (hz : k.size ≤ 9223372036854775807 ∧ v.size ≤ 9223372036854775807) (hs : s.size ≤ 140737488351232) (_ho : -9223372036854775808 ≤ o ∧ o ≤ 9223372036854775807) :
    Calls Tryd.prog 3 #[.agg #[.int .i64 op, .string k, .string v, .int .i64 a, .int .i64 b], .string s, .int .i64 o] w fun e w' => e = .returned (.bool true) ∧ Below w.heap.size w w' := by
  by_cases h1 : k.size ≤ 300
  · by_cases h2 : v.size ≤ 1000
    · by_cases h3 : s.size ≤ 1000
      · exact tells_walk op k v a b s o w hL h1 h2 h3
      · exact tells_large op k v a b s o w hL hz.1 hz.2 hs (.inr (.inr ⟨h1, h2, by omega⟩))
    · exact tells_large op k v a b s o w hL hz.1 hz.2 hs (.inr (.inl ⟨h1, by omega⟩))
  · exact tells_large op k v a b s o w hL hz.1 hz.2 hs (.inl (by omega))
end Go.Proofs.YtbfdaclekjgkfaaDoor
