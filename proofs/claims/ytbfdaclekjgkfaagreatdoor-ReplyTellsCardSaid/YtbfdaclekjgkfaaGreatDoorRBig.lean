/- The reference's number of bytes: as the program's. -/
import Derived.Test.YtbfdaclekjgkfaaGreatDoorBig
namespace Go.Proofs.YtbfdaclekjgkfaaGreatDoor
open Go.RowKit

def escutcheonref1_Big.f (a0 : ByteArray) : Option Int := if a0.size ≤ 140737488351232 then some (bigL (a0.data.toList.drop (a0.size - 8)) : Nat) else none

set_option maxRecDepth 100000 in
set_option maxHeartbeats 800000 in
theorem escutcheonref1_Big.calls (a0 : ByteArray) (r : Int) (w : World) (h : escutcheonref1_Big.f a0 = some r) :
    Calls Tryz.prog 29 #[.string a0] w fun e w' => e = .returned (.int .u64 r) ∧ Below w.heap.size w w' := by
  unfold escutcheonref1_Big.f at h
  by_cases hs : a0.size ≤ 140737488351232
  rotate_left
  · rw [if_neg hs] at h
    cases h
  rw [if_pos hs] at h
  have HR := Lib.hid (Option.some.inj h)
  clear h
  obtain ⟨d, hd⟩ : ∃ d, d = a0.size - 8 := ⟨_, rfl⟩
  have hd1 : d ≤ a0.size := by omega
  have hd2 : a0.size ≤ d + 8 := by omega
  have hmax : max ((a0.size : Int) - 8) 0 = (d : Int) := by omega
  have hlen : a0.data.toList.length = a0.size := (Lib.size_eq a0).symm
  rw [← hd] at HR
  have HL := Lib.hid hlen
  clear hlen hd
  go_enter Tryz.func29, Tryz.ntmps29
  go_wp2
  clear hmax
  go_loop [3, 4] (fun v i => ∃ k : Nat, d + k ≤ a0.size ∧ i = .int .i64 ((d : Int) + k) ∧ v = .int .u64 ((bigL ((a0.data.toList.drop d).take k) : Nat) : Int)) (fun _ i => a0.size - (intOf i).toNat)
  case atStart => exact ⟨0, by omega, by simp, rfl⟩
  case round =>
    obtain ⟨k, hk, rfl, rfl⟩ := hrel
    by_cases hlt : d + k < a0.size
    · have hv := bigL_lt ((a0.data.toList.drop d).take k)
      have hsn : Hid (bigL ((a0.data.toList.drop d).take (k + 1)) = bigL ((a0.data.toList.drop d).take k) * 256 + a0[d + k].toNat) := Lib.hid (by
        have hkl : k < (a0.data.toList.drop d).length := by rw [List.length_drop, HL.out]; omega
        rw [List.take_succ_eq_append_getElem hkl, bigL_snoc, List.getElem_drop]
        rfl)
      have hvl : bigL ((a0.data.toList.drop d).take k) < 72057594037927936 := by
        refine Nat.lt_of_lt_of_le hv ?_
        have : ((a0.data.toList.drop d).take k).length ≤ 7 := by rw [List.length_take]; omega
        exact Nat.le_trans (Nat.pow_le_pow_right (by decide) this) (by decide)
      clear hv
      generalize bigL ((a0.data.toList.drop d).take k) = v0 at hvl hsn ⊢
      have hc256 := a0[d + k].toNat_lt
      have hcz : (a0[d + k].toNat : Int) < 256 := by omega
      have hi0 : (0 : Int) ≤ (d : Int) + (k : Int) := by omega
      have hi1 : (d : Int) + (k : Int) < (a0.size : Int) := by omega
      have hi2 : ((d : Int) + (k : Int)).toNat = d + k := by omega
      go_wp2
      go_round
      case rel => exact ⟨k + 1, by omega, by go_num, by rw [hsn.out]; go_num⟩
      case measure => simp [intOf]; omega
    · have hfull : Hid ((a0.data.toList.drop d).take k = a0.data.toList.drop d) := Lib.hid (List.take_of_length_le (by rw [List.length_drop, HL.out]; omega))
      rw [hfull.out, HR.out]
      have hge : ¬ ((d : Int) + (k : Int) < (a0.size : Int)) := by omega
      go_wp2
      go_ret
      exact ⟨rfl, Below.refl _ _⟩
end Go.Proofs.YtbfdaclekjgkfaaGreatDoor
