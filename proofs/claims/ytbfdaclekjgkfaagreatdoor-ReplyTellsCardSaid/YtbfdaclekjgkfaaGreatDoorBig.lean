/- The number of bytes, the highest first, by the program's octet.Big. -/
import Derived.Test.YtbfdaclekjgkfaaGreatDoorLeaf
import Derived.Laws.BitsLemmas
import Derived.Laws.Bits64
import Derived.Deep.CutBlock
import Derived.Lib.IndexBytes
namespace Go.Proofs.YtbfdaclekjgkfaaGreatDoor
open Go.RowKit

/-- The number of bytes, the highest first. -/
def bigL (l : List UInt8) : Nat := l.foldl (fun v c => v * 256 + c.toNat) 0
theorem bigL_snoc (l : List UInt8) (c : UInt8) : bigL (l ++ [c]) = bigL l * 256 + c.toNat := by simp [bigL]
theorem bigL_lt (l : List UInt8) : bigL l < 256 ^ l.length := by
  obtain ⟨m, rfl⟩ : ∃ m : List UInt8, l = m.reverse := ⟨l.reverse, by simp⟩
  induction m with
  | nil => simp [bigL]
  | cons c m ih =>
    simp only [List.reverse_cons, bigL_snoc, List.length_append, List.length_singleton, Nat.pow_succ]
    have := c.toNat_lt
    omega
def octet_Big.f (a0 : ByteArray) : Option Int := if a0.size ≤ 140737488351232 then some (bigL (a0.data.toList.drop (a0.size - 8)) : Nat) else none

theorem orByte (v : Nat) (c : UInt8) (h : v < 72057594037927936) : bits .or .u64 ((v : Int) * 256) (c.toNat : Int) = ((v * 256 + c.toNat : Nat) : Int) := by
  have hc := c.toNat_lt
  have e := bits_join .u64 64 (by decide) (fun n h0 h1 => by rw [IntKind.wrap_u64]; omega) 8 ((v : Int) * 256) (c.toNat : Int) (by omega) (by omega) (by omega) (by omega) (by omega) (by omega)
  rw [e]
  omega

set_option maxRecDepth 100000 in
set_option maxHeartbeats 800000 in
theorem octet_Big.calls (a0 : ByteArray) (r : Int) (w : World) (h : octet_Big.f a0 = some r) :
    Calls Tryz.prog 63 #[.string a0] w fun e w' => e = .returned (.int .u64 r) ∧ Below w.heap.size w w' := by
  unfold octet_Big.f at h
  by_cases hs : a0.size ≤ 140737488351232
  rotate_left
  · rw [if_neg hs] at h
    cases h
  rw [if_pos hs] at h
  have HR := Lib.hid (Option.some.inj h)
  clear h
  obtain ⟨t, ht⟩ : ∃ t, t = a0.extract (max ((a0.size : Int) - 8) 0).toNat a0.size := ⟨_, rfl⟩
  have htl : t.data.toList = a0.data.toList.drop (a0.size - 8) := by
    rw [ht]
    have : (max ((a0.size : Int) - 8) 0).toNat = a0.size - 8 := by omega
    rw [this, Lib.extract_to_end]
  rw [← htl] at HR
  have hts : t.size ≤ 8 := by rw [Lib.size_eq, htl, List.length_drop, ← Lib.size_eq]; omega
  have htlen : t.data.toList.length = t.size := (Lib.size_eq t).symm
  have hcv := Lib.run_convert_string_bytes (P := Tryz.prog) w 9 55 5 t Tryz.underlying9 Tryz.underlying55 Tryz.underlying5
  have hcell : Hid (∀ j, j < t.size → (Lib.bytesWorld w 5 t).cell? ⟨w.heap.size, j, none⟩ = some (.int .u8 (t.data.toList.getD j 0).toNat)) := Lib.hid (Lib.bytesWorld_cell w 5 t)
  have hB : Hid (Below w.heap.size w (Lib.bytesWorld w 5 t)) := Lib.hid ⟨rfl, rfl, rfl, by rw [Lib.bytesWorld_size]; omega, fun k hk => Lib.bytesWorld_at_old w _ t k hk⟩
  generalize Lib.bytesWorld w 5 t = W1 at hcv hcell hB
  generalize grownCap w t.size 0 5 = cp at hcv
  have HT := Lib.hid htl
  have HL := Lib.hid htlen
  clear htl htlen
  have Ht := Lib.hid ht
  clear ht
  go_enter Tryz.func63, Tryz.ntmps63
  go_wp2
  rw [← Ht.out]
  go_wp2
  rw [hcv]
  go_wp2
  clear hcv
  go_loop [3, 14] (fun v i => ∃ k : Nat, k ≤ t.size ∧ i = .int .i64 k ∧ v = .int .u64 ((bigL (t.data.toList.take k) : Nat) : Int)) (fun _ i => t.size - (intOf i).toNat)
  case atStart => exact ⟨0, Nat.zero_le _, rfl, rfl⟩
  case round =>
    obtain ⟨k, hk, rfl, rfl⟩ := hrel
    by_cases hlt : k < t.size
    · have hc := hcell.out k hlt
      obtain ⟨c, hcc⟩ : ∃ c, c = t.data.toList.getD k 0 := ⟨_, rfl⟩
      rw [← hcc] at hc
      have hv := bigL_lt (t.data.toList.take k)
      have hsn : Hid (bigL (t.data.toList.take (k + 1)) = bigL (t.data.toList.take k) * 256 + c.toNat) := Lib.hid (by
        have hkl : k < t.data.toList.length := by rw [HL.out]; exact hlt
        rw [List.take_succ_eq_append_getElem hkl, bigL_snoc, hcc, List.getD_eq_getElem?_getD, List.getElem?_eq_getElem hkl]
        rfl)
      have hvl : bigL (t.data.toList.take k) < 72057594037927936 := by
        refine Nat.lt_of_lt_of_le hv ?_
        have : (t.data.toList.take k).length ≤ 7 := by rw [List.length_take]; omega
        exact Nat.le_trans (Nat.pow_le_pow_right (by decide) this) (by decide)
      clear hv hcc
      have HO := orByte (bigL (t.data.toList.take k)) c hvl
      generalize bigL (t.data.toList.take k) = v0 at hvl hsn HO ⊢
      have hc256 := c.toNat_lt
      go_wp2
      go_round
      case rel => exact ⟨k + 1, by omega, by go_num, by rw [hsn.out]; go_num⟩
      case measure => simp [intOf]; omega
    · obtain rfl : k = t.size := by omega
      go_wp2
      go_ret
      exact ⟨by rw [← HR.out, List.take_of_length_le (by rw [HL.out]; exact Nat.le_refl _)]; rfl, hB.out⟩
end Go.Proofs.YtbfdaclekjgkfaaGreatDoor
