/- Small functions by hand: numbers as bytes and back, a copy of a text. -/
import Derived.Test.YtbfdaclekjgkfaaGreatDoorShelf
import Derived.WalkKit
import Derived.WalkSpells
import Derived.WalkLawsBesides
import Derived.Laws.BytesArg
import Derived.Laws.MakeOwn
import Derived.Laws.Rows
import Derived.Lib.ConvBytes
import Derived.OneCell
namespace Go.Proofs.YtbfdaclekjgkfaaGreatDoor
open Go.RowKit

def strings_Clone.f (a0 : ByteArray) : Option ByteArray := if a0.size ≤ 281474976710656 then some a0 else none
theorem strings_Clone.calls (a0 : ByteArray) (r : ByteArray) (w : World) (h : strings_Clone.f a0 = some r) :
    Calls Tryz.prog 64 #[.string a0] w fun e w' => e = .returned (.string r) ∧ Below w.heap.size w w' := by
  unfold strings_Clone.f at h
  by_cases hs : a0.size ≤ 281474976710656
  · rw [if_pos hs] at h
    obtain rfl : a0 = r := Option.some.inj h
    clear h
    go_enter Tryz.func64, Tryz.ntmps64
    go_wp2_with (go_at_call 83; refine (Tryz.stringslite_Clone _ _ hs).mono ?_; rintro e w' ⟨rfl, hb⟩; have HB := Lib.hid hb; clear hb)
    go_ret
    exact ⟨rfl, HB.out⟩
  · rw [if_neg hs] at h
    cases h

/-- Block g is a row of the bytes xs. -/
def isB (w : World) (g : Nat) (xs : List Int) : Prop := w.heap[g]? = some (.cells (xs.map (Value.int .u8)).toArray 5 (0, 0))
theorem isB.cell {w : World} {g : Nat} {xs : List Int} (h : isB w g xs) (i : Nat) (hi : i < xs.length) : w.cell? ⟨g, i, none⟩ = some (.int .u8 (xs.getD i 0)) := by
  have h' : w.heap[g]? = some _ := h
  simp [World.cell?, h', List.getD, hi]
theorem isB.free {w : World} {g : Nat} {xs : List Int} (h : isB w g xs) (i : Nat) : w.frozen? ⟨g, i, none⟩ = false := frozen_of_row w g i _ _ h
theorem isB.set {w : World} {g : Nat} {xs : List Int} (h : isB w g xs) (i : Nat) (v : Int) : isB (w.setCell ⟨g, i, none⟩ (.int .u8 v)) g (xs.set i v) := by
  have h' := heap_setCell_same w g i _ _ (.int .u8 v) h
  unfold isB
  rw [h', List.map_set]
  simp
theorem isB.conv {w : World} {g : Nat} {xs : List Int} (h : isB w g xs) (n c : Nat) (hn : xs.length = n) : (convert 55 9 (.slice (some ⟨g, 0, none⟩) n c)).run Tryz.prog w = .ok (.string (strOfNums xs)) w :=
  run_convert_bytes_arg (P := Tryz.prog) w 55 5 Tryz.underlying55 Tryz.underlying5 g 0 n c xs hn (fun i hi => by
    have := h.cell i (by omega)
    simpa using this) 9 Tryz.underlying9

def pbyte (v : Int) (k : Nat) : Int := v / 2 ^ (8 * k) % 256
def pcells (v : Int) (n k : Nat) : List Int := (List.range n).map fun j => if n ≤ j + k then pbyte v (n - 1 - j) else 0
theorem pcells_length (v : Int) (n k : Nat) : (pcells v n k).length = n := by simp [pcells]
theorem pcells_zero (v : Int) (n : Nat) : pcells v n 0 = List.replicate n 0 := by
  refine List.ext_getElem (by simp [pcells]) fun i h1 h2 => ?_
  simp [pcells] at h1 ⊢
  omega
theorem pcells_succ (v : Int) (n k : Nat) (h : k < n) : (pcells v n k).set (n - 1 - k) (pbyte v k) = pcells v n (k + 1) := by
  refine List.ext_getElem (by simp [pcells]) fun i h1 h2 => ?_
  simp only [pcells, List.getElem_set, List.getElem_map, List.getElem_range]
  by_cases e : n - 1 - k = i
  · rw [if_pos e, if_pos (by omega), show n - 1 - i = k from by omega]
  · rw [if_neg e]
    by_cases e2 : n ≤ i + k
    · rw [if_pos e2, if_pos (by omega)]
    · rw [if_neg e2, if_neg (by omega)]

def octet_PutBig.f (a0 a1 : Int) : Option ByteArray := if 1 ≤ a1 ∧ a1 ≤ 8 then some (strOfNums (pcells a0 a1.toNat a1.toNat)) else some ⟨#[]⟩

theorem info_u8 : (Tryz.prog.info? 5).map (fun i => (i.zero, i.size, i.bytes)) = some (some (.int .u8 0), 1, 1) := by kernel_rfl
set_option maxRecDepth 100000 in
set_option maxHeartbeats 800000 in
theorem octet_PutBig.calls (a0 a1 : Int) (r : ByteArray) (w : World) (h : octet_PutBig.f a0 a1 = some r) :
    Calls Tryz.prog 22 #[.int .u64 a0, .int .i64 a1] w fun e w' => e = .returned (.string r) ∧ Below w.heap.size w w' := by
  unfold octet_PutBig.f at h
  by_cases hn : 1 ≤ a1 ∧ a1 ≤ 8
  · rw [if_pos hn] at h
    have HR := Lib.hid (Option.some.inj h)
    clear h
    obtain ⟨n1, n2⟩ := hn
    obtain ⟨n, rfl⟩ := Int.eq_ofNat_of_zero_le (show 0 ≤ a1 by omega)
    rw [Int.toNat_natCast] at HR
    obtain ⟨i0, hi, hz0, hz1, hz2⟩ := info_parts info_u8
    have hmk : ∀ W : World, (Instr.makeSlice 55 (.int .i64 n) (.int .i64 n)).run Tryz.prog W = .ok (.slice (some ⟨W.heap.size, 0, none⟩) n n) (W.alloc (.cells (madeCells (Value.int .u8 0).cells n) 5)) := fun W => by
      have := run_make W 55 5 i0 _ Tryz.underlying55 hi hz0 .i64 .i64 n n (by omega) (Int.le_refl _) (by rw [hz2]; omega) (by omega)
      rw [hz1] at this
      simpa using this
    clear hi hz0 hz1 hz2
    go_enter Tryz.func22, Tryz.ntmps22
    go_wp2
    have h0 : isB (w.alloc (.cells (madeCells (Value.int .u8 0).cells n) 5)) w.heap.size (pcells a0 n 0) := by
      rw [pcells_zero]
      refine (heap_alloc_new w _).trans ?_
      congr 2
      apply Array.toList_inj.mp
      rw [show madeCells (Value.int .u8 0).cells n = madeCells #[Value.int .u8 0] n from rfl, toList_madeCells_one]
      simp
    have hb0 : Below w.heap.size w (w.alloc (.cells (madeCells (Value.int .u8 0).cells n) 5)) := (Below.refl _ w).alloc (Nat.le_refl _) _
    go_loopw [17] (fun i wr => ∃ k : Nat, k ≤ n ∧ i = .int .i64 k ∧ Aside (isB wr w.heap.size (pcells a0 n k)) ∧ Aside (Below w.heap.size w wr)) (fun i _ => n - (intOf i).toNat)
    case atStart => exact ⟨0, Nat.zero_le _, rfl, h0, hb0⟩
    case round =>
      obtain ⟨k, hk, rfl, hI, hB⟩ := hrel
      by_cases hlt : k < n
      · have hcell := hI.out.cell (n - 1 - k) (by rw [pcells_length]; omega)
        have hfree := hI.out.free (n - 1 - k)
        have hidx : ((n : Int) - 1 - (k : Int)).toNat = n - 1 - k := by omega
        go_wp2
        go_roundw
        case rel =>
          refine ⟨k + 1, by omega, by go_num, ?_, ?_⟩
          · have := hI.out.set (n - 1 - k) (pbyte a0 k)
            rw [pcells_succ a0 n k hlt] at this
            exact this
          · exact hB.out.setCell (Nat.le_refl _) _
        case measure => simp [intOf]; omega
      · obtain rfl : k = n := by omega
        have hcv := hI.out.conv k k (pcells_length _ _ _)
        rw [HR.out] at hcv
        go_wp2
        go_ret
        exact ⟨rfl, hB.out⟩
  · rw [if_neg hn] at h
    obtain rfl : (⟨#[]⟩ : ByteArray) = r := Option.some.inj h
    clear h
    have h2 : a1 < 1 ∨ 8 < a1 := by omega
    clear hn
    rcases h2 with h2 | h2
    all_goals
      go_enter Tryz.func22, Tryz.ntmps22
      go_wp2
      go_ret
      exact ⟨rfl, Below.refl _ _⟩
end Go.Proofs.YtbfdaclekjgkfaaGreatDoor
