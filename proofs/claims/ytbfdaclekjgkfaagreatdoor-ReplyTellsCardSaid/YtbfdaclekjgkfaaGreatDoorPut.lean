/- A command as bytes: the walks of the program's and of the reference's functions. -/
import Derived.Test.YtbfdaclekjgkfaaGreatDoorClass
import Derived.Test.YtbfdaclekjgkfaaGreatDoorRBig
namespace Go.Proofs.YtbfdaclekjgkfaaGreatDoor
open Go.RowKit

/-- One byte as a text. -/
def oneB (x : Int) : ByteArray := strOfNums [x]
theorem oneB_size (x : Int) : (oneB x).size = 1 := rfl
theorem bcell {W w1 : World} (hb : Below W.heap.size W w1) : (∀ b o, b < W.heap.size → w1.cell? ⟨b, o, none⟩ = W.cell? ⟨b, o, none⟩) ∧ (∀ b o, b < W.heap.size → w1.frozen? ⟨b, o, none⟩ = W.frozen? ⟨b, o, none⟩) :=
  ⟨fun b o h => hb.cell (p := ⟨b, o, none⟩) h, fun b o h => hb.frozen (p := ⟨b, o, none⟩) h⟩
theorem conv_one (W : World) (x : Int) : (convert 55 9 (.slice (some ⟨W.heap.size, 0, none⟩) 1 1)).run Tryz.prog (W.alloc (.cells #[.int .u8 x] 5)) = .ok (.string (oneB x)) (W.alloc (.cells #[.int .u8 x] 5)) :=
  isB.conv (xs := [x]) (heap_alloc_new W _) 1 1 rfl

def shortB (s : ByteArray) : ByteArray := oneB ((s.size : Int) % 256) ++ s
def pairB (a b : Int) : ByteArray := strOfNums (pcells (a + 1000000000000) 8 8) ++ strOfNums (pcells b 8 8)
def putB (op : Int) (k v : ByteArray) (a b : Int) : ByteArray := oneB (op % 256) ++ pairB a b ++ shortB k ++ v
theorem big_size (x : Int) : (strOfNums (pcells x 8 8)).size = 8 := by rw [strOfNums_size, pcells_length]
theorem shortB_size (s : ByteArray) : (shortB s).size = 1 + s.size := by unfold shortB; rw [ByteArray.size_append, oneB_size]
theorem pairB_size (a b : Int) : (pairB a b).size = 16 := by unfold pairB; rw [ByteArray.size_append, big_size, big_size]

set_option maxHeartbeats 400000 in
theorem short_any (s : ByteArray) (w : World) (hs : s.size ≤ 140737488351232) :
    Calls Tryz.prog 23 #[.string s] w fun e w' => e = .returned (.string (shortB s)) ∧ Below w.heap.size w w' := by
  have hcv := conv_one
  have hz := oneB_size
  go_enter Tryz.func23, Tryz.ntmps23
  go_wp2
  go_ret
  exact ⟨rfl, (Below.refl _ w).alloc (Nat.le_refl _) _⟩

theorem pb_any (x : Int) (w : World) : Calls Tryz.prog 22 #[.int .u64 x, .int .i64 8] w fun e w' => e = .returned (.string (strOfNums (pcells x 8 8))) ∧ Below w.heap.size w w' :=
  octet_PutBig.calls x 8 _ w rfl

set_option maxHeartbeats 400000 in
theorem pair_any (a b : Int) (w : World) (ha : -1000000000000 ≤ a) (ha2 : a ≤ 1000000000000) (hb0 : 0 ≤ b) (hb1 : b ≤ 1000000000000) :
    Calls Tryz.prog 21 #[.int .i64 a, .int .i64 b] w fun e w' => e = .returned (.string (pairB a b)) ∧ Below w.heap.size w w' := by
  have hz := big_size
  go_enter Tryz.func21, Tryz.ntmps21
  go_wp2_with fail
  refine (pb_any _ _).mono ?_
  rintro e w1 ⟨rfl, h1⟩
  have HB1 := Lib.hid h1
  clear h1
  go_wp2_with fail
  refine (pb_any _ _).mono ?_
  rintro e w2 ⟨rfl, h2⟩
  have HB2 := Lib.hid h2
  clear h2
  go_wp2
  go_ret
  exact ⟨rfl, HB1.out.trans (HB2.out.mono HB1.out.size)⟩

/-- The reference's number in bytes: the same. -/
theorem div_step (x : Int) (k : Nat) : x / 2 ^ (8 * k) / 256 = x / 2 ^ (8 * (k + 1)) := by
  rw [Int.ediv_ediv_of_nonneg (by exact Int.le_of_lt (Int.pow_pos (by decide)))]
  congr 1
  rw [show 8 * (k + 1) = 8 * k + 8 from by omega, Int.pow_add]
  rfl
theorem and255 (x : Int) (h0 : 0 ≤ x) (h1 : x < 18446744073709551616) : bits .and .u64 x 255 = x % 256 := by
  have := bits_mask .u64 64 (by decide) (fun n h0 h1 => by rw [IntKind.wrap_u64]; omega) 8 (by omega) x h0 (by omega)
  simpa using this
theorem div_range (x : Int) (k : Nat) (h0 : 0 ≤ x) (h1 : x < 18446744073709551616) : 0 ≤ x / 2 ^ (8 * k) ∧ x / 2 ^ (8 * k) < 18446744073709551616 := by
  have hp : (0 : Int) < 2 ^ (8 * k) := Int.pow_pos (by decide)
  exact ⟨Int.ediv_nonneg h0 (Int.le_of_lt hp), Int.lt_of_le_of_lt (Int.ediv_le_self _ h0) h1⟩

set_option maxRecDepth 100000 in
set_option maxHeartbeats 800000 in
theorem rpb_any (x : Int) (n : Nat) (w : World) (h0 : 0 ≤ x) (h1 : x < 18446744073709551616) (n1 : 1 ≤ n) (n2 : n ≤ 8) :
    Calls Tryz.prog 26 #[.int .u64 x, .int .i64 n] w fun e w' => e = .returned (.string (strOfNums (pcells x n n))) ∧ Below w.heap.size w w' := by
  obtain ⟨i0, hi, hz0, hz1, hz2⟩ := info_parts info_u8
  have hmk : ∀ W : World, (Instr.makeSlice 55 (.int .i64 n) (.int .i64 n)).run Tryz.prog W = .ok (.slice (some ⟨W.heap.size, 0, none⟩) n n) (W.alloc (.cells (madeCells (Value.int .u8 0).cells n) 5)) := fun W => by
    have := run_make W 55 5 i0 _ Tryz.underlying55 hi hz0 .i64 .i64 n n (by omega) (Int.le_refl _) (by rw [hz2]; omega) (by omega)
    rw [hz1] at this
    simpa using this
  clear hi hz0 hz1 hz2
  have H0 := Lib.hid h0
  have H1 := Lib.hid h1
  clear h1
  go_enter Tryz.func26, Tryz.ntmps26
  go_wp2
  have hI0 : isB (w.alloc (.cells (madeCells (Value.int .u8 0).cells n) 5)) w.heap.size (pcells x n 0) := by
    rw [pcells_zero]
    refine (heap_alloc_new w _).trans ?_
    congr 2
    apply Array.toList_inj.mp
    rw [show madeCells (Value.int .u8 0).cells n = madeCells #[Value.int .u8 0] n from rfl, toList_madeCells_one]
    simp
  have hb0 : Below w.heap.size w (w.alloc (.cells (madeCells (Value.int .u8 0).cells n) 5)) := (Below.refl _ w).alloc (Nat.le_refl _) _
  go_loopw [0, 6] (fun v i wr => ∃ k : Nat, k ≤ n ∧ v = .int .u64 (x / 2 ^ (8 * k)) ∧ i = .int .i64 ((n : Int) - 1 - k) ∧ Aside (isB wr w.heap.size (pcells x n k)) ∧ Aside (Below w.heap.size w wr)) (fun _ i _ => (intOf i + 1).toNat)
  case atStart => exact ⟨0, Nat.zero_le _, by simp, by simp, hI0, hb0⟩
  case round =>
    obtain ⟨k, hk, rfl, rfl, hI, hB⟩ := hrel
    have hds := Lib.hid (div_step x k)
    have hr := div_range x k H0.out H1.out
    have hpb : Hid (x / 2 ^ (8 * k) % 256 = pbyte x k) := Lib.hid rfl
    generalize x / 2 ^ (8 * k) = y at hds hr hpb ⊢
    obtain ⟨y0, y1⟩ := hr
    have hand := and255 y y0 y1
    by_cases hlt : k < n
    · have hcell := hI.out.cell (n - 1 - k) (by rw [pcells_length]; omega)
      have hfree := hI.out.free (n - 1 - k)
      have hidx : ((n : Int) - 1 - (k : Int)).toNat = n - 1 - k := by omega
      go_wp2
      go_roundw
      case rel =>
        refine ⟨k + 1, by omega, ?_, by go_num, ?_, ?_⟩
        · rw [← hds.out]
        · have := hI.out.set (n - 1 - k) (pbyte x k)
          rw [pcells_succ x n k hlt, ← hpb.out] at this
          exact this
        · exact hB.out.setCell (Nat.le_refl _) _
      case measure => simp [intOf]; omega
    · obtain rfl : k = n := by omega
      have hcv := hI.out.conv k k (pcells_length _ _ _)
      have hneg : ¬ ((0 : Int) ≤ (k : Int) - 1 - (k : Int)) := by omega
      go_wp2
      go_ret
      exact ⟨rfl, hB.out⟩
end Go.Proofs.YtbfdaclekjgkfaaGreatDoor
