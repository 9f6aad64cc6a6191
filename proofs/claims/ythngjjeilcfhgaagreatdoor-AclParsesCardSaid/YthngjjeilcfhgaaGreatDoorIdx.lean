/- strings.ContainsAny(s, " \n") of every text, by the program: the walk. -/
import Derived.Test.YthngjjeilcfhgaaGreatDoorShelf
import Derived.WalkKit
import Derived.WalkSpells
import Derived.RegionTactic
import Derived.RegionCalls
import Derived.Lib.Hide
import Derived.Lib.DecodeN
import Derived.Lib.IndexAny
import Derived.Laws.RangeAny
import Derived.Laws.Runes
import Derived.WalkMore
import Derived.Lib.OthersKept
import Derived.Below
import Derived.Deep.QuietTactic
set_option linter.unusedVariables false
namespace Go.Proofs.YthngjjeilcfhgaaGreatDoor
open Go.RowKit

def blankB : ByteArray := ⟨#[32, 10]⟩
/-- A rune beyond the ASCII ones, as bytes: two to four, the last of them no ASCII byte. -/
theorem encode_hi (r : Int) (h0 : 128 ≤ r) (hv : Utf8.valid r = true) : ∃ n : Nat, (Utf8.encode r).size = n + 2 ∧ n ≤ 2 ∧ ∀ h : n + 1 < (Utf8.encode r).size, 128 ≤ ((Utf8.encode r)[n + 1]'h).toNat := by
  have hn : ¬ r.toNat < 128 := by omega
  have hb : ∀ m : Nat, m < 64 → 128 ≤ (UInt8.ofNat (128 + m)).toNat := fun m hm => by
    rw [UInt8.toNat_ofNat']
    omega
  unfold Utf8.encode
  simp only [hv, if_true, hn, if_false]
  split
  · exact ⟨0, rfl, by omega, fun h => hb _ (Nat.mod_lt _ (by omega))⟩
  · split
    · exact ⟨1, rfl, by omega, fun h => hb _ (Nat.mod_lt _ (by omega))⟩
    · exact ⟨2, rfl, by omega, fun h => hb _ (Nat.mod_lt _ (by omega))⟩

set_option maxRecDepth 100000 in
set_option maxHeartbeats 1600000 in
/-- A rune beyond the ASCII ones is none of the two. -/
theorem idxRune_valid (r : Int) (w : World) (h0 : 128 ≤ r) (h1 : r ≤ 1114111) (hne : r ≠ 65533) (hv : Lib.validRune r = true) (hu : Utf8.valid r = true) :
    Calls Tryz.prog 106 #[.string blankB, .int .i32 r] w fun e w' => e = .returned (.int .i64 (-1)) ∧ Below w.heap.size w w' := by
  obtain ⟨n, hn, hn2, hlast⟩ := encode_hi r h0 hu
  obtain ⟨rs, hrs⟩ : ∃ rs, rs = Utf8.encode r := ⟨_, rfl⟩
  rw [← hrs] at hn hlast
  have hl := hlast (by omega)
  obtain ⟨b, hb⟩ : ∃ b, b = rs[n + 1]'(by omega) := ⟨_, rfl⟩
  rw [← hb] at hl
  have HRS := Lib.hid hrs
  clear hlast hu hrs
  have hr1 : decide (r < 128) = false := decide_eq_false (by omega)
  have hr2 : (r == 65533) = false := beq_eq_false_iff_ne.2 hne
  go_enter Tryz.func106, Tryz.ntmps106
  go_wp2_with (first | (go_at_call 120; refine (Tryz.utf8_ValidRune r _).mono ?_; rintro e w' ⟨rfl, hw⟩; rw [hw, hv]) | fail)
  subst hw
  have hcv : (convert 21 9 (.int .i32 r)).run Tryz.prog w' = .ok (.string rs) w' := by
    rw [HRS.out]
    exact run_convert_int_string w' 21 9 .i32 r (by rw [Tryz.underlying21]; rfl) Tryz.underlying9
  go_step3
  go_wp2_with fail
  clear hcv
  have hbs : blankB.size = 2 := rfl
  have hb1 : blankB[1]'(by decide) = 10 := rfl
  by_cases hz : n = 0
  · subst hz
    have hs2 : rs.size = 2 := hn
    have hb2 : rs[1]'(by rw [hs2]; decide) = b := hb.symm
    clear hb hn
    have hbne : ((10 : Int) != (b.toNat : Int)) = true := by
      have : ((10 : Int) == (b.toNat : Int)) = false := beq_eq_false_iff_ne.2 (by omega)
      simp [bne, this]
    have hw2 : IntKind.i64.wrap 2 = 2 := by decide
    have hix : Lib.indexByte ByteArray.empty.data.toList ((b.toNat : Int)).toNat.toUInt8 = -1 := rfl
    go_loop [9] (fun i => i = .int .i64 1) (fun _ => 0)
    case atStart => first | rfl | (simp; done) | (simp; omega)
    case round =>
      obtain rfl := hrel
      go_wp2_with fail
      go_step3
      go_wp2_with fail
      go_quiet (fail)
      go_wp2
      go_quiet (first | (go_at_call 119; refine (Tryz.strings_IndexByte _ _ _).mono ?_; rintro e w2 ⟨rfl, rfl⟩; exact ⟨rfl, _, rfl⟩) | fail)
      go_wp2_with fail
      rw [Exit.noGoto_ret]
      go_simp
      simp (config := { zetaDelta := true }) only [Exit.then, Exit.inBlock, Exit.noGoto_ret]
      first | go_ret | trace_state
      exact ⟨rfl, rfl, rfl, rfl, Nat.le_refl _, fun _ _ => rfl⟩
  · have hlt : ¬ ((n : Int) + 1 < 2) := by omega
    go_loop [9] (fun i => i = .int .i64 ((n : Int) + 1)) (fun _ => 0)
    case atStart => first | rfl | (simp; done) | (simp; omega)
    case round =>
      obtain rfl := hrel
      go_wp2
      go_ret
      exact ⟨rfl, Below.refl _ _⟩

set_option maxRecDepth 100000 in
set_option maxHeartbeats 1600000 in
theorem idxRune_err (w : World) : Calls Tryz.prog 106 #[.string blankB, .int .i32 65533] w fun e w' => e = .returned (.int .i64 (-1)) ∧ Below w.heap.size w w' := by
  have n0 := fun ty => run_next_ascii (P := Tryz.prog) w blankB 0 ty (by decide) (by decide)
  have n1 := fun ty => run_next_ascii (P := Tryz.prog) w blankB 1 ty (by decide) (by decide)
  have n2 := fun ty => run_next_end (P := Tryz.prog) w blankB 2 ty (by decide)
  go_enter Tryz.func106, Tryz.ntmps106
  go_wp2
  go_loopg [5, 6] 2 (fun g _ _ wx => ∃ i : Nat, i + g = 2 ∧ wx = w.iter blankB i)
  case atStart => exact ⟨0, by omega, rfl⟩
  case round =>
    obtain ⟨i, hig, rfl⟩ := hrel
    cases gk with
    | zero =>
      obtain rfl : i = 2 := by omega
      go_wp2
      go_ret
      exact ⟨rfl, (Below.refl _ w).alloc (Nat.le_refl _) _⟩
    | succ g =>
      have hi : i = 0 ∨ i = 1 := by omega
      rcases hi with rfl | rfl
      · go_wp2
        go_roundg g
        case measure => omega
        case rel => exact ⟨1, by omega, rfl⟩
      · go_wp2
        go_roundg g
        case measure => omega
        case rel => exact ⟨2, by omega, rfl⟩

theorem decN_hi (n b0 b1 b2 b3 : Nat) (hn : 1 ≤ n) (h : 128 ≤ b0) : 128 ≤ (Lib.decodeN n b0 b1 b2 b3).1 ∧ (Lib.decodeN n b0 b1 b2 b3).1 ≤ 1114111 ∧ ((Lib.decodeN n b0 b1 b2 b3).1 < 55296 ∨ 57343 < (Lib.decodeN n b0 b1 b2 b3).1) ∧
    1 ≤ (Lib.decodeN n b0 b1 b2 b3).2 ∧ (Lib.decodeN n b0 b1 b2 b3).2 ≤ n ∧ (Lib.decodeN n b0 b1 b2 b3).2 ≤ 4 ∧ (2 ≤ (Lib.decodeN n b0 b1 b2 b3).2 → 128 ≤ b1) ∧ (3 ≤ (Lib.decodeN n b0 b1 b2 b3).2 → 128 ≤ b2) ∧ (4 ≤ (Lib.decodeN n b0 b1 b2 b3).2 → 128 ≤ b3) := by
  unfold Lib.decodeN
  rw [if_neg (by omega)]
  repeat' split
  all_goals (simp only; omega)

/-- Is there a blank, or a line's end, in a text? -/
def hasBlank (s : ByteArray) : Bool := s.data.toList.any fun b => b == 32 || b == 10
def noBl (s : ByteArray) (i : Nat) : Prop := ∀ q, q < i → s.data.toList.getD q 0 ≠ 32 ∧ s.data.toList.getD q 0 ≠ 10
theorem getD_of (s : ByteArray) (i : Nat) (h : i < s.size) : s.data.toList.getD i 0 = s[i]'h := by
  have hl : i < s.data.toList.length := by rw [← Lib.size_eq]; exact h
  rw [List.getD_eq_getElem?_getD, List.getElem?_eq_getElem hl]
  rfl
theorem get!_of (s : ByteArray) (i : Nat) (h : i < s.size) : s.get! i = s[i]'h := by
  simp [ByteArray.get!, getElem!_pos, h]
  rfl
theorem hasBlank_no {s : ByteArray} (h : noBl s s.size) : hasBlank s = false := by
  unfold hasBlank
  rw [List.any_eq_false]
  intro x hx
  obtain ⟨j, hj, rfl⟩ := List.getElem_of_mem hx
  have hs : j < s.size := by rw [Lib.size_eq]; exact hj
  have h1 := h j hs
  rw [List.getD_eq_getElem?_getD, List.getElem?_eq_getElem hj] at h1
  simp only [Option.getD_some] at h1
  intro hh
  simp only [Bool.or_eq_true, beq_iff_eq] at hh
  rcases hh with hh | hh
  · exact h1.1 hh
  · exact h1.2 hh
theorem hasBlank_yes {s : ByteArray} {i : Nat} (hi : i < s.size) (h : s[i]'hi = 32 ∨ s[i]'hi = 10) : hasBlank s = true := by
  have hl : i < s.data.toList.length := by rw [← Lib.size_eq]; exact hi
  unfold hasBlank
  rw [List.any_eq_true]
  refine ⟨s.data.toList[i], List.getElem_mem hl, ?_⟩
  have e : s.data.toList[i] = s[i]'hi := rfl
  rw [e]
  rcases h with h | h <;> simp [h]
theorem noBl_succ {s : ByteArray} {i : Nat} (h : noBl s i) (hi : i < s.size) (h1 : s[i]'hi ≠ 32) (h2 : s[i]'hi ≠ 10) : noBl s (i + 1) := by
  intro q hq
  by_cases e : q = i
  · subst e
    rw [getD_of s q hi]
    exact ⟨h1, h2⟩
  · exact h q (by omega)
theorem ix_blank (b : UInt8) : Lib.indexByte blankB.data.toList b = if b = 32 then 0 else if b = 10 then 1 else -1 := by
  show Lib.indexByte [32, 10] b = _
  by_cases h1 : b = 32
  · subst h1; rfl
  · by_cases h2 : b = 10
    · subst h2; rfl
    · simp [Lib.indexByte, h1, h2, Ne.symm h1, Ne.symm h2]
theorem dec_bytes (s : ByteArray) (i : Nat) (hi : i < s.size) (hb : 128 ≤ (s[i]'hi).toNat) (hn : noBl s i) :
    128 ≤ (Utf8.decode s i).1 ∧ (Utf8.decode s i).1 ≤ 1114111 ∧ ((Utf8.decode s i).1 < 55296 ∨ 57343 < (Utf8.decode s i).1) ∧ 1 ≤ (Utf8.decode s i).2 ∧ i + (Utf8.decode s i).2 ≤ s.size ∧ noBl s (i + (Utf8.decode s i).2) := by
  have hd := Lib.decode_at s i
  have hg := get!_of s i hi
  have H := decN_hi (s.size - i) (s.get! i).toNat (s.get! (i + 1)).toNat (s.get! (i + 2)).toNat (s.get! (i + 3)).toNat (by omega) (by rw [hg]; exact hb)
  rw [← hd] at H
  obtain ⟨a1, a2, a3, a4, a5, a6, a7, a8, a9⟩ := H
  refine ⟨a1, a2, a3, a4, by omega, fun q hq => ?_⟩
  have hi_ : ∀ j, j < s.size → 128 ≤ (s.get! j).toNat → s.data.toList.getD j 0 ≠ 32 ∧ s.data.toList.getD j 0 ≠ 10 := fun j hj h => by
    rw [getD_of s j hj, ← get!_of s j hj]
    constructor <;> (intro e; rw [e] at h; exact absurd h (by decide))
  by_cases e : q < i
  · exact hn q e
  · by_cases e0 : q = i
    · subst e0; exact hi_ q (by omega) (by rw [hg]; exact hb)
    · by_cases e1 : q = i + 1
      · subst e1; exact hi_ (i + 1) (by omega) (a7 (by omega))
      · by_cases e2 : q = i + 2
        · subst e2; exact hi_ (i + 2) (by omega) (a8 (by omega))
        · obtain rfl : q = i + 3 := by omega
          exact hi_ (i + 3) (by omega) (a9 (by omega))
theorem below_iterAt {B : Nat} {w w' : World} (h : Below B w w') (k : Nat) (hk : B ≤ k) (s : ByteArray) (p : Nat) : Below B w (w'.iterAt k s p) := by
  obtain ⟨h1, h2, h3, h4, h5⟩ := h
  refine ⟨h1, h2, h3, by simpa [World.iterAt] using h4, fun j hj => ?_⟩
  have hne : k ≠ j := by omega
  have : (w'.iterAt k s p).heap[j]? = w'.heap[j]? := by simp [World.iterAt, hne]
  rw [this]
  exact h5 j hj

set_option maxRecDepth 100000 in
set_option maxHeartbeats 3200000 in
theorem idxAny_short (s : ByteArray) (w : World) (h8 : s.size ≤ 8) :
    Calls Tryz.prog 94 #[.string s, .string blankB] w fun e w' => (∃ r : Int, e = .returned (.int .i64 r) ∧ decide (0 ≤ r) = hasBlank s) ∧ Below w.heap.size w w' := by
  have hemp : blankB.toList.isEmpty = false := by rw [Lib.toList_data]; rfl
  have hbs : blankB.size = 2 := rfl
  have h8z : decide ((8 : Int) < (s.size : Int)) = false := decide_eq_false (by omega)
  go_enter Tryz.func94, Tryz.ntmps94
  go_wp2_with (go_at_call 107; refine (Tryz.strings_shouldUseASCIISet _ _).mono ?_; rintro e w' ⟨rfl, hw⟩; rw [hw, h8z])
  go_loopg [9, 10] s.size (fun g _ _ wx => ∃ i : Nat, i ≤ s.size ∧ s.size - i ≤ g ∧ Aside (wx.heap[w.heap.size]? = some (.stringIter s i)) ∧ Aside (Below w.heap.size w wx) ∧ Aside (noBl s i))
  case atStart => exact ⟨0, Nat.zero_le _, by omega, (by show (w.iter s 0).heap[w.heap.size]? = _; simp [World.iter_heap]), (Below.refl _ w).alloc (Nat.le_refl _) _, fun q hq => absurd hq (Nat.not_lt_zero q)⟩
  case round =>
    obtain ⟨i, hi, hg, hk, hB, hno⟩ := hrel
    by_cases hlt : i < s.size
    · obtain ⟨gk, rfl⟩ : ∃ g, gk = g + 1 := ⟨gk - 1, by omega⟩
      obtain ⟨b, hb⟩ : ∃ b, b = s[i]'hlt := ⟨_, rfl⟩
      have hnx := fun ty => Lib.run_next_any_at (P := Tryz.prog) wr w.heap.size s i ty hk.out hlt
      by_cases hhi : 128 ≤ b.toNat
      · obtain ⟨a1, a2, a3, a4, a5, a6⟩ := dec_bytes s i hlt (by rw [← hb]; exact hhi) hno.out
        generalize (Utf8.decode s i).1 = rn at hnx a1 a2 a3
        generalize (Utf8.decode s i).2 = wd at hnx a4 a5 a6
        have hx : Hid (∀ W, Calls Tryz.prog 106 #[.string blankB, .int .i32 (rn : Int)] W fun e w' => e = .returned (.int .i64 (-1)) ∧ Below W.heap.size W w') := Lib.hid fun W => by
          by_cases e : rn = 65533
          · subst e; exact idxRune_err W
          · exact idxRune_valid rn W (by omega) (by omega) (by omega) (by unfold Lib.validRune; exact decide_eq_true (by omega)) (by unfold Utf8.valid; simp; omega)
        have hB2 := Lib.hid (below_iterAt hB.out w.heap.size (Nat.le_refl _) s (i + wd))
        have hk2 := Lib.hid (Lib.iterAt_heap wr w.heap.size s i (i + wd) hk.out)
        have A6 := Lib.hid a6
        clear a6 a3 a1 a2 hno hhi hb
        go_wp2_with (go_at_call 106; refine (hx.out _).mono ?_; rintro e w2 ⟨rfl, hb2⟩; have HB3 := Lib.hid (hB2.out.trans (hb2.mono (by have := hB2.out.size; omega))); have HK3 := Lib.hid ((hb2.block w.heap.size (Array.getElem?_eq_some_iff.1 hk2.out).1).trans hk2.out); clear hb2)
        go_roundg gk
        case measure => omega
        case rel => exact ⟨i + wd, a5, by omega, HK3.out, HB3.out, A6.out⟩
      · have hnx2 := fun ty => Lib.run_next_ascii_at (P := Tryz.prog) wr w.heap.size s i ty hk.out hlt (by rw [← hb]; omega)
        clear hnx
        simp only [← hb] at hnx2
        have hB2 := Lib.hid (below_iterAt hB.out w.heap.size (Nat.le_refl _) s (i + 1))
        have hk2 := Lib.hid (Lib.iterAt_heap wr w.heap.size s i (i + 1) hk.out)
        have hx : Hid (∀ W, Calls Tryz.prog 106 #[.string blankB, .int .i32 (b.toNat : Int)] W fun e w' => e = .returned (.int .i64 (if b = 32 then 0 else if b = 10 then 1 else -1)) ∧ w' = W) := Lib.hid fun W => by
          have h := Tryz.strings_IndexRune_ascii blankB (b.toNat : Int) W (by omega) (by omega)
          rw [show ((b.toNat : Int)).toNat.toUInt8 = b by simp, ix_blank] at h
          exact h
        have HN := Lib.hid hno.out
        clear hno
        by_cases h1 : b = 32
        · have hy := Lib.hid (hasBlank_yes hlt (.inl (by rw [← hb]; exact h1)))
          rw [if_pos h1] at hx
          clear hb h1 hhi
          go_wp2_with (go_at_call 106; refine (hx.out _).mono ?_; rintro e w2 ⟨rfl, rfl⟩)
          go_ret
          exact ⟨⟨(i : Int), rfl, by rw [hy.out]; exact decide_eq_true (by omega)⟩, hB2.out⟩
        · rw [if_neg h1] at hx
          by_cases h2 : b = 10
          · have hy := Lib.hid (hasBlank_yes hlt (.inr (by rw [← hb]; exact h2)))
            rw [if_pos h2] at hx
            clear hb h1 h2 hhi
            go_wp2_with (go_at_call 106; refine (hx.out _).mono ?_; rintro e w2 ⟨rfl, rfl⟩)
            go_ret
            exact ⟨⟨(i : Int), rfl, by rw [hy.out]; exact decide_eq_true (by omega)⟩, hB2.out⟩
          · rw [if_neg h2] at hx
            have hs := Lib.hid (noBl_succ HN.out hlt (by rw [← hb]; exact h1) (by rw [← hb]; exact h2))
            clear hb h1 h2 hhi
            go_wp2_with (go_at_call 106; refine (hx.out _).mono ?_; rintro e w2 ⟨rfl, rfl⟩)
            go_roundg gk
            case measure => omega
            case rel => exact ⟨i + 1, by omega, by omega, hk2.out, hB2.out, hs.out⟩
    · obtain rfl : i = s.size := by omega
      have hnx := fun ty => Lib.run_next_end_at (P := Tryz.prog) wr w.heap.size s s.size ty hk.out (Nat.lt_irrefl _)
      go_wp2
      go_ret
      exact ⟨⟨-1, rfl, by rw [hasBlank_no hno.out]; rfl⟩, hB.out⟩

set_option maxRecDepth 1000000 in
set_option maxHeartbeats 6400000 in
theorem idxAny_long (s : ByteArray) (w : World) (h8 : 8 < s.size) (hs : s.size ≤ 9223372036854775807) :
    Calls Tryz.prog 94 #[.string s, .string blankB] w fun e w' => (∃ r : Int, e = .returned (.int .i64 r) ∧ decide (0 ≤ r) = hasBlank s) ∧ Below w.heap.size w w' := by
  have hz := zero_of_info (P := Tryz.prog) (t := 161) (v := .agg (Array.replicate 256 (.bool false))) (n := 256) (by kernel_rfl)
  have hasc : ∀ (j : Nat) b, blankB.data.toList[j]? = some b → b.toNat < 128 := fun j b hb => (by decide +kernel : ∀ x ∈ blankB.data.toList, x.toNat < 128) b (List.mem_of_getElem? hb)
  have hM := Lib.hid fun W => Tryz.strings_makeASCIISet hz.1 blankB W (by decide) hasc
  have hemp : blankB.toList.isEmpty = false := by rw [Lib.toList_data]; rfl
  have hbs : blankB.size = 2 := rfl
  have h8z : decide ((8 : Int) < (s.size : Int)) = true := decide_eq_true (by omega)
  have hsc : ∀ W : World, (storeCells ⟨W.heap.size, 0, none⟩ (Lib.setCells blankB.data.toList).toList 0).run Tryz.prog (W.alloc (.cells (Array.replicate 256 (.bool false)) 161)) = .ok () (W.alloc (.cells (Lib.setCells blankB.data.toList) 161)) := fun W => by
    have := run_storeCells_new (P := Tryz.prog) W 161 (Array.replicate 256 (.bool false)) (Lib.setCells blankB.data.toList) (by rw [Lib.setCells_size]; exact hz.2) (by rw [Lib.setCells_size, Array.size_replicate]) (Lib.setCells_one _)
    simpa using this
  go_enter Tryz.func94, Tryz.ntmps94
  go_wp2_with (first | (go_at_call 107; refine (Tryz.strings_shouldUseASCIISet _ _).mono ?_; rintro e w' ⟨rfl, hw⟩; rw [hw, h8z]) | (go_at_call 108; refine (hM.out _).mono ?_; rintro e w' ⟨rfl, hw⟩; rw [hw]))
  have h2 := hsc (w.alloc (.cells (Lib.setCells blankB.data.toList) 161))
  rw [show (w.alloc (.cells (Lib.setCells blankB.data.toList) 161)).heap.size = w.heap.size + 1 by simp] at h2
  simp only [Result.andThen, h2]
  rw [Oper.upon_skip]
  clear hsc h2 hM hz hasc
  have HC : Hid (∀ x : UInt8, ((w.alloc (.cells (Lib.setCells blankB.data.toList) 161)).alloc (.cells (Lib.setCells blankB.data.toList) 161)).cell? ⟨w.heap.size + 1, x.toNat, none⟩ = some (.bool (blankB.data.toList.contains x))) := Lib.hid fun x => by
    rw [World.cell?_alloc_at _ _ _ _ (by simp), Lib.setCells_at]
  have hB := Lib.hid (((Below.refl w.heap.size w).alloc (Nat.le_refl _) (.cells (Lib.setCells blankB.data.toList) 161)).alloc (by simp) (.cells (Lib.setCells blankB.data.toList) 161))
  generalize (w.alloc (.cells (Lib.setCells blankB.data.toList) 161)).alloc (.cells (Lib.setCells blankB.data.toList) 161) = W at HC hB ⊢
  go_wp2_with fail
  go_loop [8] (fun v => ∃ i : Nat, i ≤ s.size ∧ v = .int .i64 i ∧ noBl s i) (fun v => s.size - (intOf v).toNat)
  case atStart => exact ⟨0, Nat.zero_le _, rfl, fun q hq => absurd hq (Nat.not_lt_zero q)⟩
  case round =>
    obtain ⟨i, hi, rfl, hno⟩ := hrel
    have HN := Lib.hid hno
    clear hno
    by_cases hlt : i < s.size
    · obtain ⟨b, hb⟩ : ∃ b, s[i]'hlt = b := ⟨_, rfl⟩
      have hcx := HC.out b
      by_cases hin : b = 32 ∨ b = 10
      · have hc : blankB.data.toList.contains b = true := by rcases hin with rfl | rfl <;> decide
        have hy := Lib.hid (hasBlank_yes hlt (by rw [hb]; exact hin))
        rw [hc] at hcx
        have hcon := Lib.hid (fun W2 (h : W2 = W) => Tryz.asciiSet_contains (w.heap.size + 1) b true W2 (by rw [h]; exact hcx))
        clear hcx hin hc
        go_wp2_with (go_at_call 109; refine (hcon.out _ rfl).mono ?_; rintro e w2 ⟨rfl, rfl⟩)
        go_ret
        exact ⟨⟨(i : Int), rfl, by rw [hy.out]; exact decide_eq_true (by omega)⟩, hB.out⟩
      · have hc : blankB.data.toList.contains b = false := by
          show [32, 10].contains b = false
          have h1 : b ≠ 32 := fun h => hin (.inl h)
          have h2 : b ≠ 10 := fun h => hin (.inr h)
          simp [h1, h2]
        have hs := Lib.hid (noBl_succ HN.out hlt (by rw [hb]; exact fun h => hin (.inl h)) (by rw [hb]; exact fun h => hin (.inr h)))
        rw [hc] at hcx
        have hcon := Lib.hid (fun W2 (h : W2 = W) => Tryz.asciiSet_contains (w.heap.size + 1) b false W2 (by rw [h]; exact hcx))
        clear hcx hin hc
        go_wp2_with (go_at_call 109; refine (hcon.out _ rfl).mono ?_; rintro e w2 ⟨rfl, rfl⟩)
        go_round
        case rel => exact ⟨i + 1, by omega, by go_num, hs.out⟩
        case measure => simp [intOf]; omega
    · obtain rfl : i = s.size := by omega
      go_wp2
      go_ret
      exact ⟨⟨-1, rfl, by rw [hasBlank_no HN.out]; rfl⟩, hB.out⟩

theorem containsAny_any (s : ByteArray) (w : World) (hs : s.size ≤ 9223372036854775807) :
    Calls Tryz.prog 79 #[.string s, .string blankB] w fun e w' => e = .returned (.bool (hasBlank s)) ∧ Below w.heap.size w w' := by
  have h : Hid (∀ W, Calls Tryz.prog 94 #[.string s, .string blankB] W fun e w' => (∃ r : Int, e = .returned (.int .i64 r) ∧ decide (0 ≤ r) = hasBlank s) ∧ Below W.heap.size W w') := Lib.hid fun W => by
    by_cases h8 : s.size ≤ 8
    · exact idxAny_short s W h8
    · exact idxAny_long s W (by omega) hs
  go_enter Tryz.func79, Tryz.ntmps79
  go_wp2_with (go_at_call 94; refine (h.out _).mono ?_; rintro e w' ⟨⟨r, rfl, hr⟩, hb⟩)
  go_ret
  exact ⟨by rw [← hr]; rfl, hb⟩
end Go.Proofs.YthngjjeilcfhgaaGreatDoor
