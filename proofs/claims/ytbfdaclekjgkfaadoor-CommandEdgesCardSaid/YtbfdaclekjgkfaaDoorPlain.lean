/- Plain laws: bytes as numbers and back; what the program's Get works out of bytes. -/
import Derived.Test.YtbfdaclekjgkfaaDoorGet2
namespace Go.Proofs.YtbfdaclekjgkfaaDoor
open Go.RowKit

def bs (l : List UInt8) : ByteArray := ⟨l.toArray⟩
theorem bs_data (l : List UInt8) : (bs l).data.toList = l := rfl
theorem bs_of (s : ByteArray) : bs s.data.toList = s := rfl
theorem bs_size (l : List UInt8) : (bs l).size = l.length := rfl
theorem bs_extract (l : List UInt8) (a b : Nat) : (bs l).extract a b = bs ((l.drop a).take (b - a)) := by
  have h := Lib.extract_data (bs l) a b
  rw [bs_data] at h
  rw [← h, bs_of]
theorem bs_append (a b : List UInt8) : bs a ++ bs b = bs (a ++ b) := by
  rw [← bs_of (bs a ++ bs b)]
  simp [bs, ByteArray.data_append]
theorem bs_inj {a b : List UInt8} (h : bs a = bs b) : a = b := by rw [← bs_data a, ← bs_data b, h]

/-- The last bytes of a number, the highest first. -/
def pbytes (m : Nat) : Nat → List UInt8
  | 0 => []
  | n + 1 => pbytes (m / 256) n ++ [UInt8.ofNat (m % 256)]
theorem pbytes_length : ∀ (n m : Nat), (pbytes m n).length = n
  | 0, _ => rfl
  | n + 1, m => by simp [pbytes, pbytes_length n]
theorem bigL_pbytes : ∀ (n m : Nat), m < 256 ^ n → bigL (pbytes m n) = m
  | 0, m, h => by simp at h; subst h; rfl
  | n + 1, m, h => by
    rw [pbytes, bigL_snoc, bigL_pbytes n (m / 256) (by rw [Nat.pow_succ] at h; omega)]
    have : (UInt8.ofNat (m % 256)).toNat = m % 256 := by simp
    rw [this]
    omega
theorem pbytes_bigL (l : List UInt8) : pbytes (bigL l) l.length = l := by
  obtain ⟨m, rfl⟩ : ∃ m : List UInt8, l = m.reverse := ⟨l.reverse, by simp⟩
  induction m with
  | nil => rfl
  | cons c m ih =>
    have hc := c.toNat_lt
    rw [List.reverse_cons, bigL_snoc, List.length_append, List.length_singleton, pbytes]
    rw [show (bigL m.reverse * 256 + c.toNat) / 256 = bigL m.reverse from by omega, show (bigL m.reverse * 256 + c.toNat) % 256 = c.toNat from by omega, ih]
    simp
theorem pbytes_range : ∀ (n m : Nat), pbytes m n = (List.range n).map fun j => UInt8.ofNat (m / 256 ^ (n - 1 - j) % 256)
  | 0, _ => rfl
  | n + 1, m => by
    rw [pbytes, pbytes_range n, List.range_succ, List.map_append]
    congr 1
    · apply List.map_congr_left
      intro j hj
      rw [List.mem_range] at hj
      rw [Nat.div_div_eq_div_mul, show 256 * 256 ^ (n - 1 - j) = 256 ^ (n + 1 - 1 - j) from by rw [← Nat.pow_succ']; congr 1; omega]
    · simp
theorem pcells_bs (x : Int) (n : Nat) (hx : 0 ≤ x) : strOfNums (pcells x n n) = bs (pbytes x.toNat n) := by
  rw [← bs_of (strOfNums _), strOfNums_data, pbytes_range]
  congr 1
  unfold pcells
  rw [List.map_map]
  apply List.map_congr_left
  intro j hj
  rw [List.mem_range] at hj
  show UInt8.ofNat (if n ≤ j + n then pbyte x (n - 1 - j) else 0).toNat = _
  rw [if_pos (by omega)]
  unfold pbyte
  obtain ⟨m, rfl⟩ := Int.eq_ofNat_of_zero_le hx
  rw [Int.toNat_natCast, show ((2 : Int) ^ (8 * (n - 1 - j))) = ((256 ^ (n - 1 - j) : Nat) : Int) from by rw [Int.pow_mul]; simp]
  congr 1
theorem oneB_bs (x : Int) : oneB x = bs [UInt8.ofNat x.toNat] := by
  unfold oneB
  rw [← bs_of (strOfNums _), strOfNums_data]
  rfl

/-! ### What 'take' and 'number' do on lists -/
theorem take_out (l : List UInt8) (n : Nat) (h : n ≤ l.length) : takeOut (bs l) false n = bs (l.take n) := by
  unfold takeOut
  rw [if_pos (takeOk_yes (by rw [bs_size]; omega)), bs_extract]
  simp
theorem take_left (l : List UInt8) (n : Nat) (h : n ≤ l.length) : takeLeft (bs l) false n = bs (l.drop n) := by
  unfold takeLeft
  rw [if_pos (takeOk_yes (by rw [bs_size]; omega)), bs_extract, bs_size, Int.toNat_natCast]
  rw [List.take_of_length_le (by rw [List.length_drop]; exact Nat.le_refl _)]
theorem take_good (l : List UInt8) (n : Nat) (h : n ≤ l.length) : takeBad (bs l) false n = false := by
  unfold takeBad
  rw [takeOk_yes (by rw [bs_size]; omega)]
  rfl
theorem take_bad (l : List UInt8) (n : Nat) (h : l.length < n) : takeBad (bs l) false n = true := by
  unfold takeBad
  rw [takeOk_no (by rw [bs_size]; omega)]
  rfl
theorem take_bad2 (b : ByteArray) (n : Int) : takeBad b true n = true := by simp [takeBad, takeOk]
theorem num_out (l : List UInt8) (n : Nat) (h : n ≤ l.length) (h8 : n ≤ 8) : numV (bs l) false n = wrap64 (bigL (l.take n) : Nat) := by
  unfold numV
  rw [take_out l n h, bs_data, bs_size, List.length_take, show min n l.length - 8 = 0 from by omega, List.drop_zero]

/-- Bytes that are too short are none. -/
theorem got_short (l : List UInt8) (h : l.length < 18) : (got (bs l)).bad = true := by
  unfold got
  dsimp only
  by_cases h1 : 1 ≤ l.length
  rotate_left
  · rw [show takeBad (bs l) false 1 = true from take_bad l 1 (by omega)]
    simp only [take_bad2]
  rw [show takeBad (bs l) false 1 = false from take_good l 1 h1, show takeLeft (bs l) false 1 = bs (l.drop 1) from take_left l 1 h1]
  by_cases h2 : 8 ≤ (l.drop 1).length
  rotate_left
  · rw [show takeBad (bs (l.drop 1)) false 8 = true from take_bad _ 8 (by omega)]
    simp only [take_bad2]
  rw [show takeBad (bs (l.drop 1)) false 8 = false from take_good _ 8 h2, show takeLeft (bs (l.drop 1)) false 8 = bs ((l.drop 1).drop 8) from take_left _ 8 h2]
  by_cases h3 : 8 ≤ ((l.drop 1).drop 8).length
  rotate_left
  · rw [show takeBad (bs ((l.drop 1).drop 8)) false 8 = true from take_bad _ 8 (by omega)]
    simp only [take_bad2]
  rw [show takeBad (bs ((l.drop 1).drop 8)) false 8 = false from take_good _ 8 h3, show takeLeft (bs ((l.drop 1).drop 8)) false 8 = bs (((l.drop 1).drop 8).drop 8) from take_left _ 8 h3]
  rw [show takeBad (bs (((l.drop 1).drop 8).drop 8)) false 1 = true from take_bad _ 1 (by simp at h2 h3 ⊢; omega)]
  simp only [take_bad2]

theorem wrap_small (n : Nat) (h : n < 9223372036854775808) : wrap64 (n : Int) = n := by unfold wrap64; omega

/-- Bytes of the right form: a byte, two numbers, a length, and the rest. -/
theorem got_long (x0 : UInt8) (p q : List UInt8) (k0 : UInt8) (r : List UInt8) (hp : p.length = 8) (hq : q.length = 8) :
    ((r.length < k0.toNat → (got (bs (x0 :: (p ++ (q ++ k0 :: r))))).bad = true)) ∧
    (k0.toNat ≤ r.length → got (bs (x0 :: (p ++ (q ++ k0 :: r)))) = ⟨x0.toNat, bs (r.take k0.toNat), bs (r.drop k0.toNat), wrap64 (wrap64 (bigL p : Nat) - 1000000000000), wrap64 (bigL q : Nat), false⟩) := by
  have hx := x0.toNat_lt
  have hk := k0.toNat_lt
  have a1 : takeLeft (bs (x0 :: (p ++ (q ++ k0 :: r)))) false 1 = bs (p ++ (q ++ k0 :: r)) := take_left _ 1 (by simp)
  have a2 : takeBad (bs (x0 :: (p ++ (q ++ k0 :: r)))) false 1 = false := take_good _ 1 (by simp)
  have a3 : numV (bs (x0 :: (p ++ (q ++ k0 :: r)))) false 1 = x0.toNat := (num_out _ 1 (by simp) (by omega)).trans (by simp [bigL]; exact wrap_small _ (by omega))
  have b1 : takeLeft (bs (p ++ (q ++ k0 :: r))) false 8 = bs (q ++ k0 :: r) := (take_left _ 8 (by simp; omega)).trans (by rw [List.drop_append_of_le_length (by omega), List.drop_of_length_le (by omega), List.nil_append])
  have b2 : takeBad (bs (p ++ (q ++ k0 :: r))) false 8 = false := take_good _ 8 (by simp; omega)
  have b3 : numV (bs (p ++ (q ++ k0 :: r))) false 8 = wrap64 (bigL p : Nat) := (num_out _ 8 (by simp; omega) (by omega)).trans (by rw [List.take_append_of_le_length (by omega), List.take_of_length_le (by omega)])
  have c1 : takeLeft (bs (q ++ k0 :: r)) false 8 = bs (k0 :: r) := (take_left _ 8 (by simp; omega)).trans (by rw [List.drop_append_of_le_length (by omega), List.drop_of_length_le (by omega), List.nil_append])
  have c2 : takeBad (bs (q ++ k0 :: r)) false 8 = false := take_good _ 8 (by simp; omega)
  have c3 : numV (bs (q ++ k0 :: r)) false 8 = wrap64 (bigL q : Nat) := (num_out _ 8 (by simp; omega) (by omega)).trans (by rw [List.take_append_of_le_length (by omega), List.take_of_length_le (by omega)])
  have d1 : takeLeft (bs (k0 :: r)) false 1 = bs r := take_left _ 1 (by simp)
  have d2 : takeBad (bs (k0 :: r)) false 1 = false := take_good _ 1 (by simp)
  have d3 : numV (bs (k0 :: r)) false 1 = (k0.toNat : Nat) := (num_out _ 1 (by simp) (by omega)).trans (by simp [bigL]; exact wrap_small _ (by omega))
  unfold got
  dsimp only
  rw [a1, a2, a3, b1, b2, b3, c1, c2, c3, d1, d2, d3]
  constructor
  · intro h
    rw [take_bad r _ h]
    exact take_bad2 _ _
  · intro h
    rw [take_left r _ h, take_good r _ h, take_out r _ h]
    rw [show takeOut (bs (r.drop k0.toNat)) false ((bs (r.drop k0.toNat)).size : Nat) = bs (r.drop k0.toNat) from (take_out _ _ (by rw [bs_size]; exact Nat.le_refl _)).trans (by rw [bs_size, List.take_of_length_le (Nat.le_refl _)])]
    rw [show takeBad (bs (r.drop k0.toNat)) false ((bs (r.drop k0.toNat)).size : Nat) = false from take_good _ _ (by rw [bs_size]; exact Nat.le_refl _)]
end Go.Proofs.YtbfdaclekjgkfaaDoor
