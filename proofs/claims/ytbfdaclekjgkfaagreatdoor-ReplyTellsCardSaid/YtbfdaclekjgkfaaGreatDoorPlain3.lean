import Derived.Test.YtbfdaclekjgkfaaGreatDoorGet2
import Derived.Test.YtbfdaclekjgkfaaGreatDoorPr
import Derived.Test.YtbfdaclekjgkfaaGreatDoorName

/- Plain laws: bytes as numbers and back; what the program's Get works out of bytes. -/
namespace Go.Proofs.YtbfdaclekjgkfaaGreatDoor
open Go.RowKit

def bs (l : List UInt8) : ByteArray := ⟨l.toArray⟩
theorem bs_data (l : List UInt8) : (bs l).data.toList = l := rfl
theorem bs_of (s : ByteArray) : bs s.data.toList = s := rfl
theorem bs_size (l : List UInt8) : (bs l).size = l.length := rfl
theorem bs_extract (l : List UInt8) (a b : Nat) : (bs l).extract a b = bs ((l.drop a).take (b - a)) := by
  have h := Lib.extract_data (bs l) a b
  rw [bs_data] at h
  rw [← h, bs_of]
theorem bs_append (a b : List UInt8) : bs a ++ bs b = bs (a ++ b) := by
  rw [← bs_of (bs a ++ bs b)]
  simp [bs, ByteArray.data_append]
theorem bs_inj {a b : List UInt8} (h : bs a = bs b) : a = b := by rw [← bs_data a, ← bs_data b, h]

/-- The last bytes of a number, the highest first. -/
def pbytes (m : Nat) : Nat → List UInt8
  | 0 => []
  | n + 1 => pbytes (m / 256) n ++ [UInt8.ofNat (m % 256)]
theorem pbytes_length : ∀ (n m : Nat), (pbytes m n).length = n
  | 0, _ => rfl
  | n + 1, m => by simp [pbytes, pbytes_length n]
theorem bigL_pbytes : ∀ (n m : Nat), m < 256 ^ n → bigL (pbytes m n) = m
  | 0, m, h => by simp at h; subst h; rfl
  | n + 1, m, h => by
    rw [pbytes, bigL_snoc, bigL_pbytes n (m / 256) (by rw [Nat.pow_succ] at h; omega)]
    have : (UInt8.ofNat (m % 256)).toNat = m % 256 := by simp
    rw [this]
    omega
theorem pbytes_bigL (l : List UInt8) : pbytes (bigL l) l.length = l := by
  obtain ⟨m, rfl⟩ : ∃ m : List UInt8, l = m.reverse := ⟨l.reverse, by simp⟩
  induction m with
  | nil => rfl
  | cons c m ih =>
    have hc := c.toNat_lt
    rw [List.reverse_cons, bigL_snoc, List.length_append, List.length_singleton, pbytes]
    rw [show (bigL m.reverse * 256 + c.toNat) / 256 = bigL m.reverse from by omega, show (bigL m.reverse * 256 + c.toNat) % 256 = c.toNat from by omega, ih]
    simp
theorem pbytes_range : ∀ (n m : Nat), pbytes m n = (List.range n).map fun j => UInt8.ofNat (m / 256 ^ (n - 1 - j) % 256)
  | 0, _ => rfl
  | n + 1, m => by
    rw [pbytes, pbytes_range n, List.range_succ, List.map_append]
    congr 1
    · apply List.map_congr_left
      intro j hj
      rw [List.mem_range] at hj
      rw [Nat.div_div_eq_div_mul, show 256 * 256 ^ (n - 1 - j) = 256 ^ (n + 1 - 1 - j) from by rw [← Nat.pow_succ']; congr 1; omega]
    · simp
theorem pcells_bs (x : Int) (n : Nat) (hx : 0 ≤ x) : strOfNums (pcells x n n) = bs (pbytes x.toNat n) := by
  rw [← bs_of (strOfNums _), strOfNums_data, pbytes_range]
  congr 1
  unfold pcells
  rw [List.map_map]
  apply List.map_congr_left
  intro j hj
  rw [List.mem_range] at hj
  show UInt8.ofNat (if n ≤ j + n then pbyte x (n - 1 - j) else 0).toNat = _
  rw [if_pos (by omega)]
  unfold pbyte
  obtain ⟨m, rfl⟩ := Int.eq_ofNat_of_zero_le hx
  rw [Int.toNat_natCast, show ((2 : Int) ^ (8 * (n - 1 - j))) = ((256 ^ (n - 1 - j) : Nat) : Int) from by rw [Int.pow_mul]; simp]
  congr 1
theorem oneB_bs (x : Int) : oneB x = bs [UInt8.ofNat x.toNat] := by
  unfold oneB
  rw [← bs_of (strOfNums _), strOfNums_data]
  rfl

/-! ### What 'take' and 'number' do on lists -/
theorem take_out (l : List UInt8) (n : Nat) (h : n ≤ l.length) : takeOut (bs l) false n = bs (l.take n) := by
  unfold takeOut
  rw [if_pos (takeOk_yes (by rw [bs_size]; omega)), bs_extract]
  simp
theorem take_left (l : List UInt8) (n : Nat) (h : n ≤ l.length) : takeLeft (bs l) false n = bs (l.drop n) := by
  unfold takeLeft
  rw [if_pos (takeOk_yes (by rw [bs_size]; omega)), bs_extract, bs_size, Int.toNat_natCast]
  rw [List.take_of_length_le (by rw [List.length_drop]; exact Nat.le_refl _)]
theorem take_good (l : List UInt8) (n : Nat) (h : n ≤ l.length) : takeBad (bs l) false n = false := by
  unfold takeBad
  rw [takeOk_yes (by rw [bs_size]; omega)]
  rfl
theorem take_bad (l : List UInt8) (n : Nat) (h : l.length < n) : takeBad (bs l) false n = true := by
  unfold takeBad
  rw [takeOk_no (by rw [bs_size]; omega)]
  rfl
theorem take_bad2 (b : ByteArray) (n : Int) : takeBad b true n = true := by simp [takeBad, takeOk]
theorem num_out (l : List UInt8) (n : Nat) (h : n ≤ l.length) (h8 : n ≤ 8) : numV (bs l) false n = wrap64 (bigL (l.take n) : Nat) := by
  unfold numV
  rw [take_out l n h, bs_data, bs_size, List.length_take, show min n l.length - 8 = 0 from by omega, List.drop_zero]

/-- Bytes that are too short are none. -/
theorem got_short (l : List UInt8) (h : l.length < 18) : (got (bs l)).bad = true := by
  unfold got
  dsimp only
  by_cases h1 : 1 ≤ l.length
  rotate_left
  · rw [show takeBad (bs l) false 1 = true from take_bad l 1 (by omega)]
    simp only [take_bad2]
  rw [show takeBad (bs l) false 1 = false from take_good l 1 h1, show takeLeft (bs l) false 1 = bs (l.drop 1) from take_left l 1 h1]
  by_cases h2 : 8 ≤ (l.drop 1).length
  rotate_left
  · rw [show takeBad (bs (l.drop 1)) false 8 = true from take_bad _ 8 (by omega)]
    simp only [take_bad2]
  rw [show takeBad (bs (l.drop 1)) false 8 = false from take_good _ 8 h2, show takeLeft (bs (l.drop 1)) false 8 = bs ((l.drop 1).drop 8) from take_left _ 8 h2]
  by_cases h3 : 8 ≤ ((l.drop 1).drop 8).length
  rotate_left
  · rw [show takeBad (bs ((l.drop 1).drop 8)) false 8 = true from take_bad _ 8 (by omega)]
    simp only [take_bad2]
  rw [show takeBad (bs ((l.drop 1).drop 8)) false 8 = false from take_good _ 8 h3, show takeLeft (bs ((l.drop 1).drop 8)) false 8 = bs (((l.drop 1).drop 8).drop 8) from take_left _ 8 h3]
  rw [show takeBad (bs (((l.drop 1).drop 8).drop 8)) false 1 = true from take_bad _ 1 (by simp at h2 h3 ⊢; omega)]
  simp only [take_bad2]

theorem wrap_small (n : Nat) (h : n < 9223372036854775808) : wrap64 (n : Int) = n := by unfold wrap64; omega

/-- Bytes of the right form: a byte, two numbers, a length, and the rest. -/
theorem got_long (x0 : UInt8) (p q : List UInt8) (k0 : UInt8) (r : List UInt8) (hp : p.length = 8) (hq : q.length = 8) :
    ((r.length < k0.toNat → (got (bs (x0 :: (p ++ (q ++ k0 :: r))))).bad = true)) ∧
    (k0.toNat ≤ r.length → got (bs (x0 :: (p ++ (q ++ k0 :: r)))) = ⟨x0.toNat, bs (r.take k0.toNat), bs (r.drop k0.toNat), wrap64 (wrap64 (bigL p : Nat) - 1000000000000), wrap64 (bigL q : Nat), false⟩) := by
  have hx := x0.toNat_lt
  have hk := k0.toNat_lt
  have a1 : takeLeft (bs (x0 :: (p ++ (q ++ k0 :: r)))) false 1 = bs (p ++ (q ++ k0 :: r)) := take_left _ 1 (by simp)
  have a2 : takeBad (bs (x0 :: (p ++ (q ++ k0 :: r)))) false 1 = false := take_good _ 1 (by simp)
  have a3 : numV (bs (x0 :: (p ++ (q ++ k0 :: r)))) false 1 = x0.toNat := (num_out _ 1 (by simp) (by omega)).trans (by simp [bigL]; exact wrap_small _ (by omega))
  have b1 : takeLeft (bs (p ++ (q ++ k0 :: r))) false 8 = bs (q ++ k0 :: r) := (take_left _ 8 (by simp; omega)).trans (by rw [List.drop_append_of_le_length (by omega), List.drop_of_length_le (by omega), List.nil_append])
  have b2 : takeBad (bs (p ++ (q ++ k0 :: r))) false 8 = false := take_good _ 8 (by simp; omega)
  have b3 : numV (bs (p ++ (q ++ k0 :: r))) false 8 = wrap64 (bigL p : Nat) := (num_out _ 8 (by simp; omega) (by omega)).trans (by rw [List.take_append_of_le_length (by omega), List.take_of_length_le (by omega)])
  have c1 : takeLeft (bs (q ++ k0 :: r)) false 8 = bs (k0 :: r) := (take_left _ 8 (by simp; omega)).trans (by rw [List.drop_append_of_le_length (by omega), List.drop_of_length_le (by omega), List.nil_append])
  have c2 : takeBad (bs (q ++ k0 :: r)) false 8 = false := take_good _ 8 (by simp; omega)
  have c3 : numV (bs (q ++ k0 :: r)) false 8 = wrap64 (bigL q : Nat) := (num_out _ 8 (by simp; omega) (by omega)).trans (by rw [List.take_append_of_le_length (by omega), List.take_of_length_le (by omega)])
  have d1 : takeLeft (bs (k0 :: r)) false 1 = bs r := take_left _ 1 (by simp)
  have d2 : takeBad (bs (k0 :: r)) false 1 = false := take_good _ 1 (by simp)
  have d3 : numV (bs (k0 :: r)) false 1 = (k0.toNat : Nat) := (num_out _ 1 (by simp) (by omega)).trans (by simp [bigL]; exact wrap_small _ (by omega))
  unfold got
  dsimp only
  rw [a1, a2, a3, b1, b2, b3, c1, c2, c3, d1, d2, d3]
  constructor
  · intro h
    rw [take_bad r _ h]
    exact take_bad2 _ _
  · intro h
    rw [take_left r _ h, take_good r _ h, take_out r _ h]
    rw [show takeOut (bs (r.drop k0.toNat)) false ((bs (r.drop k0.toNat)).size : Nat) = bs (r.drop k0.toNat) from (take_out _ _ (by rw [bs_size]; exact Nat.le_refl _)).trans (by rw [bs_size, List.take_of_length_le (Nat.le_refl _)])]
    rw [show takeBad (bs (r.drop k0.toNat)) false ((bs (r.drop k0.toNat)).size : Nat) = false from take_good _ _ (by rw [bs_size]; exact Nat.le_refl _)]
end Go.Proofs.YtbfdaclekjgkfaaGreatDoor

/- Plain laws: a command that is put is got again; the program's Get and the reference's are one. -/
namespace Go.Proofs.YtbfdaclekjgkfaaGreatDoor
open Go.RowKit Go.Proofs.YtbfdaclekjgkfaaGreatDoorW.PrintWords Go.Proofs.YtbfdaclekjgkfaaGreatDoorW.PrintLast

/-- A command as bytes, on lists. -/
def putL (op : Int) (k v : ByteArray) (a b : Int) : List UInt8 :=
  UInt8.ofNat (op % 256).toNat :: (pbytes (a + 1000000000000).toNat 8 ++ (pbytes b.toNat 8 ++ UInt8.ofNat ((k.size : Int) % 256).toNat :: (k.data.toList ++ v.data.toList)))
theorem putB_bs (op : Int) (k v : ByteArray) (a b : Int) (ha : -1000000000000 ≤ a) (hb : 0 ≤ b) : putB op k v a b = bs (putL op k v a b) := by
  unfold putB pairB shortB putL
  rw [pcells_bs _ _ (by omega), pcells_bs _ _ hb, oneB_bs, oneB_bs, ← bs_of k, ← bs_of v]
  simp only [bs_append, bs_data]
  congr 1
theorem ofNat_toNat_mod (x : Int) (h0 : 0 ≤ x) (h1 : x < 256) : (UInt8.ofNat (x % 256).toNat).toNat = x.toNat := by
  simp
  omega

theorem small8 (m : Nat) (h : m ≤ 2000000000000) : m < 256 ^ 8 := Nat.lt_of_le_of_lt h (by decide)
/-- What is put is got again. -/
theorem got_put (op : Int) (k v : ByteArray) (a b : Int) (h : RightP op k.size v.size a b) : got (bs (putL op k v a b)) = ⟨op, k, v, a, b, false⟩ := by
  obtain ⟨h1, h2, hk, hv, hn1, hn2, hn3, hn4⟩ := h
  have hks : k.size ≤ 60 := by unfold KeyP at hk; omega
  have e1 : (UInt8.ofNat (op % 256).toNat).toNat = op.toNat := ofNat_toNat_mod op (by omega) (by omega)
  have e2 : (UInt8.ofNat ((k.size : Int) % 256).toNat).toNat = k.size := (ofNat_toNat_mod _ (by omega) (by omega)).trans (by simp)
  have hkl : k.data.toList.length = k.size := (Lib.size_eq k).symm
  have g := (got_long (UInt8.ofNat (op % 256).toNat) (pbytes (a + 1000000000000).toNat 8) (pbytes b.toNat 8) (UInt8.ofNat ((k.size : Int) % 256).toNat) (k.data.toList ++ v.data.toList) (pbytes_length _ _) (pbytes_length _ _)).2 (by rw [e2, List.length_append, hkl]; omega)
  unfold putL
  rw [g, e1, e2, bigL_pbytes 8 _ (small8 _ (by omega)), bigL_pbytes 8 _ (small8 _ (by omega))]
  rw [List.take_append_of_le_length (by omega), List.take_of_length_le (by omega), List.drop_append_of_le_length (by omega), List.drop_of_length_le (by omega), List.nil_append, bs_of, bs_of]
  have w1 : wrap64 ((a + 1000000000000).toNat : Nat) = a + 1000000000000 := by unfold wrap64; omega
  have w2 : wrap64 (b.toNat : Nat) = b := by unfold wrap64; omega
  rw [w1, w2]
  have w3 : wrap64 (a + 1000000000000 - 1000000000000) = a := by unfold wrap64; omega
  rw [w3, Int.toNat_of_nonneg (by omega)]

theorem putS_yes {op : Int} {k v : ByteArray} {a b : Int} (h : RightP op k.size v.size a b) : putS op k v a b = bs (putL op k v a b) := by
  unfold putS
  rw [if_pos (rightB_true h)]
  exact putB_bs op k v a b h.2.2.2.2.1 h.2.2.2.2.2.2.1
theorem gotOk_put {op : Int} {k v : ByteArray} {a b : Int} (h : RightP op k.size v.size a b) : gotOk (putS op k v a b) = true := by
  have hg := got_put op k v a b h
  rw [← putS_yes h] at hg
  rw [gotOk_of hg, rightB_true h]
  simp
theorem gotOk_nil : gotOk ⟨#[]⟩ = false := by
  have : (got ⟨#[]⟩).bad = true := got_short [] (by simp)
  unfold gotOk
  rw [this]
  rfl

/-- Bytes of at least eighteen, cut. -/
theorem cut18 (l : List UInt8) (h : 18 ≤ l.length) : ∃ x0 p q k0 r, l = x0 :: (p ++ (q ++ k0 :: r)) ∧ p.length = 8 ∧ q.length = 8 := by
  match l, h with
  | x0 :: t, h =>
    simp at h
    refine ⟨x0, t.take 8, (t.drop 8).take 8, (t.drop 16).headD 0, (t.drop 16).tail, ?_, by simp; omega, by simp; omega⟩
    have h1 : t.drop 16 ≠ [] := by intro hn; have := congrArg List.length hn; simp at this; omega
    have h2 : (t.drop 16).headD 0 :: (t.drop 16).tail = t.drop 16 := by
      cases hh : t.drop 16 with
      | nil => exact absurd hh h1
      | cons y ys => rfl
    rw [h2]
    have h3 : (t.drop 8).take 8 ++ t.drop 16 = t.drop 8 := by
      rw [show t.drop 16 = (t.drop 8).drop 8 from by rw [List.drop_drop], List.take_append_drop]
    rw [h3, List.take_append_drop]

/-- The same answer, by what the bytes are. -/
def goodL (x0 : UInt8) (p q : List UInt8) (k0 : UInt8) (r : List UInt8) : Prop :=
  k0.toNat ≤ r.length ∧ bigL p ≤ 2000000000000 ∧ bigL q ≤ 1000000000000 ∧ RightP x0.toNat k0.toNat (r.length - k0.toNat) ((bigL p : Int) - 1000000000000) (bigL q)
theorem wrap_num (n : Nat) (hn : n < 18446744073709551616) (h1 : -1000000000000 ≤ wrap64 (wrap64 (n : Int) - 1000000000000)) (h2 : wrap64 (wrap64 (n : Int) - 1000000000000) ≤ 1000000000000) :
    n ≤ 2000000000000 ∧ wrap64 (wrap64 (n : Int) - 1000000000000) = (n : Int) - 1000000000000 := by
  unfold wrap64 at h1 h2 ⊢
  omega
theorem wrap_ver (n : Nat) (hn : n < 18446744073709551616) (h1 : 0 ≤ wrap64 (n : Int)) (h2 : wrap64 (n : Int) ≤ 1000000000000) : n ≤ 1000000000000 ∧ wrap64 (n : Int) = (n : Int) := by
  unfold wrap64 at h1 h2 ⊢
  omega
theorem wrap_num' (n : Nat) (h : n ≤ 2000000000000) : wrap64 (wrap64 (n : Int) - 1000000000000) = (n : Int) - 1000000000000 := by
  unfold wrap64
  omega
theorem bigL8 (p : List UInt8) (hp : p.length = 8) : bigL p < 18446744073709551616 := by
  have h := bigL_lt p
  rw [hp] at h
  exact h
theorem sub_add_toNat (n : Nat) : ((n : Int) - 1000000000000 + 1000000000000).toNat = n := by omega
theorem gotOk_iff (x0 : UInt8) (p q : List UInt8) (k0 : UInt8) (r : List UInt8) (hp : p.length = 8) (hq : q.length = 8) :
    gotOk (bs (x0 :: (p ++ (q ++ k0 :: r)))) = true ↔ goodL x0 p q k0 r := by
  obtain ⟨g1, g2⟩ := got_long x0 p q k0 r hp hq
  have hx := x0.toNat_lt
  have hk := k0.toNat_lt
  have hpl := bigL8 p hp
  have hql := bigL8 q hq
  by_cases hkr : k0.toNat ≤ r.length
  · have hg := g2 hkr
    have s1 : (bs (r.take k0.toNat)).size = k0.toNat := by rw [bs_size, List.length_take]; omega
    have s2 : (bs (r.drop k0.toNat)).size = r.length - k0.toNat := by rw [bs_size, List.length_drop]
    rw [gotOk_of hg, s1, s2]
    constructor
    · intro h
      simp only [Bool.not_false, Bool.true_and, Bool.and_eq_true] at h
      have hr := of_decide_eq_true h.1
      obtain ⟨r1, r2, r3, r4, n1, n2, n3, n4⟩ := hr
      have e1 := wrap_num (bigL p) hpl n1 n2
      have e2 := wrap_ver (bigL q) hql n3 n4
      rw [e1.2] at n1 n2
      rw [e2.2] at n3 n4
      exact ⟨hkr, e1.1, e2.1, r1, r2, r3, r4, n1, n2, n3, n4⟩
    · rintro ⟨-, b1, b2, hr⟩
      have w1 : wrap64 (wrap64 (bigL p : Nat) - 1000000000000) = (bigL p : Int) - 1000000000000 := wrap_num' _ b1
      have w2 : wrap64 (bigL q : Nat) = (bigL q : Int) := wrap_small _ (by omega)
      rw [w1, w2]
      have hR : RightP (x0.toNat : Int) (bs (r.take k0.toNat)).size (bs (r.drop k0.toNat)).size ((bigL p : Int) - 1000000000000) (bigL q) := by rw [s1, s2]; exact hr
      rw [rightB_true hr, putS_yes hR]
      have : putL (x0.toNat : Int) (bs (r.take k0.toNat)) (bs (r.drop k0.toNat)) ((bigL p : Int) - 1000000000000) (bigL q) = x0 :: (p ++ (q ++ k0 :: r)) := by
        unfold putL
        rw [s1]
        have f1 : UInt8.ofNat ((x0.toNat : Int) % 256).toNat = x0 := by
          rw [show ((x0.toNat : Int) % 256).toNat = x0.toNat from by omega]; simp
        have f2 : UInt8.ofNat ((k0.toNat : Int) % 256).toNat = k0 := by
          rw [show ((k0.toNat : Int) % 256).toNat = k0.toNat from by omega]; simp
        rw [f1, f2, sub_add_toNat, Int.toNat_natCast]
        have g1 := pbytes_bigL p
        have g2 := pbytes_bigL q
        rw [hp] at g1
        rw [hq] at g2
        rw [g1, g2, bs_data, bs_data, List.take_append_drop]
      rw [this]
      simp
  · have hb := g1 (by omega)
    constructor
    · intro h
      unfold gotOk at h
      rw [hb] at h
      cases h
    · rintro ⟨h, -⟩
      exact absurd h hkr
end Go.Proofs.YtbfdaclekjgkfaaGreatDoor

/- Plain laws: the reference's Put, Get and Name are the program's. -/
namespace Go.Proofs.YtbfdaclekjgkfaaGreatDoor
open Go.RowKit Go.Proofs.YtbfdaclekjgkfaaGreatDoorW.PrintWords Go.Proofs.YtbfdaclekjgkfaaGreatDoorW.PrintLast Go.Proofs.YtbfdaclekjgkfaaGreatDoorW.PrintMore

/-- What either Get answers. -/
def gotR (s : ByteArray) : Int × ByteArray × ByteArray × Int × Int × Bool :=
  if gotOk s then ((got s).op, (got s).k, (got s).v, (got s).a, (got s).b, true) else (0, ⟨#[]⟩, ⟨#[]⟩, 0, 0, false)

theorem bt_bs (l : List UInt8) (i : Nat) (h : i < l.length) : bt (bs l) (i : Int) = (l[i].toNat : Int) := by
  unfold bt
  rw [dif_pos (show (i : Int).toNat < (bs l).size from by rw [bs_size]; omega)]
  rfl
theorem rbig_bs (l : List UInt8) (h : l.length = 8) : escutcheonref1_Big.f (bs l) = some ((bigL l : Nat) : Int) := by
  unfold escutcheonref1_Big.f
  rw [bs_size, if_pos (by omega), bs_data, h]
  rfl

def zeroR : Int × ByteArray × ByteArray × Int × Int × Bool := (0, ⟨#[]⟩, ⟨#[]⟩, 0, 0, false)
theorem f_wk2 (kn : Nat) (h : kn < 256) : wrap64 (18 + (kn : Int)) = 18 + (kn : Int) := by unfold wrap64; omega
theorem f_e18 (kn : Nat) : (18 + (kn : Int)).toNat = 18 + kn := by omega
theorem f_c1 (kn : Nat) : 18 ≤ 18 + (kn : Int) := by omega
theorem f_c2 (kn rl : Nat) (h : kn ≤ rl) : 18 + (kn : Int) ≤ ((18 + rl : Nat) : Int) := by omega
theorem f_c3 (kn : Nat) : 0 ≤ 18 + (kn : Int) := by omega
theorem f_c4 (rl : Nat) : 17 < ((18 + rl : Nat) : Int) := by omega
theorem f_c5 (rl : Nat) : 0 < ((18 + rl : Nat) : Int) := by omega
theorem f_d1 (rl : Nat) : ¬ ((18 + rl : Nat) : Int) < 18 := by omega
theorem f_d3 (rl : Nat) : 9 ≤ ((18 + rl : Nat) : Int) := by omega
theorem f_d4 (rl : Nat) : 17 ≤ ((18 + rl : Nat) : Int) := by omega
theorem f_lt (kn rl : Nat) (h : ¬ kn ≤ rl) : ((18 + rl : Nat) : Int) < 18 + (kn : Int) := by omega
theorem f_nlt (kn rl : Nat) (h : kn ≤ rl) : ¬ ((18 + rl : Nat) : Int) < 18 + (kn : Int) := by omega
theorem f_big2 (n : Nat) (h : ¬ n ≤ 2000000000000) : (n : Int) > 2000000000000 := by omega
theorem f_nbig2 (n : Nat) (h : n ≤ 2000000000000) : ¬ (n : Int) > 2000000000000 := by omega
theorem f_big1 (n : Nat) (h : ¬ n ≤ 1000000000000) : (n : Int) > 1000000000000 := by omega
theorem f_nbig1 (n : Nat) (h : n ≤ 1000000000000) : ¬ (n : Int) > 1000000000000 := by omega
theorem f_63 (n : Nat) (h : n ≤ 2000000000000) : n < 9223372036854775808 := by omega
theorem f_8 (n : Nat) (h : n < 256) : n < 9223372036854775808 := by omega
theorem f_12 (n : Nat) (h : n ≤ 1000000000000) : n ≤ 2000000000000 := by omega
/-- The reference's names. -/
theorem names_eq : ([⟨#[]⟩, ⟨#[103, 101, 116]⟩, ⟨#[115, 101, 116]⟩, ⟨#[97, 100, 100]⟩, ⟨#[114, 101, 112, 108, 97, 99, 101]⟩, ⟨#[100, 101, 108]⟩, ⟨#[99, 97, 115]⟩, ⟨#[105, 110, 99, 114]⟩, ⟨#[97, 112, 112, 101, 110, 100]⟩, ⟨#[116, 111, 117, 99, 104]⟩, ⟨#[116, 116, 108]⟩, ⟨#[115, 99, 97, 110]⟩, ⟨#[102, 108, 117, 115, 104]⟩, ⟨#[115, 116, 97, 116, 115]⟩] : List ByteArray) = ((([] : List UInt8) :: Lib.fields nameText.data.toList).map fun x => (⟨x.toArray⟩ : ByteArray)) := by decide +kernel
theorem nameOf_zero : nameOf 0 = ⟨#[]⟩ := by decide +kernel
end Go.Proofs.YtbfdaclekjgkfaaGreatDoor
