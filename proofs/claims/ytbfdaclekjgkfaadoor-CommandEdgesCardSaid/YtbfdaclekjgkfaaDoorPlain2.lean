/- Plain laws: a command that is put is got again; the program's Get and the reference's are one. -/
import Derived.Test.YtbfdaclekjgkfaaDoorPlain
import Derived.Test.YtbfdaclekjgkfaaDoorPr
namespace Go.Proofs.YtbfdaclekjgkfaaDoor
open Go.RowKit Go.Proofs.YtbfdaclekjgkfaaDoorW.PrintWords Go.Proofs.YtbfdaclekjgkfaaDoorW.PrintLast

/-- A command as bytes, on lists. -/
def putL (op : Int) (k v : ByteArray) (a b : Int) : List UInt8 :=
  UInt8.ofNat (op % 256).toNat :: (pbytes (a + 1000000000000).toNat 8 ++ (pbytes b.toNat 8 ++ UInt8.ofNat ((k.size : Int) % 256).toNat :: (k.data.toList ++ v.data.toList)))
theorem putB_bs (op : Int) (k v : ByteArray) (a b : Int) (ha : -1000000000000 ≤ a) (hb : 0 ≤ b) : putB op k v a b = bs (putL op k v a b) := by
  unfold putB pairB shortB putL
  rw [pcells_bs _ _ (by omega), pcells_bs _ _ hb, oneB_bs, oneB_bs, ← bs_of k, ← bs_of v]
  simp only [bs_append, bs_data]
  congr 1
theorem ofNat_toNat_mod (x : Int) (h0 : 0 ≤ x) (h1 : x < 256) : (UInt8.ofNat (x % 256).toNat).toNat = x.toNat := by
  simp
  omega

theorem small8 (m : Nat) (h : m ≤ 2000000000000) : m < 256 ^ 8 := Nat.lt_of_le_of_lt h (by decide)
/-- What is put is got again. -/
theorem got_put (op : Int) (k v : ByteArray) (a b : Int) (h : RightP op k.size v.size a b) : got (bs (putL op k v a b)) = ⟨op, k, v, a, b, false⟩ := by
  obtain ⟨h1, h2, hk, hv, hn1, hn2, hn3, hn4⟩ := h
  have hks : k.size ≤ 60 := by unfold KeyP at hk; omega
  have e1 : (UInt8.ofNat (op % 256).toNat).toNat = op.toNat := ofNat_toNat_mod op (by omega) (by omega)
  have e2 : (UInt8.ofNat ((k.size : Int) % 256).toNat).toNat = k.size := (ofNat_toNat_mod _ (by omega) (by omega)).trans (by simp)
  have hkl : k.data.toList.length = k.size := (Lib.size_eq k).symm
  have g := (got_long (UInt8.ofNat (op % 256).toNat) (pbytes (a + 1000000000000).toNat 8) (pbytes b.toNat 8) (UInt8.ofNat ((k.size : Int) % 256).toNat) (k.data.toList ++ v.data.toList) (pbytes_length _ _) (pbytes_length _ _)).2 (by rw [e2, List.length_append, hkl]; omega)
  unfold putL
  rw [g, e1, e2, bigL_pbytes 8 _ (small8 _ (by omega)), bigL_pbytes 8 _ (small8 _ (by omega))]
  rw [List.take_append_of_le_length (by omega), List.take_of_length_le (by omega), List.drop_append_of_le_length (by omega), List.drop_of_length_le (by omega), List.nil_append, bs_of, bs_of]
  have w1 : wrap64 ((a + 1000000000000).toNat : Nat) = a + 1000000000000 := by unfold wrap64; omega
  have w2 : wrap64 (b.toNat : Nat) = b := by unfold wrap64; omega
  rw [w1, w2]
  have w3 : wrap64 (a + 1000000000000 - 1000000000000) = a := by unfold wrap64; omega
  rw [w3, Int.toNat_of_nonneg (by omega)]

theorem putS_yes {op : Int} {k v : ByteArray} {a b : Int} (h : RightP op k.size v.size a b) : putS op k v a b = bs (putL op k v a b) := by
  unfold putS
  rw [if_pos (rightB_true h)]
  exact putB_bs op k v a b h.2.2.2.2.1 h.2.2.2.2.2.2.1
theorem gotOk_put {op : Int} {k v : ByteArray} {a b : Int} (h : RightP op k.size v.size a b) : gotOk (putS op k v a b) = true := by
  have hg := got_put op k v a b h
  rw [← putS_yes h] at hg
  rw [gotOk_of hg, rightB_true h]
  simp
theorem gotOk_nil : gotOk ⟨#[]⟩ = false := by
  have : (got ⟨#[]⟩).bad = true := got_short [] (by simp)
  unfold gotOk
  rw [this]
  rfl

/-- Bytes of at least eighteen, cut. -/
theorem cut18 (l : List UInt8) (h : 18 ≤ l.length) : ∃ x0 p q k0 r, l = x0 :: (p ++ (q ++ k0 :: r)) ∧ p.length = 8 ∧ q.length = 8 := by
  match l, h with
  | x0 :: t, h =>
    simp at h
    refine ⟨x0, t.take 8, (t.drop 8).take 8, (t.drop 16).headD 0, (t.drop 16).tail, ?_, by simp; omega, by simp; omega⟩
    have h1 : t.drop 16 ≠ [] := by intro hn; have := congrArg List.length hn; simp at this; omega
    have h2 : (t.drop 16).headD 0 :: (t.drop 16).tail = t.drop 16 := by
      cases hh : t.drop 16 with
      | nil => exact absurd hh h1
      | cons y ys => rfl
    rw [h2]
    have h3 : (t.drop 8).take 8 ++ t.drop 16 = t.drop 8 := by
      rw [show t.drop 16 = (t.drop 8).drop 8 from by rw [List.drop_drop], List.take_append_drop]
    rw [h3, List.take_append_drop]

/-- The same answer, by what the bytes are. -/
def goodL (x0 : UInt8) (p q : List UInt8) (k0 : UInt8) (r : List UInt8) : Prop :=
  k0.toNat ≤ r.length ∧ bigL p ≤ 2000000000000 ∧ bigL q ≤ 1000000000000 ∧ RightP x0.toNat k0.toNat (r.length - k0.toNat) ((bigL p : Int) - 1000000000000) (bigL q)
theorem wrap_num (n : Nat) (hn : n < 18446744073709551616) (h1 : -1000000000000 ≤ wrap64 (wrap64 (n : Int) - 1000000000000)) (h2 : wrap64 (wrap64 (n : Int) - 1000000000000) ≤ 1000000000000) :
    n ≤ 2000000000000 ∧ wrap64 (wrap64 (n : Int) - 1000000000000) = (n : Int) - 1000000000000 := by
  unfold wrap64 at h1 h2 ⊢
  omega
theorem wrap_ver (n : Nat) (hn : n < 18446744073709551616) (h1 : 0 ≤ wrap64 (n : Int)) (h2 : wrap64 (n : Int) ≤ 1000000000000) : n ≤ 1000000000000 ∧ wrap64 (n : Int) = (n : Int) := by
  unfold wrap64 at h1 h2 ⊢
  omega
theorem wrap_num' (n : Nat) (h : n ≤ 2000000000000) : wrap64 (wrap64 (n : Int) - 1000000000000) = (n : Int) - 1000000000000 := by
  unfold wrap64
  omega
theorem bigL8 (p : List UInt8) (hp : p.length = 8) : bigL p < 18446744073709551616 := by
  have h := bigL_lt p
  rw [hp] at h
  exact h
theorem sub_add_toNat (n : Nat) : ((n : Int) - 1000000000000 + 1000000000000).toNat = n := by omega
theorem gotOk_iff (x0 : UInt8) (p q : List UInt8) (k0 : UInt8) (r : List UInt8) (hp : p.length = 8) (hq : q.length = 8) :
    gotOk (bs (x0 :: (p ++ (q ++ k0 :: r)))) = true ↔ goodL x0 p q k0 r := by
  obtain ⟨g1, g2⟩ := got_long x0 p q k0 r hp hq
  have hx := x0.toNat_lt
  have hk := k0.toNat_lt
  have hpl := bigL8 p hp
  have hql := bigL8 q hq
  by_cases hkr : k0.toNat ≤ r.length
  · have hg := g2 hkr
    have s1 : (bs (r.take k0.toNat)).size = k0.toNat := by rw [bs_size, List.length_take]; omega
    have s2 : (bs (r.drop k0.toNat)).size = r.length - k0.toNat := by rw [bs_size, List.length_drop]
    rw [gotOk_of hg, s1, s2]
    constructor
    · intro h
      simp only [Bool.not_false, Bool.true_and, Bool.and_eq_true] at h
      have hr := of_decide_eq_true h.1
      obtain ⟨r1, r2, r3, r4, n1, n2, n3, n4⟩ := hr
      have e1 := wrap_num (bigL p) hpl n1 n2
      have e2 := wrap_ver (bigL q) hql n3 n4
      rw [e1.2] at n1 n2
      rw [e2.2] at n3 n4
      exact ⟨hkr, e1.1, e2.1, r1, r2, r3, r4, n1, n2, n3, n4⟩
    · rintro ⟨-, b1, b2, hr⟩
      have w1 : wrap64 (wrap64 (bigL p : Nat) - 1000000000000) = (bigL p : Int) - 1000000000000 := wrap_num' _ b1
      have w2 : wrap64 (bigL q : Nat) = (bigL q : Int) := wrap_small _ (by omega)
      rw [w1, w2]
      have hR : RightP (x0.toNat : Int) (bs (r.take k0.toNat)).size (bs (r.drop k0.toNat)).size ((bigL p : Int) - 1000000000000) (bigL q) := by rw [s1, s2]; exact hr
      rw [rightB_true hr, putS_yes hR]
      have : putL (x0.toNat : Int) (bs (r.take k0.toNat)) (bs (r.drop k0.toNat)) ((bigL p : Int) - 1000000000000) (bigL q) = x0 :: (p ++ (q ++ k0 :: r)) := by
        unfold putL
        rw [s1]
        have f1 : UInt8.ofNat ((x0.toNat : Int) % 256).toNat = x0 := by
          rw [show ((x0.toNat : Int) % 256).toNat = x0.toNat from by omega]; simp
        have f2 : UInt8.ofNat ((k0.toNat : Int) % 256).toNat = k0 := by
          rw [show ((k0.toNat : Int) % 256).toNat = k0.toNat from by omega]; simp
        rw [f1, f2, sub_add_toNat, Int.toNat_natCast]
        have g1 := pbytes_bigL p
        have g2 := pbytes_bigL q
        rw [hp] at g1
        rw [hq] at g2
        rw [g1, g2, bs_data, bs_data, List.take_append_drop]
      rw [this]
      simp
  · have hb := g1 (by omega)
    constructor
    · intro h
      unfold gotOk at h
      rw [hb] at h
      cases h
    · rintro ⟨h, -⟩
      exact absurd h hkr
end Go.Proofs.YtbfdaclekjgkfaaDoor
