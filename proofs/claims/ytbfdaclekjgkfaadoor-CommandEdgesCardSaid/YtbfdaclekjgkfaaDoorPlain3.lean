/- Plain laws: the reference's Put, Get and Name are the program's. -/
import Derived.Test.YtbfdaclekjgkfaaDoorPlain2
import Derived.Test.YtbfdaclekjgkfaaDoorName
namespace Go.Proofs.YtbfdaclekjgkfaaDoor
open Go.RowKit Go.Proofs.YtbfdaclekjgkfaaDoorW.PrintWords Go.Proofs.YtbfdaclekjgkfaaDoorW.PrintLast Go.Proofs.YtbfdaclekjgkfaaDoorW.PrintMore

theorem rput_eq (op : Int) (k v : ByteArray) (a b : Int) : Pr.escutcheonref1_Put.f op k v a b = some (putS op k v a b, rightB op k.size v.size a b) := by
  unfold Pr.escutcheonref1_Put.f escutcheonref1_Command.f putS
  simp only [Option.bind_some]
  cases h : rightB op k.size v.size a b with
  | false => rfl
  | true =>
    obtain ⟨h1, h2, hk, hv, hn1, hn2, hn3, hn4⟩ := of_decide_eq_true h
    have hks : k.size ≤ 60 := by unfold KeyP at hk; omega
    have w1 : IntKind.u64.wrap (wrap64 (a + 1000000000000)) = a + 1000000000000 := by
      rw [show wrap64 (a + 1000000000000) = a + 1000000000000 from by unfold wrap64; omega, IntKind.wrap_u64]
      omega
    have w2 : IntKind.u64.wrap b = b := by rw [IntKind.wrap_u64]; omega
    have e1 : escutcheonref1_PutBig.f (a + 1000000000000) 8 = some (strOfNums (pcells (a + 1000000000000) 8 8)) := by unfold escutcheonref1_PutBig.f; rw [if_pos (by omega)]; rfl
    have e2 : escutcheonref1_PutBig.f b 8 = some (strOfNums (pcells b 8 8)) := by unfold escutcheonref1_PutBig.f; rw [if_pos (by omega)]; rfl
    have z1 := big_size (a + 1000000000000)
    have z2 := big_size b
    have z3 : (strOfNums [op % 256]).size = 1 := rfl
    have z4 : (strOfNums [(k.size : Int) % 256]).size = 1 := rfl
    rw [w1, w2, e1, e2]
    simp only [Option.bind_some, if_true]
    rw [if_pos (by omega), if_pos (by omega), if_pos (by omega), if_pos (by omega), if_pos (by omega)]
    unfold putB pairB shortB oneB
    simp only [ByteArray.append_assoc]
theorem rput_any (op : Int) (k v : ByteArray) (a b : Int) (w : World) :
    Calls Tryd.prog 11 #[.agg #[.int .i64 op, .string k, .string v, .int .i64 a, .int .i64 b]] w fun e w' => e = .returned (.tuple #[.string (putS op k v a b), .bool (rightB op k.size v.size a b)]) ∧ Below w.heap.size w w' :=
  Pr.escutcheonref1_Put.calls op k v a b _ _ w (rput_eq op k v a b)

/-- What either Get answers. -/
def gotR (s : ByteArray) : Int × ByteArray × ByteArray × Int × Int × Bool :=
  if gotOk s then ((got s).op, (got s).k, (got s).v, (got s).a, (got s).b, true) else (0, ⟨#[]⟩, ⟨#[]⟩, 0, 0, false)

theorem bt_bs (l : List UInt8) (i : Nat) (h : i < l.length) : bt (bs l) (i : Int) = (l[i].toNat : Int) := by
  unfold bt
  rw [dif_pos (show (i : Int).toNat < (bs l).size from by rw [bs_size]; omega)]
  rfl
theorem rbig_bs (l : List UInt8) (h : l.length = 8) : escutcheonref1_Big.f (bs l) = some ((bigL l : Nat) : Int) := by
  unfold escutcheonref1_Big.f
  rw [bs_size, if_pos (by omega), bs_data, h]
  rfl

def zeroR : Int × ByteArray × ByteArray × Int × Int × Bool := (0, ⟨#[]⟩, ⟨#[]⟩, 0, 0, false)
theorem j1_yes (k : Nat) (s : ByteArray) (a b : Int) : Pr.escutcheonref1_Get.j1 (k + 1) s a b true = some zeroR := by
  rw [Pr.escutcheonref1_Get.j1, if_pos rfl]
  rfl
theorem j0_yes (k : Nat) (s : ByteArray) : Pr.escutcheonref1_Get.j0 (k + 1) s true = some zeroR := by
  rw [Pr.escutcheonref1_Get.j0, if_pos rfl]
  rfl
theorem f_wk2 (kn : Nat) (h : kn < 256) : wrap64 (18 + (kn : Int)) = 18 + (kn : Int) := by unfold wrap64; omega
theorem f_e18 (kn : Nat) : (18 + (kn : Int)).toNat = 18 + kn := by omega
theorem f_c1 (kn : Nat) : 18 ≤ 18 + (kn : Int) := by omega
theorem f_c2 (kn rl : Nat) (h : kn ≤ rl) : 18 + (kn : Int) ≤ ((18 + rl : Nat) : Int) := by omega
theorem f_c3 (kn : Nat) : 0 ≤ 18 + (kn : Int) := by omega
theorem f_c4 (rl : Nat) : 17 < ((18 + rl : Nat) : Int) := by omega
theorem f_c5 (rl : Nat) : 0 < ((18 + rl : Nat) : Int) := by omega
theorem f_d1 (rl : Nat) : ¬ ((18 + rl : Nat) : Int) < 18 := by omega
theorem f_d3 (rl : Nat) : 9 ≤ ((18 + rl : Nat) : Int) := by omega
theorem f_d4 (rl : Nat) : 17 ≤ ((18 + rl : Nat) : Int) := by omega
theorem f_lt (kn rl : Nat) (h : ¬ kn ≤ rl) : ((18 + rl : Nat) : Int) < 18 + (kn : Int) := by omega
theorem f_nlt (kn rl : Nat) (h : kn ≤ rl) : ¬ ((18 + rl : Nat) : Int) < 18 + (kn : Int) := by omega
theorem f_big2 (n : Nat) (h : ¬ n ≤ 2000000000000) : (n : Int) > 2000000000000 := by omega
theorem f_nbig2 (n : Nat) (h : n ≤ 2000000000000) : ¬ (n : Int) > 2000000000000 := by omega
theorem f_big1 (n : Nat) (h : ¬ n ≤ 1000000000000) : (n : Int) > 1000000000000 := by omega
theorem f_nbig1 (n : Nat) (h : n ≤ 1000000000000) : ¬ (n : Int) > 1000000000000 := by omega
theorem f_63 (n : Nat) (h : n ≤ 2000000000000) : n < 9223372036854775808 := by omega
theorem f_8 (n : Nat) (h : n < 256) : n < 9223372036854775808 := by omega
theorem f_12 (n : Nat) (h : n ≤ 1000000000000) : n ≤ 2000000000000 := by omega
theorem j1_no (k : Nat) (s : ByteArray) (x kn rl pb qb : Nat) (hz : s.size = 18 + rl) (hkn : kn < 256) (hx : x < 256) (b17 : bt s 17 = (kn : Int)) (b0 : bt s 0 = (x : Int)) (h1 : kn ≤ rl) (h2 : pb ≤ 2000000000000) (h3 : qb ≤ 1000000000000) :
    Pr.escutcheonref1_Get.j1 (k + 1) s pb qb false = some (if rightB x (s.extract 18 (18 + kn)).size (s.extract (18 + kn) (18 + rl)).size ((pb : Int) - 1000000000000) qb then ((x : Int), s.extract 18 (18 + kn), s.extract (18 + kn) (18 + rl), (pb : Int) - 1000000000000, (qb : Int), true) else zeroR) := by
  have wk : wrap64 (kn : Int) = (kn : Int) := wrap_small _ (f_8 _ hkn)
  have wx : wrap64 (x : Int) = (x : Int) := wrap_small _ (f_8 _ hx)
  have wk2 := f_wk2 kn hkn
  have e18 := f_e18 kn
  have w1 : wrap64 (wrap64 (pb : Nat) - 1000000000000) = (pb : Int) - 1000000000000 := wrap_num' _ h2
  have w2 : wrap64 (qb : Nat) = (qb : Int) := wrap_small _ (f_63 _ (f_12 _ h3))
  have c1 := f_c1 kn
  have c2 := f_c2 kn rl h1
  have c3 := f_c3 kn
  have c4 := f_c4 rl
  have c5 := f_c5 rl
  rw [Pr.escutcheonref1_Get.j1, if_neg (by decide), b17, wk, wk2, b0, wx, e18, hz, w1, w2, if_pos c4, if_pos c5, if_pos c1, if_pos c2, if_pos c3]
  unfold escutcheonref1_Command.f
  simp only [Option.bind_some]
  cases rightB x (s.extract 18 (18 + kn)).size (s.extract (18 + kn) (18 + rl)).size ((pb : Int) - 1000000000000) qb <;> rfl
theorem rget_core (s : ByteArray) (x kn rl pb qb : Nat) (hz : s.size = 18 + rl) (hkn : kn < 256) (hx : x < 256) (b17 : bt s 17 = (kn : Int)) (b0 : bt s 0 = (x : Int))
    (x1 : escutcheonref1_Big.f (s.extract 1 9) = some ((pb : Nat) : Int)) (x2 : escutcheonref1_Big.f (s.extract 9 17) = some ((qb : Nat) : Int)) :
    Pr.escutcheonref1_Get.f 3 s = some (if kn ≤ rl ∧ pb ≤ 2000000000000 ∧ qb ≤ 1000000000000 ∧ rightB x (s.extract 18 (18 + kn)).size (s.extract (18 + kn) (18 + rl)).size ((pb : Int) - 1000000000000) qb = true then ((x : Int), s.extract 18 (18 + kn), s.extract (18 + kn) (18 + rl), (pb : Int) - 1000000000000, (qb : Int), true) else zeroR) := by
  have wk : wrap64 (kn : Int) = (kn : Int) := wrap_small _ (f_8 _ hkn)
  have wk2 := f_wk2 kn hkn
  have c1 := f_d1 rl
  have c2 := f_c4 rl
  have c3 := f_d3 rl
  have c4 := f_d4 rl
  unfold Pr.escutcheonref1_Get.f
  rw [hz, if_neg c1, if_pos c2, b17, wk, wk2]
  by_cases hkr : kn ≤ rl
  rotate_left
  · rw [decide_eq_true (f_lt kn rl hkr), j0_yes 2, if_neg (fun h => hkr h.1)]
  rw [decide_eq_false (f_nlt kn rl hkr)]
  show Pr.escutcheonref1_Get.j0 (2 + 1) s false = _
  rw [Pr.escutcheonref1_Get.j0, if_neg (by decide), if_pos (by decide), hz, if_pos c3, x1]
  simp only [Option.bind_some]
  rw [if_pos (by decide), if_pos c4, x2]
  simp only [Option.bind_some]
  by_cases h2 : pb ≤ 2000000000000
  rotate_left
  · rw [if_pos (f_big2 pb h2), j1_yes 1, if_neg (fun h => h2 h.2.1)]
  rw [if_neg (f_nbig2 pb h2)]
  by_cases h3 : qb ≤ 1000000000000
  rotate_left
  · rw [decide_eq_true (f_big1 qb h3), j1_yes 1, if_neg (fun h => h3 h.2.2.1)]
  rw [decide_eq_false (f_nbig1 qb h3), j1_no 1 s x kn rl pb qb hz hkn hx b17 b0 hkr h2 h3]
  congr 1
  by_cases hr : rightB x (s.extract 18 (18 + kn)).size (s.extract (18 + kn) (18 + rl)).size ((pb : Int) - 1000000000000) qb = true
  · rw [if_pos hr, if_pos ⟨hkr, h2, h3, hr⟩]
  · rw [if_neg hr, if_neg (fun h => hr h.2.2.2)]

theorem rget_long (x0 : UInt8) (p q : List UInt8) (k0 : UInt8) (r : List UInt8) (hp : p.length = 8) (hq : q.length = 8) (hs : (x0 :: (p ++ (q ++ k0 :: r))).length ≤ 140737488351232) :
    Pr.escutcheonref1_Get.f 3 (bs (x0 :: (p ++ (q ++ k0 :: r)))) = some (gotR (bs (x0 :: (p ++ (q ++ k0 :: r))))) := by
  have hiff := gotOk_iff x0 p q k0 r hp hq
  obtain ⟨-, g2⟩ := got_long x0 p q k0 r hp hq
  have hx := x0.toNat_lt
  have hk := k0.toNat_lt
  have hlen : (x0 :: (p ++ (q ++ k0 :: r))).length = 18 + r.length := by simp; omega
  have hsz : (bs (x0 :: (p ++ (q ++ k0 :: r)))).size = 18 + r.length := hlen
  have b17 : bt (bs (x0 :: (p ++ (q ++ k0 :: r)))) 17 = (k0.toNat : Int) := by
    have := bt_bs (x0 :: (p ++ (q ++ k0 :: r))) 17 (by omega)
    refine this.trans ?_
    congr 2
    rw [List.getElem_cons_succ, List.getElem_append_right (by omega), List.getElem_append_right (by omega)]
    simp [hp, hq]
  have b0 : bt (bs (x0 :: (p ++ (q ++ k0 :: r)))) 0 = (x0.toNat : Int) := bt_bs (x0 :: (p ++ (q ++ k0 :: r))) 0 (by omega)
  have x1 : (bs (x0 :: (p ++ (q ++ k0 :: r)))).extract 1 9 = bs p := by
    rw [bs_extract]
    congr 1
    rw [List.drop_succ_cons, List.drop_zero, List.take_append_of_le_length (by omega), List.take_of_length_le (by omega)]
  have x2 : (bs (x0 :: (p ++ (q ++ k0 :: r)))).extract 9 17 = bs q := by
    rw [bs_extract]
    congr 1
    rw [List.drop_succ_cons, List.drop_append_of_le_length (by omega), List.drop_of_length_le (by omega), List.nil_append, List.take_append_of_le_length (by omega), List.take_of_length_le (by omega)]
  have d18 : (x0 :: (p ++ (q ++ k0 :: r))).drop 18 = r := by
    rw [List.drop_succ_cons, List.drop_append, hp, List.drop_of_length_le (by omega), List.nil_append, List.drop_append, hq, List.drop_of_length_le (by omega), List.nil_append]
    rfl
  have x3 : (bs (x0 :: (p ++ (q ++ k0 :: r)))).extract 18 (18 + k0.toNat) = bs (r.take k0.toNat) := by
    rw [bs_extract, d18]
    congr 2
    omega
  have x4 : (bs (x0 :: (p ++ (q ++ k0 :: r)))).extract (18 + k0.toNat) (18 + r.length) = bs (r.drop k0.toNat) := by
    rw [bs_extract, ← List.drop_drop, d18]
    congr 1
    rw [List.take_of_length_le (by rw [List.length_drop]; omega)]
  have core := rget_core (bs (x0 :: (p ++ (q ++ k0 :: r)))) x0.toNat k0.toNat r.length (bigL p) (bigL q) hsz (by omega) (by omega) b17 b0 (by rw [x1]; exact rbig_bs p hp) (by rw [x2]; exact rbig_bs q hq)
  rw [core, x3, x4]
  congr 1
  have s2 : (bs (r.drop k0.toNat)).size = r.length - k0.toNat := by rw [bs_size, List.length_drop]
  by_cases hg : gotOk (bs (x0 :: (p ++ (q ++ k0 :: r)))) = true
  · obtain ⟨h1, h2, h3, h4⟩ := hiff.1 hg
    have s1 : (bs (r.take k0.toNat)).size = k0.toNat := by rw [bs_size, List.length_take]; omega
    have hgo := g2 h1
    rw [wrap_num' _ h2, wrap_small _ (f_63 _ (f_12 _ h3))] at hgo
    unfold gotR
    rw [if_pos hg, hgo, if_pos ⟨h1, h2, h3, by rw [s1, s2]; exact rightB_true h4⟩]
  · unfold gotR
    rw [if_neg hg, if_neg]
    · rfl
    · rintro ⟨h1, h2, h3, h4⟩
      have s1 : (bs (r.take k0.toNat)).size = k0.toNat := by rw [bs_size, List.length_take]; omega
      rw [s1, s2] at h4
      exact hg (hiff.2 ⟨h1, h2, h3, of_decide_eq_true h4⟩)

theorem rget_eq (s : ByteArray) (hs : s.size ≤ 140737488351232) : Pr.escutcheonref1_Get.f 3 s = some (gotR s) := by
  by_cases h : s.size < 18
  · have hb : gotOk s = false := by
      have := got_short s.data.toList (by rw [← Lib.size_eq]; exact h)
      rw [bs_of] at this
      unfold gotOk
      rw [this]
      rfl
    unfold Pr.escutcheonref1_Get.f gotR
    rw [if_pos (by omega), hb, j0_yes 2]
    rfl
  · obtain ⟨x0, p, q, k0, r, e, hp, hq⟩ := cut18 s.data.toList (by rw [← Lib.size_eq]; omega)
    rw [← bs_of s, e]
    exact rget_long x0 p q k0 r hp hq (by rw [← e, ← Lib.size_eq]; exact hs)
theorem rget_any (s : ByteArray) (w : World) (hs : s.size ≤ 140737488351232) : Calls Tryd.prog 13 #[.string s] w (GetE s w) := by
  refine (Pr.escutcheonref1_Get.calls 3 s (gotR s).1 (gotR s).2.1 (gotR s).2.2.1 (gotR s).2.2.2.1 (gotR s).2.2.2.2.1 (gotR s).2.2.2.2.2 w (rget_eq s hs)).mono ?_
  rintro e w' ⟨he, hb⟩
  refine ⟨he.trans ?_, hb⟩
  unfold gotR
  cases gotOk s <;> rfl

/-- The reference's names. -/
theorem names_eq : ([⟨#[]⟩, ⟨#[103, 101, 116]⟩, ⟨#[115, 101, 116]⟩, ⟨#[97, 100, 100]⟩, ⟨#[114, 101, 112, 108, 97, 99, 101]⟩, ⟨#[100, 101, 108]⟩, ⟨#[99, 97, 115]⟩, ⟨#[105, 110, 99, 114]⟩, ⟨#[97, 112, 112, 101, 110, 100]⟩, ⟨#[116, 111, 117, 99, 104]⟩, ⟨#[116, 116, 108]⟩, ⟨#[115, 99, 97, 110]⟩, ⟨#[102, 108, 117, 115, 104]⟩, ⟨#[115, 116, 97, 116, 115]⟩] : List ByteArray) = ((([] : List UInt8) :: Lib.fields nameText.data.toList).map fun x => (⟨x.toArray⟩ : ByteArray)) := by decide +kernel
theorem nameOf_zero : nameOf 0 = ⟨#[]⟩ := by decide +kernel
theorem rname_any (op : Int) (r : ByteArray) (w : World) (h : command_Name.f op = some r) :
    Calls Tryd.prog 19 #[.int .i64 op] w fun e w' => e = .returned (.string r) ∧ Below w.heap.size w w' := by
  refine Pr.escutcheonref1_Name.calls op r w ?_
  unfold Pr.escutcheonref1_Name.f
  rw [← h]
  unfold command_Name.f
  rw [names_eq]
  simp only [Option.bind_some]
  have hl : ((([] : List UInt8) :: Lib.fields nameText.data.toList).map fun x => (⟨x.toArray⟩ : ByteArray)).length = 14 := by
    simp [nameFields_length]
  rw [hl]
  by_cases h0 : op < 0
  · rw [if_pos h0, if_neg (by omega)]
  · rw [if_neg h0]
    by_cases h1 : op ≥ 14
    · rw [if_pos (by omega), if_neg (by omega)]
    · rw [if_neg (by omega), if_pos (by omega), if_pos (by omega)]
      by_cases h2 : op = 0
      · subst h2
        rw [if_neg (by omega)]
        exact congrArg some nameOf_zero
      · rw [if_pos (by omega)]
        rfl
end Go.Proofs.YtbfdaclekjgkfaaDoor
