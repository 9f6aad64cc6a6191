import Derived.Test.YtbfdaclekjgkfaaGreatDoorGr
import Derived.Test.YtbfdaclekjgkfaaGreatDoorPlain3
import Derived.Test.YtbfdaclekjgkfaaGreatDoorPg

/- Plain laws: a reply as bytes and back, by the program's reading. -/
set_option linter.unusedVariables false
namespace Go.Proofs.YtbfdaclekjgkfaaGreatDoor.Bk
open Go.RowKit Go.Proofs.YtbfdaclekjgkfaaGreatDoor

theorem mod_small (n : Nat) (h : n < 256) : ((n : Int) % 256).toNat = n := by omega
theorem one_nat (n : Nat) (h : n < 256) : oneB ((n : Int) % 256) = bs [UInt8.ofNat n] := by rw [oneB_bs, mod_small n h]
theorem ofNat_toNat (n : Nat) (h : n < 256) : (UInt8.ofNat n).toNat = n := by
  rw [UInt8.toNat_ofNat']
  exact Nat.mod_eq_of_lt h
theorem shortB_list (k : ByteArray) (h : k.size < 256) : (shortB k).data.toList = UInt8.ofNat k.size :: k.data.toList := by
  unfold shortB
  rw [one_nat _ h]
  simp [bs, ByteArray.data_append]
theorem keysL_cons (k : ByteArray) (l : List ByteArray) (h : k.size < 256) : keysL (k :: l) = UInt8.ofNat k.size :: (k.data.toList ++ keysL l) := by
  show (shortB k).data.toList ++ keysL l = _
  rw [shortB_list k h, List.cons_append]
theorem keysL_app (l m : List ByteArray) : keysL (l ++ m) = keysL l ++ keysL m := by unfold keysL; rw [List.flatMap_append]

/-- A reply's bytes, one by one. -/
def repB (e : Nat) (a b : Nat) (v : List UInt8) (n : Nat) (r : List UInt8) : List UInt8 :=
  UInt8.ofNat e :: (pbytes a 8 ++ (pbytes b 8 ++ (pbytes v.length 2 ++ (v ++ UInt8.ofNat n :: r))))
theorem repL_eq {e : Int} {v : ByteArray} {a b : Int} {l : List ByteArray} (h : RepP e v a b l) :
    repL e v a b l = repB e.toNat (a + 1000000000000).toNat b.toNat v.data.toList l.length (keysL l) := by
  obtain ⟨h1, h2, ⟨h3, h4, h5, h6⟩, h7, h8, h9⟩ := h
  have he : (e % 256).toNat = e.toNat := by omega
  have hl : l.length < 256 := by omega
  unfold repL headB pairB repB big2
  rw [one_nat _ hl, oneB_bs, he, pcells_bs _ _ (by omega), pcells_bs _ _ h5, pcells_bs _ _ (Int.natCast_nonneg _), Int.toNat_natCast, Lib.size_eq v]
  simp [bs, ByteArray.data_append]

theorem keysR_keys : ∀ (l : List ByteArray) (ks : List ByteArray), KeysP l → keysR l.length (bs (keysL l)) false ks = (ks ++ l, false)
  | [], ks, _ => by rw [List.append_nil]; rfl
  | k :: l, ks, h => by
    have hk : k.size ≤ 60 := h k List.mem_cons_self
    have hl : KeysP l := fun x hx => h x (List.mem_cons_of_mem _ hx)
    have hkl : k.data.toList.length = k.size := (Lib.size_eq k).symm
    have ih := keysR_keys l (ks ++ [k]) hl
    have t1 : takeLeft (bs (UInt8.ofNat k.size :: (k.data.toList ++ keysL l))) false 1 = bs (k.data.toList ++ keysL l) := take_left _ 1 (by simp)
    have t2 : takeBad (bs (UInt8.ofNat k.size :: (k.data.toList ++ keysL l))) false 1 = false := take_good _ 1 (by simp)
    have t3 : numV (bs (UInt8.ofNat k.size :: (k.data.toList ++ keysL l))) false 1 = (k.size : Nat) := (num_out _ 1 (by simp) (by omega)).trans (by
      have := ofNat_toNat k.size (by omega)
      simp only [List.take_succ_cons, List.take_zero, bigL, List.foldl_cons, List.foldl_nil]
      rw [wrap_small _ (by omega)]
      omega)
    have t4 : takeLeft (bs (k.data.toList ++ keysL l)) false (k.size : Nat) = bs (keysL l) := (take_left _ k.size (by simp)).trans (by rw [← hkl, List.drop_left])
    have t5 : takeBad (bs (k.data.toList ++ keysL l)) false (k.size : Nat) = false := take_good _ k.size (by simp)
    have t6 : takeOut (bs (k.data.toList ++ keysL l)) false (k.size : Nat) = k := (take_out _ k.size (by simp)).trans (by rw [← hkl, List.take_left, bs_of])
    rw [keysL_cons k l (by omega), List.length_cons, keysR, if_neg (by decide), t1, t2, t3, t4, t5, t6, ih]
    simp

/-- The program reads a reply's bytes back. -/
theorem gotR_rep {e : Int} {v : ByteArray} {a b : Int} {l : List ByteArray} (h : RepP e v a b l) : gotR (repS e v a b l) = ⟨e, v, a, b, l, false⟩ := by
  have hP := h
  obtain ⟨h1, h2, ⟨h3, h4, h5, h6⟩, h7, h8, h9⟩ := h
  obtain ⟨en, rfl⟩ := Int.eq_ofNat_of_zero_le h1
  obtain ⟨bn, rfl⟩ := Int.eq_ofNat_of_zero_le h5
  obtain ⟨an, han⟩ := Int.eq_ofNat_of_zero_le (show 0 ≤ a + 1000000000000 by omega)
  have hen : en ≤ 15 := by omega
  have hbn : bn ≤ 1000000000000 := by omega
  have han2 : an ≤ 2000000000000 := by omega
  have hvl : v.data.toList.length = v.size := (Lib.size_eq v).symm
  have hk := keysR_keys l [] h9
  have hs : repS (en : Int) v a (bn : Int) l = bs (repB en an bn v.data.toList l.length (keysL l)) := by
    show bs (repL _ _ _ _ _) = _
    rw [repL_eq hP, han]
    rfl
  rw [hs]
  have p8 := pbytes_length 8 an
  have q8 := pbytes_length 8 bn
  have z2 := pbytes_length 2 v.data.toList.length
  have pb := bigL_pbytes 8 an (Nat.lt_of_le_of_lt han2 (by decide))
  have qb := bigL_pbytes 8 bn (Nat.lt_of_le_of_lt hbn (by decide))
  have zb := bigL_pbytes 2 v.data.toList.length (by rw [hvl]; exact Nat.lt_of_le_of_lt h7 (by decide))
  unfold repB
  rw [hvl] at z2 zb ⊢
  generalize pbytes an 8 = p at *
  generalize pbytes bn 8 = q at *
  generalize pbytes v.size 2 = z at *
  have hl256 : l.length < 256 := by omega
  have wa : wrap64 (wrap64 (an : Int) - 1000000000000) = a := by
    rw [wrap_small _ (by omega)]
    unfold wrap64
    omega
  have wb : wrap64 (bn : Int) = bn := wrap_small _ (by omega)
  have wv : wrap64 (v.size : Int) = v.size := wrap_small _ (by omega)
  clear han h3 h4 h5 h6 h1 h2 hP
  generalize hr : keysL l = r at *
  have a1 : takeLeft (bs (UInt8.ofNat en :: (p ++ (q ++ (z ++ (v.data.toList ++ UInt8.ofNat l.length :: r)))))) false 1 = bs (p ++ (q ++ (z ++ (v.data.toList ++ UInt8.ofNat l.length :: r)))) := take_left _ 1 (by simp)
  have a2 : takeBad (bs (UInt8.ofNat en :: (p ++ (q ++ (z ++ (v.data.toList ++ UInt8.ofNat l.length :: r)))))) false 1 = false := take_good _ 1 (by simp)
  have one : ∀ (n : Nat) (m : List UInt8), n < 256 → numV (bs (UInt8.ofNat n :: m)) false 1 = (n : Int) := fun n m hn => (num_out _ 1 (by simp) (by omega)).trans (by
    have := ofNat_toNat n hn
    simp only [List.take_succ_cons, List.take_zero, bigL, List.foldl_cons, List.foldl_nil]
    rw [wrap_small _ (by omega)]
    omega)
  have a3 := one en (p ++ (q ++ (z ++ (v.data.toList ++ UInt8.ofNat l.length :: r)))) (by omega)
  have num : ∀ (m x : List UInt8) (n : Nat), m.length = n → n ≤ 8 → takeLeft (bs (m ++ x)) false n = bs x ∧ takeBad (bs (m ++ x)) false n = false ∧ takeOut (bs (m ++ x)) false n = bs m ∧ numV (bs (m ++ x)) false n = wrap64 (bigL m : Nat) := fun m x n hm hn =>
    ⟨(take_left _ n (by simp; omega)).trans (by rw [← hm, List.drop_left]), take_good _ n (by simp; omega), (take_out _ n (by simp; omega)).trans (by rw [← hm, List.take_left]), (num_out _ n (by simp; omega) hn).trans (by rw [← hm, List.take_left])⟩
  obtain ⟨b1, b2, _, b3⟩ := num p (q ++ (z ++ (v.data.toList ++ UInt8.ofNat l.length :: r))) 8 p8 (by omega)
  obtain ⟨c1, c2, _, c3⟩ := num q (z ++ (v.data.toList ++ UInt8.ofNat l.length :: r)) 8 q8 (by omega)
  obtain ⟨d1, d2, _, d3⟩ := num z (v.data.toList ++ UInt8.ofNat l.length :: r) 2 z2 (by omega)
  have e1 : takeLeft (bs (v.data.toList ++ UInt8.ofNat l.length :: r)) false (v.size : Nat) = bs (UInt8.ofNat l.length :: r) := (take_left _ v.size (by simp)).trans (by rw [← hvl, List.drop_left])
  have e2 : takeBad (bs (v.data.toList ++ UInt8.ofNat l.length :: r)) false (v.size : Nat) = false := take_good _ v.size (by simp)
  have e3 : takeOut (bs (v.data.toList ++ UInt8.ofNat l.length :: r)) false (v.size : Nat) = v := (take_out _ v.size (by simp)).trans (by rw [← hvl, List.take_left, bs_of])
  have f1 : takeLeft (bs (UInt8.ofNat l.length :: r)) false 1 = bs r := take_left _ 1 (by simp)
  have f2 : takeBad (bs (UInt8.ofNat l.length :: r)) false 1 = false := take_good _ 1 (by simp)
  have f3 := one l.length r hl256
  rw [pb] at b3
  rw [qb, wb] at c3
  rw [zb, wv] at d3
  unfold gotR
  dsimp only
  rw [a1, a2, a3]
  rw [show takeLeft (bs (p ++ (q ++ (z ++ (v.data.toList ++ UInt8.ofNat l.length :: r))))) false 8 = bs (q ++ (z ++ (v.data.toList ++ UInt8.ofNat l.length :: r))) from b1, show takeBad (bs (p ++ (q ++ (z ++ (v.data.toList ++ UInt8.ofNat l.length :: r))))) false 8 = false from b2, show numV (bs (p ++ (q ++ (z ++ (v.data.toList ++ UInt8.ofNat l.length :: r))))) false 8 = _ from b3]
  rw [show takeLeft (bs (q ++ (z ++ (v.data.toList ++ UInt8.ofNat l.length :: r)))) false 8 = bs (z ++ (v.data.toList ++ UInt8.ofNat l.length :: r)) from c1, show takeBad (bs (q ++ (z ++ (v.data.toList ++ UInt8.ofNat l.length :: r)))) false 8 = false from c2, show numV (bs (q ++ (z ++ (v.data.toList ++ UInt8.ofNat l.length :: r)))) false 8 = _ from c3]
  rw [show takeLeft (bs (z ++ (v.data.toList ++ UInt8.ofNat l.length :: r))) false 2 = bs (v.data.toList ++ UInt8.ofNat l.length :: r) from d1, show takeBad (bs (z ++ (v.data.toList ++ UInt8.ofNat l.length :: r))) false 2 = false from d2, show numV (bs (z ++ (v.data.toList ++ UInt8.ofNat l.length :: r))) false 2 = _ from d3]
  rw [e1, e2, e3, f1, f2, f3, Int.toNat_natCast, hk, wa, List.nil_append]

theorem toList_bs (s t : ByteArray) : (s.toList == t.toList) = decide (s = t) := by
  by_cases h : s = t
  · subst h; simp
  · rw [decide_eq_false h]
    apply Bool.eq_false_iff.2
    intro e
    have e' : s.toList = t.toList := by simpa using e
    rw [ByteArray.toList_eq, ByteArray.toList_eq] at e'
    exact h (ByteArray.ext (Array.toList_inj.mp e'))

theorem rep_ok {e : Int} {v : ByteArray} {a b : Int} {l : List ByteArray} (h : RepP e v a b l) : repOk (repS e v a b l) (gotR (repS e v a b l)) = true := by
  rw [gotR_rep h]
  unfold repOk
  dsimp only
  rw [decide_eq_true h]
  simp
theorem rep_of {s : ByteArray} (h : repOk s (gotR s) = true) : RepP (gotR s).e (gotR s).v (gotR s).a (gotR s).b (gotR s).ks ∧ repS (gotR s).e (gotR s).v (gotR s).a (gotR s).b (gotR s).ks = s := by
  unfold repOk at h
  rw [toList_bs] at h
  simp only [Bool.and_eq_true, decide_eq_true_eq] at h
  exact h.2
end Go.Proofs.YtbfdaclekjgkfaaGreatDoor.Bk

/- Plain laws: the document's reading of a reply is the program's. -/
set_option linter.unusedVariables false
namespace Go.Proofs.YtbfdaclekjgkfaaGreatDoor.Bk
open Go.RowKit Go.Proofs.YtbfdaclekjgkfaaGreatDoor Go.Proofs.YtbfdaclekjgkfaaGreatDoorW.PrintWords Go.Proofs.YtbfdaclekjgkfaaGreatDoorW.PrintLast

abbrev RT := Int × ByteArray × Int × Int × List ByteArray × Bool
def zeroRep : RT := (0, (⟨#[]⟩ : ByteArray), 0, 0, ([] : List ByteArray), false)
theorem big_some (x : ByteArray) (h : x.size ≤ 140737488351232) : ∃ n : Nat, escutcheonref1_Big.f x = some (n : Int) ∧ (x.size ≤ 2 → n < 65536) := by
  refine ⟨bigL (x.data.toList.drop (x.size - 8)), by unfold escutcheonref1_Big.f; rw [if_pos h], fun h2 => ?_⟩
  have h1 := bigL_lt (x.data.toList.drop (x.size - 8))
  have hl : (x.data.toList.drop (x.size - 8)).length ≤ 2 := by
    rw [List.length_drop, ← Lib.size_eq]
    omega
  exact Nat.lt_of_lt_of_le h1 (Nat.pow_le_pow_right (by decide) hl)
theorem rbig_le (l : List UInt8) (h : l.length ≤ 8) : escutcheonref1_Big.f (bs l) = some ((bigL l : Nat) : Int) := by
  unfold escutcheonref1_Big.f
  rw [bs_size, if_pos (by omega), bs_data, show l.length - 8 = 0 by omega]
  rfl
theorem wr (z : Int) (h0 : 0 ≤ z) (h1 : z ≤ 100000) : wrap64 z = z := by unfold wrap64; omega
theorem bt_nat (s : ByteArray) (i : Int) : ∃ c : Nat, bt s i = (c : Int) ∧ c ≤ 255 := by
  have h := bt_range s i
  obtain ⟨c, hc⟩ := Int.eq_ofNat_of_zero_le h.1
  exact ⟨c, hc, by have := h.2; rw [hc] at this; omega⟩

/-- A reply whose bytes these are, or none. -/
def Good (s : ByteArray) (r : RT) : Prop := r = zeroRep ∨ ∃ e v a b l, RepP e v a b l ∧ repS e v a b l = s ∧ r = (e, v, a, b, l, true)
theorem put_end (s : ByteArray) (e : Int) (v : ByteArray) (a b : Int) (l : List ByteArray) :
    ∃ r, Good s r ∧ ((Go.Proofs.YtbfdaclekjgkfaaGreatDoor.escutcheonref1_PutReply.f e v a b l).bind fun bt113 => (if bt113.2 = true then (if bt113.1.toList = s.toList then (some (e, v, a, b, l, true)) else (some (0, (⟨#[]⟩ : ByteArray), 0, 0, ([] : List ByteArray), false))) else (some (0, (⟨#[]⟩ : ByteArray), 0, 0, ([] : List ByteArray), false)))) = some r := by
  unfold Go.Proofs.YtbfdaclekjgkfaaGreatDoor.escutcheonref1_PutReply.f
  by_cases h : RepP e v a b l
  · rw [if_pos h, Option.bind_some]
    by_cases he : (repS e v a b l).toList = s.toList
    · refine ⟨_, .inr ⟨e, v, a, b, l, h, ?_, rfl⟩, by dsimp only; rw [if_pos rfl, if_pos he]⟩
      rw [ByteArray.toList_eq, ByteArray.toList_eq] at he
      exact ByteArray.ext (Array.toList_inj.mp he)
    · exact ⟨_, .inl rfl, by dsimp only; rw [if_pos rfl, if_neg he]; rfl⟩
  · rw [if_neg h, Option.bind_some]
    exact ⟨_, .inl rfl, by dsimp only; rw [if_neg (by decide)]; rfl⟩

theorem loopD (s : ByteArray) (hs : s.size ≤ 3000) (x6 : Nat) (h6 : 19 + x6 < s.size) (M : Nat) (hM : M ≤ 255) (hMe : Hid (bt s (19 + (x6 : Int)) = (M : Int))) (e : Int) (v : ByteArray) (a b : Int) :
    ∀ (d x8 x9 : Nat) (ks : List ByteArray), x9 + d = M → x8 ≤ s.size → ks.length = x9 → ∃ r, Good s r ∧ Ev (fun k => Pg.escutcheonref1_GetReply.l0 k s (x6 : Int) (x8 : Int) (x9 : Int) e v a b ks) r
  | 0, x8, x9, ks, hd, h8, hk => by
    obtain ⟨r, hr, he⟩ := put_end s e v a b ks
    refine ⟨r, hr, Ev.step (f := fun _ => some r) (fun k => ?_) (Ev.now _)⟩
    show Pg.escutcheonref1_GetReply.l0 (k + 1) s (x6 : Int) (x8 : Int) (x9 : Int) e v a b ks = some r
    rw [Pg.escutcheonref1_GetReply.l0, wr (19 + (x6 : Int)) (by omega) (by omega), if_pos (by omega), if_pos (by omega), hMe.out, wr (M : Int) (by omega) (by omega), if_neg (by omega)]
    exact he
  | d + 1, x8, x9, ks, hd, h8, hk => by
    obtain ⟨c, hc, hcl⟩ := bt_nat s (x8 : Int)
    have HC := Lib.hid hc
    clear hc
    by_cases h1 : x8 < s.size
    · by_cases h2 : x8 + 1 + c ≤ s.size
      · obtain ⟨r, hr, he⟩ := loopD s hs x6 h6 M hM hMe e v a b d (x8 + 1 + c) (x9 + 1) (ks ++ [s.extract (x8 + 1) (x8 + 1 + c)]) (by omega) (by omega) (by simp; omega)
        refine ⟨r, hr, Ev.step (fun k => ?_) he⟩
        show Pg.escutcheonref1_GetReply.l0 (k + 1) s (x6 : Int) (x8 : Int) (x9 : Int) e v a b ks = _
        have e1 : Hid (wrap64 ((x8 : Int) + 1) = ((x8 + 1 : Nat) : Int)) := Lib.hid (wr _ (by omega) (by omega))
        have e2 : Hid (wrap64 (((x8 + 1 : Nat) : Int) + (c : Int)) = ((x8 + 1 + c : Nat) : Int)) := Lib.hid (wr _ (by omega) (by omega))
        have e3 : Hid (wrap64 ((x9 : Int) + 1) = ((x9 + 1 : Nat) : Int)) := Lib.hid (wr _ (by omega) (by omega))
        rw [Pg.escutcheonref1_GetReply.l0, wr (19 + (x6 : Int)) (by omega) (by omega), if_pos (by omega), if_pos (by omega), hMe.out, wr (M : Int) (by omega) (by omega), if_pos (by omega), if_neg (by omega), if_pos (by omega), if_pos (by omega), HC.out, wr (c : Int) (by omega) (by omega), e1.out, e2.out, e3.out,
          if_neg (by omega), if_pos (by omega), if_pos (by omega), if_pos (by omega), if_pos (by omega), Int.toNat_natCast, Int.toNat_natCast]
      · refine ⟨zeroRep, .inl rfl, Ev.step (f := fun _ => some zeroRep) (fun k => ?_) (Ev.now _)⟩
        show Pg.escutcheonref1_GetReply.l0 (k + 1) s (x6 : Int) (x8 : Int) (x9 : Int) e v a b ks = _
        have e1 : Hid (wrap64 ((x8 : Int) + 1) = ((x8 + 1 : Nat) : Int)) := Lib.hid (wr _ (by omega) (by omega))
        have e2 : Hid (wrap64 (((x8 + 1 : Nat) : Int) + (c : Int)) = ((x8 + 1 + c : Nat) : Int)) := Lib.hid (wr _ (by omega) (by omega))
        rw [Pg.escutcheonref1_GetReply.l0, wr (19 + (x6 : Int)) (by omega) (by omega), if_pos (by omega), if_pos (by omega), hMe.out, wr (M : Int) (by omega) (by omega), if_pos (by omega), if_neg (by omega), if_pos (by omega), if_pos (by omega), HC.out, wr (c : Int) (by omega) (by omega), e1.out, e2.out,
          if_pos (by omega)]
        rfl
    · refine ⟨zeroRep, .inl rfl, Ev.step (f := fun _ => some zeroRep) (fun k => ?_) (Ev.now _)⟩
      show Pg.escutcheonref1_GetReply.l0 (k + 1) s (x6 : Int) (x8 : Int) (x9 : Int) e v a b ks = _
      rw [Pg.escutcheonref1_GetReply.l0, wr (19 + (x6 : Int)) (by omega) (by omega), if_pos (by omega), if_pos (by omega), hMe.out, wr (M : Int) (by omega) (by omega), if_pos (by omega), if_pos (by omega)]
      rfl

/-- The document answers every text, with a reply whose bytes it is or with none. -/
theorem refD (s : ByteArray) (hs : s.size ≤ 3000) : ∃ r, Good s r ∧ Ev (fun k => Pg.escutcheonref1_GetReply.f k s) r := by
  by_cases h20 : (s.size : Int) < 20
  · exact ⟨zeroRep, .inl rfl, Ev.congr (f := fun _ => some zeroRep) (fun k => by unfold Pg.escutcheonref1_GetReply.f; rw [if_pos h20]; rfl) (Ev.now zeroRep)⟩
  have z : ∀ i j : Nat, (s.extract i j).size ≤ s.size := fun i j => by simp; omega
  obtain ⟨n1, b1, _⟩ := big_some (s.extract 1 9) (by have := z 1 9; omega)
  obtain ⟨n2, b2, _⟩ := big_some (s.extract 9 17) (by have := z 9 17; omega)
  obtain ⟨n3, b3, hn3⟩ := big_some (s.extract 17 19) (by have := z 17 19; omega)
  have hn3 := hn3 (by simp; omega)
  have w3 : Hid (wrap64 (n3 : Int) = (n3 : Int)) := Lib.hid (wr _ (by omega) (by omega))
  have wv : Hid (wrap64 (20 + (n3 : Int)) = ((20 + n3 : Nat) : Int)) := Lib.hid (wr _ (by omega) (by omega))
  have w19 : Hid (wrap64 (19 + (n3 : Int)) = ((19 + n3 : Nat) : Int)) := Lib.hid (wr _ (by omega) (by omega))
  have bad : Ev (fun k => Pg.escutcheonref1_GetReply.j0 k s (n1 : Int) (n2 : Int) (n3 : Int) true) zeroRep :=
    Ev.step (f := fun _ => some zeroRep) (fun k => by show Pg.escutcheonref1_GetReply.j0 (k + 1) s (n1 : Int) (n2 : Int) (n3 : Int) true = _; rw [Pg.escutcheonref1_GetReply.j0, if_pos rfl]; rfl) (Ev.now _)
  have head : ∀ k, Pg.escutcheonref1_GetReply.f k s = if (n1 : Int) > 2000000000000 then (Pg.escutcheonref1_GetReply.j0 k s (n1 : Int) (n2 : Int) (n3 : Int) true) else (if (n2 : Int) > 1000000000000 then (Pg.escutcheonref1_GetReply.j0 k s (n1 : Int) (n2 : Int) (n3 : Int) true) else (Pg.escutcheonref1_GetReply.j0 k s (n1 : Int) (n2 : Int) (n3 : Int) (decide ((s.size : Int) < ((20 + n3 : Nat) : Int))))) := by
    intro k
    unfold Pg.escutcheonref1_GetReply.f
    rw [if_neg h20, if_pos (by decide), if_pos (by omega), b1, Option.bind_some, if_pos (by decide), if_pos (by omega), b2, Option.bind_some, if_pos (by decide), if_pos (by omega), b3, Option.bind_some, w3.out, wv.out]
  by_cases c1 : (n1 : Int) > 2000000000000
  · exact ⟨zeroRep, .inl rfl, Ev.congr (fun k => by rw [head k, if_pos c1]) bad⟩
  by_cases c2 : (n2 : Int) > 1000000000000
  · exact ⟨zeroRep, .inl rfl, Ev.congr (fun k => by rw [head k, if_neg c1, if_pos c2]) bad⟩
  by_cases c3 : (s.size : Int) < ((20 + n3 : Nat) : Int)
  · exact ⟨zeroRep, .inl rfl, Ev.congr (fun k => by rw [head k, if_neg c1, if_neg c2, decide_eq_true c3]) bad⟩
  obtain ⟨M, hMe, hM⟩ := bt_nat s (19 + (n3 : Int))
  obtain ⟨r, hr, he⟩ := loopD s hs n3 (by omega) M hM (Lib.hid hMe) (wrap64 (bt s 0)) (s.extract 19 (19 + n3)) (wrap64 (wrap64 (n1 : Int) - 1000000000000)) (wrap64 (n2 : Int)) M (20 + n3) 0 [] (by omega) (by omega) rfl
  clear hMe
  refine ⟨r, hr, Ev.congr (f := fun k => Pg.escutcheonref1_GetReply.j0 k s (n1 : Int) (n2 : Int) (n3 : Int) false) (fun k => by rw [head k, if_neg c1, if_neg c2, decide_eq_false c3]) (Ev.step (fun k => ?_) he)⟩
  show Pg.escutcheonref1_GetReply.j0 (k + 1) s (n1 : Int) (n2 : Int) (n3 : Int) false = _
  rw [Pg.escutcheonref1_GetReply.j0, if_neg (by decide), if_pos (by omega), w19.out, wv.out, if_pos (by omega), if_pos (by omega), Int.toNat_natCast]
  rfl

theorem bt_mid (P : List UInt8) (c : UInt8) (R : List UInt8) (i : Nat) (h : P.length = i) : bt (bs (P ++ c :: R)) (i : Int) = (c.toNat : Int) := by
  subst h
  rw [bt_bs _ P.length (by simp)]
  simp
theorem ext_mid (P k R : List UInt8) (i j : Nat) (hi : P.length = i) (hj : i + k.length = j) : (bs (P ++ (k ++ R))).extract i j = bs k := by
  rw [bs_extract, List.drop_left' hi, List.take_left' (by omega)]

theorem loopC {e : Int} {v : ByteArray} {a b : Int} {l : List ByteArray} (h : RepP e v a b l) (s : ByteArray) (hs : repS e v a b l = s) (HD : List UInt8) (hH : HD.length = 19 + v.size) (hsl : s = bs (HD ++ UInt8.ofNat l.length :: keysL l)) :
    ∀ (l2 l1 : List ByteArray), l = l1 ++ l2 → Ev (fun k => Pg.escutcheonref1_GetReply.l0 k s (v.size : Int) ((20 + v.size + (keysL l1).length : Nat) : Int) (l1.length : Int) e v a b l1) (e, v, a, b, l, true)
  | [], l1, hl => by
    rw [List.append_nil] at hl
    subst hl
    have hv := h.2.2.2.1
    have hll := h.2.2.2.2.1
    have hsz : s.size = 19 + v.size + (1 + (keysL l).length) := by rw [hsl, bs_size, List.length_append, List.length_cons, hH]; omega
    have hM : bt s (19 + (v.size : Int)) = (l.length : Int) := by
      have := bt_mid HD (UInt8.ofNat l.length) (keysL l) (19 + v.size) hH
      rw [← hsl, ofNat_toNat _ (by omega)] at this
      exact this
    have HM := Lib.hid hM
    clear hM
    refine Ev.step (f := fun _ => some (e, v, a, b, l, true)) (fun k => ?_) (Ev.now _)
    show Pg.escutcheonref1_GetReply.l0 (k + 1) s (v.size : Int) _ (l.length : Int) e v a b l = _
    rw [Pg.escutcheonref1_GetReply.l0, wr (19 + (v.size : Int)) (by omega) (by omega), if_pos (by omega), if_pos (by omega), HM.out, wr (l.length : Int) (by omega) (by omega), if_neg (by omega)]
    unfold Go.Proofs.YtbfdaclekjgkfaaGreatDoor.escutcheonref1_PutReply.f
    rw [if_pos h, Option.bind_some]
    dsimp only
    rw [if_pos rfl, if_pos (by rw [hs])]
  | kk :: l2, l1, hl => by
    have ih := loopC h s hs HD hH hsl l2 (l1 ++ [kk]) (by rw [hl, List.append_assoc]; rfl)
    have hv := h.2.2.2.1
    have hll := h.2.2.2.2.1
    have hkk : kk.size ≤ 60 := h.2.2.2.2.2 kk (by rw [hl]; simp)
    have hkl : kk.data.toList.length = kk.size := (Lib.size_eq kk).symm
    have hlen : l1.length < l.length := by rw [hl, List.length_append, List.length_cons]; omega
    have hkL : keysL l = keysL l1 ++ (UInt8.ofNat kk.size :: (kk.data.toList ++ keysL l2)) := by
      have h1 : keysL l = keysL (l1 ++ kk :: l2) := congrArg keysL hl
      rw [h1, keysL_app, keysL_cons kk l2 (by omega)]
    have hM : bt s (19 + (v.size : Int)) = (l.length : Int) := by
      have := bt_mid HD (UInt8.ofNat l.length) (keysL l) (19 + v.size) hH
      rw [← hsl, ofNat_toNat _ (by omega)] at this
      exact this
    have HM := Lib.hid hM
    clear hM
    have hkk1 : keysL (l1 ++ [kk]) = keysL l1 ++ (UInt8.ofNat kk.size :: kk.data.toList) := by
      rw [keysL_app, keysL_cons kk [] (by omega)]
      simp [keysL]
    have hP : (HD ++ UInt8.ofNat l.length :: keysL l1).length = 20 + v.size + (keysL l1).length := by rw [List.length_append, List.length_cons, hH]; omega
    have hP' : (HD ++ UInt8.ofNat l.length :: (keysL l1 ++ [UInt8.ofNat kk.size])).length = 20 + v.size + (keysL l1).length + 1 := by simp [hH]; omega
    have hs1 : s = bs ((HD ++ UInt8.ofNat l.length :: keysL l1) ++ UInt8.ofNat kk.size :: (kk.data.toList ++ keysL l2)) := by rw [hsl, hkL]; simp
    have hs2 : s = bs ((HD ++ UInt8.ofNat l.length :: (keysL l1 ++ [UInt8.ofNat kk.size])) ++ (kk.data.toList ++ keysL l2)) := by rw [hsl, hkL]; simp
    have hsz : s.size = 20 + v.size + (keysL l1).length + (1 + (kk.size + (keysL l2).length)) := by rw [hs1, bs_size, List.length_append, hP, List.length_cons, List.length_append, hkl]; omega
    have hc : bt s ((20 + v.size + (keysL l1).length : Nat) : Int) = (kk.size : Int) := by
      have := bt_mid _ (UInt8.ofNat kk.size) (kk.data.toList ++ keysL l2) _ hP
      rw [← hs1, ofNat_toNat _ (by omega)] at this
      exact this
    have HC := Lib.hid hc
    clear hc
    have hx : s.extract (20 + v.size + (keysL l1).length + 1) (20 + v.size + (keysL l1).length + 1 + kk.size) = kk := by
      have := ext_mid _ kk.data.toList (keysL l2) _ (20 + v.size + (keysL l1).length + 1 + kk.size) hP' (by rw [hkl])
      rw [← hs2, bs_of] at this
      exact this
    have hK1 : (keysL l1).length ≤ 61 * l1.length := keysL_len l1 (fun x hx => h.2.2.2.2.2 x (by rw [hl]; exact List.mem_append_left _ hx))
    have hK2 : (keysL l2).length ≤ 61 * l2.length := keysL_len l2 (fun x hx => h.2.2.2.2.2 x (by rw [hl]; exact List.mem_append_right _ (List.mem_cons_of_mem _ hx)))
    have hl12 : l.length = l1.length + (l2.length + 1) := by rw [hl, List.length_append, List.length_cons]
    rw [hkk1, List.length_append, List.length_append, List.length_cons, hkl] at ih
    refine Ev.step (fun k => ?_) ih
    show Pg.escutcheonref1_GetReply.l0 (k + 1) s (v.size : Int) ((20 + v.size + (keysL l1).length : Nat) : Int) (l1.length : Int) e v a b l1 = _
    clear hs1 hs2 hsl hs hP hP' hkk1 hkL ih hl
    generalize (keysL l1).length = K1 at *
    generalize (keysL l2).length = K2 at *
    have e1 : Hid (wrap64 (((20 + v.size + K1 : Nat) : Int) + 1) = ((20 + v.size + K1 + 1 : Nat) : Int)) := Lib.hid (wr _ (by omega) (by omega))
    have e2 : Hid (wrap64 (((20 + v.size + K1 + 1 : Nat) : Int) + (kk.size : Int)) = ((20 + v.size + K1 + 1 + kk.size : Nat) : Int)) := Lib.hid (wr _ (by omega) (by omega))
    have e3 : Hid (wrap64 ((l1.length : Int) + 1) = ((l1.length + 1 : Nat) : Int)) := Lib.hid (wr _ (by omega) (by omega))
    rw [Pg.escutcheonref1_GetReply.l0, wr (19 + (v.size : Int)) (by omega) (by omega), if_pos (by omega), if_pos (by omega), HM.out, wr (l.length : Int) (by omega) (by omega), if_pos (by omega), if_neg (by omega), if_pos (by omega), if_pos (by omega), HC.out, wr (kk.size : Int) (by omega) (by omega), e1.out, e2.out, e3.out,
      if_neg (by omega), if_pos (by omega), if_pos (by omega), if_pos (by omega), if_pos (by omega), Int.toNat_natCast, Int.toNat_natCast, hx]
    rw [show 20 + v.size + (K1 + (kk.size + 1)) = 20 + v.size + K1 + 1 + kk.size by omega]
    rfl

/-- The document reads a reply's bytes back. -/
theorem refC {e : Int} {v : ByteArray} {a b : Int} {l : List ByteArray} (h : RepP e v a b l) : Ev (fun k => Pg.escutcheonref1_GetReply.f k (repS e v a b l)) (e, v, a, b, l, true) := by
  have hP := h
  obtain ⟨h1, h2, ⟨h3, h4, h5, h6⟩, h7, h8, h9⟩ := id h
  obtain ⟨en, rfl⟩ := Int.eq_ofNat_of_zero_le h1
  obtain ⟨bn, rfl⟩ := Int.eq_ofNat_of_zero_le h5
  obtain ⟨an, han⟩ := Int.eq_ofNat_of_zero_le (show 0 ≤ a + 1000000000000 by omega)
  have hen : en ≤ 15 := by omega
  have hbn : bn ≤ 1000000000000 := by omega
  have han2 : an ≤ 2000000000000 := by omega
  have hvl : v.data.toList.length = v.size := (Lib.size_eq v).symm
  have hs : repS (en : Int) v a (bn : Int) l = bs (repB en an bn v.data.toList l.length (keysL l)) := by
    show bs (repL _ _ _ _ _) = _
    rw [repL_eq hP, han]
    rfl
  have p8 := pbytes_length 8 an
  have q8 := pbytes_length 8 bn
  have z2 := pbytes_length 2 v.data.toList.length
  have pb := bigL_pbytes 8 an (Nat.lt_of_le_of_lt han2 (by decide))
  have qb := bigL_pbytes 8 bn (Nat.lt_of_le_of_lt hbn (by decide))
  have zb := bigL_pbytes 2 v.data.toList.length (by rw [hvl]; exact Nat.lt_of_le_of_lt h7 (by decide))
  unfold repB at hs
  rw [hvl] at z2 zb hs
  generalize pbytes an 8 = p at *
  generalize pbytes bn 8 = q at *
  generalize pbytes v.size 2 = z at *
  have wa : Hid (wrap64 (wrap64 (an : Int) - 1000000000000) = a) := Lib.hid (by
    rw [wrap_small _ (by omega)]
    unfold wrap64
    omega)
  have wb : Hid (wrap64 (bn : Int) = bn) := Lib.hid (wrap_small _ (by omega))
  have wv : Hid (wrap64 (v.size : Int) = v.size) := Lib.hid (wrap_small _ (by omega))
  have loop := loopC hP _ rfl (UInt8.ofNat en :: (p ++ (q ++ (z ++ v.data.toList)))) (by simp; omega) (by rw [hs]; simp) l [] rfl
  generalize repS (en : Int) v a (bn : Int) l = s at hs loop ⊢
  have x1 : s.extract 1 9 = bs p := by rw [hs]; exact ext_mid [UInt8.ofNat en] p _ 1 9 rfl (by omega)
  have x2 : s.extract 9 17 = bs q := by
    rw [hs]
    have := ext_mid (UInt8.ofNat en :: p) q (z ++ (v.data.toList ++ UInt8.ofNat l.length :: keysL l)) 9 17 (by simp; omega) (by omega)
    simpa using this
  have x3 : s.extract 17 19 = bs z := by
    rw [hs]
    have := ext_mid (UInt8.ofNat en :: (p ++ q)) z (v.data.toList ++ UInt8.ofNat l.length :: keysL l) 17 19 (by simp; omega) (by omega)
    simpa using this
  have x4 : s.extract 19 (19 + v.size) = v := by
    rw [hs]
    have := ext_mid (UInt8.ofNat en :: (p ++ (q ++ z))) v.data.toList (UInt8.ofNat l.length :: keysL l) 19 (19 + v.size) (by simp; omega) (by omega)
    rw [bs_of] at this
    simpa using this
  have x0 : bt s 0 = (en : Int) := by
    rw [hs]
    have := bt_mid [] (UInt8.ofNat en) (p ++ (q ++ (z ++ (v.data.toList ++ UInt8.ofNat l.length :: keysL l)))) 0 rfl
    rw [ofNat_toNat _ (by omega)] at this
    exact this
  have X0 := Lib.hid x0
  clear x0
  have hsz : s.size = 20 + v.size + (keysL l).length := by rw [hs, bs_size]; simp [hvl]; omega
  have b1 : escutcheonref1_Big.f (s.extract 1 9) = some (an : Int) := by rw [x1, rbig_le p (by omega), pb]
  have b2 : escutcheonref1_Big.f (s.extract 9 17) = some (bn : Int) := by rw [x2, rbig_le q (by omega), qb]
  have b3 : escutcheonref1_Big.f (s.extract 17 19) = some (v.size : Int) := by rw [x3, rbig_le z (by omega), zb]
  have w20 : Hid (wrap64 (20 + (v.size : Int)) = ((20 + v.size : Nat) : Int)) := Lib.hid (wr _ (by omega) (by omega))
  have w19 : Hid (wrap64 (19 + (v.size : Int)) = ((19 + v.size : Nat) : Int)) := Lib.hid (wr _ (by omega) (by omega))
  have wz : Hid (wrap64 (en : Int) = (en : Int)) := Lib.hid (wrap_small _ (by omega))
  clear pb qb zb x1 x2 x3
  generalize (keysL l).length = K at *
  unfold Pg.escutcheonref1_GetReply.f
  refine Ev.congr (f := fun k => Pg.escutcheonref1_GetReply.j0 k s (an : Int) (bn : Int) (v.size : Int) false) (fun k => ?_) (Ev.step (fun k => ?_) loop)
  · rw [if_neg (by omega), if_pos (by decide), if_pos (by omega), b1, Option.bind_some, if_pos (by decide), if_pos (by omega), b2, Option.bind_some, if_pos (by decide), if_pos (by omega), b3, Option.bind_some, wv.out, w20.out, if_neg (by omega), if_neg (by omega), decide_eq_false (by omega)]
  · show Pg.escutcheonref1_GetReply.j0 (k + 1) s (an : Int) (bn : Int) (v.size : Int) false = _
    rw [Pg.escutcheonref1_GetReply.j0, if_neg (by decide), if_pos (by omega), w19.out, w20.out, if_pos (by omega), if_pos (by omega), Int.toNat_natCast, x4, wa.out, wb.out, X0.out, wz.out]
    rfl

/-- What both readings answer. -/
def ansR (s : ByteArray) : RT := if repOk s (gotR s) = true then ((gotR s).e, (gotR s).v, (gotR s).a, (gotR s).b, (gotR s).ks, true) else zeroRep
theorem ref_ev (s : ByteArray) (hs : s.size ≤ 3000) : Ev (fun k => Pg.escutcheonref1_GetReply.f k s) (ansR s) := by
  unfold ansR
  by_cases h : repOk s (gotR s) = true
  · rw [if_pos h]
    obtain ⟨h1, h2⟩ := rep_of h
    have := refC h1
    rw [h2] at this
    exact this
  · rw [if_neg h]
    obtain ⟨r, hr | ⟨e, v, a, b, l, hp, hse, rfl⟩, he⟩ := refD s hs
    · rw [hr] at he
      exact he
    · subst hse
      exact absurd (rep_ok hp) h
end Go.Proofs.YtbfdaclekjgkfaaGreatDoor.Bk
