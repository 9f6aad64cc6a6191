import Derived.Test.YtbfdaclekjgkfaaGreatDoorGp
import Derived.Test.YtbfdaclekjgkfaaGreatDoorPu
import Derived.Test.YtbfdaclekjgkfaaGreatDoorBkta
import Derived.Test.YtbfdaclekjgkfaaGreatDoorAlive
import Derived.Test.YtbfdaclekjgkfaaGreatDoorWrap2

/- ReplyTells: the book's marks, lists alike, and what GetReply answers in one form. -/
set_option linter.unusedVariables false
namespace Go.Proofs.YtbfdaclekjgkfaaGreatDoor.Bk
open Go.RowKit Go.Proofs.YtbfdaclekjgkfaaGreatDoor Go.Proofs.YtbfdaclekjgkfaaGreatDoorW.PrintWords Go.Proofs.YtbfdaclekjgkfaaGreatDoorW.PrintLast

theorem markT_ev (i a n : Nat) (ha : a ≤ 20000) (hn : n ≤ 20000) : Ev (fun k => Pl.escutcheonbook_markTexts.f k (i : Int) (a : Int) (n : Int)) (mkOf mkT i a n) := by
  have key : ∀ (d j : Nat), j + d = n → Ev (fun k => Pl.escutcheonbook_markTexts.l0 k (i : Int) (a : Int) (n : Int) (mkOf mkT i a j) ((a + j : Nat) : Int)) (mkOf mkT i a n) := by
    intro d
    induction d with
    | zero =>
      intro j hj
      obtain rfl : j = n := by omega
      refine Ev.step (f := fun _ => some (mkOf mkT i a j)) (fun k => ?_) (Ev.now _)
      show Pl.escutcheonbook_markTexts.l0 (k + 1) (i : Int) (a : Int) (j : Int) (mkOf mkT i a j) ((a + j : Nat) : Int) = _
      rw [Pl.escutcheonbook_markTexts.l0, wr ((a : Int) + (j : Int)) (by omega) (by omega), if_neg (by omega)]
    | succ d ih =>
      intro j hj
      refine Ev.step (f := fun k => Pl.escutcheonbook_markTexts.l0 k (i : Int) (a : Int) (n : Int) (mkOf mkT i a (j + 1)) ((a + (j + 1) : Nat) : Int)) (fun k => ?_) (ih (j + 1) (by omega))
      show Pl.escutcheonbook_markTexts.l0 (k + 1) (i : Int) (a : Int) (n : Int) (mkOf mkT i a j) ((a + j : Nat) : Int) = _
      have hm : Pl.escutcheonbook_name.f (i : Int) ((a + j : Nat) : Int) = some (mkT i (a + j)) := rfl
      have e1 : Hid (wrap64 (((a + j : Nat) : Int) + 1) = ((a + (j + 1) : Nat) : Int)) := Lib.hid (wr _ (by omega) (by omega))
      rw [Pl.escutcheonbook_markTexts.l0, wr ((a : Int) + (n : Int)) (by omega) (by omega), if_pos (by omega), hm, Option.bind_some, if_pos (by rw [mkOf_len]; omega), e1.out]
      have e : mkOf mkT i a (j + 1) = mkOf mkT i a j ++ [mkT i (a + j)] := by unfold mkOf; rw [List.range_succ, List.map_append]; rfl
      rw [e]
  exact key n 0 (by omega)

theorem sameT_ev (l : List ByteArray) (hn : l.length ≤ 90000) : Ev (fun k => Pl.escutcheonbook_SameTexts.f k l l) true := by
  have key : ∀ (d i : Nat), i + d = l.length → Ev (fun k => Pl.escutcheonbook_SameTexts.l0 k l l (i : Int)) true := by
    intro d
    induction d with
    | zero =>
      intro i hi
      refine Ev.step (f := fun _ => some true) (fun k => ?_) (Ev.now _)
      show Pl.escutcheonbook_SameTexts.l0 (k + 1) l l (i : Int) = _
      rw [Pl.escutcheonbook_SameTexts.l0, if_neg (by omega)]
    | succ d ih =>
      intro i hi
      refine Ev.step (f := fun k => Pl.escutcheonbook_SameTexts.l0 k l l ((i + 1 : Nat) : Int)) (fun k => ?_) (ih (i + 1) (by omega))
      show Pl.escutcheonbook_SameTexts.l0 (k + 1) l l (i : Int) = _
      rw [Pl.escutcheonbook_SameTexts.l0, if_pos (by omega), if_pos (by omega), if_pos (by omega), if_pos rfl, wr ((i : Int) + 1) (by omega) (by omega)]
      rfl
  unfold Pl.escutcheonbook_SameTexts.f
  exact Ev.congr (f := fun k => Pl.escutcheonbook_SameTexts.l0 k l l ((0 : Nat) : Int)) (fun k => by rw [if_pos rfl]; rfl) (key l.length 0 (by omega))

theorem copyT_is (l : List ByteArray) (h : l.length ≤ 90000) : Pl.escutcheonbook_copyTexts.f l = some l := by
  unfold Pl.escutcheonbook_copyTexts.f
  rw [if_pos (by show 0 + l.length < _; omega)]
  rfl
theorem lentT_is (l : List ByteArray) (h : l.length ≤ 90000) : Pu.escutcheonbook_LentTexts.f l = some l := by
  have hc : Pu.escutcheonbook_copyTexts.f l = some l := by
    unfold Pu.escutcheonbook_copyTexts.f
    rw [if_pos (by show 0 + l.length < _; omega)]
    rfl
  unfold Pu.escutcheonbook_LentTexts.f
  rw [hc, Option.bind_some, if_pos (by omega), Option.bind_some, if_pos (by omega), if_pos (by rw [List.length_append]; omega), Int.toNat_natCast, List.take_left]
theorem staysT_ev (l : List ByteArray) (hn : l.length ≤ 90000) : Ev (fun k => Pu.escutcheonbook_StaysTexts.f k l l) true := by
  unfold Pu.escutcheonbook_StaysTexts.f
  exact Ev.bind (sameT_ev l hn) (Ev.now _)
theorem sameRep_ev (e : Int) (v : ByteArray) (a b : Int) (l : List ByteArray) (hn : l.length ≤ 90000) : Ev (fun k => Pl.escutcheonbook_SameReply.f k e v a b l e v a b l) true := by
  unfold Pl.escutcheonbook_SameReply.f
  exact Ev.congr (fun k => by rw [if_pos rfl, if_pos rfl, if_pos rfl, if_pos rfl]) (Ev.bind (sameT_ev l hn) (Ev.now _))

/-- What command.GetReply leaves, in one form. -/
def GetAE (e : Int) (v : ByteArray) (a b : Int) (ks : List ByteArray) (ok : Bool) (w : World) (x : Ending) (w' : World) : Prop :=
  ∃ A c, x = .returned (.tuple #[.agg #[.int .i64 e, .string v, .int .i64 a, .int .i64 b, .slice A ks.length c], .bool ok]) ∧ Kd.R Kd.string 9 w' w.heap.size (fun _ => True) (.slice A ks.length c) ks ∧ Below w.heap.size w w'
theorem getRE_ans {s : ByteArray} {w w' : World} {x : Ending} {e : Int} {v : ByteArray} {a b : Int} {ks : List ByteArray} {ok : Bool} (ha : ansR s = (e, v, a, b, ks, ok)) (h : GetRE s w x w') : GetAE e v a b ks ok w x w' := by
  unfold ansR at ha
  unfold GetRE at h
  by_cases hr : repOk s (gotR s) = true
  · rw [if_pos hr] at ha h
    simp only [Prod.mk.injEq] at ha
    obtain ⟨rfl, rfl, rfl, rfl, rfl, rfl⟩ := ha
    exact h
  · rw [if_neg hr] at ha h
    unfold zeroRep at ha
    simp only [Prod.mk.injEq] at ha
    obtain ⟨rfl, rfl, rfl, rfl, rfl, rfl⟩ := ha
    exact ⟨none, 0, h.1, Kd.R_nil _ _ _ _ _, h.2⟩
theorem ansR_len (s : ByteArray) (e : Int) (v : ByteArray) (a b : Int) (ks : List ByteArray) (ok : Bool) (ha : ansR s = (e, v, a, b, ks, ok)) : ks.length ≤ 40 := by
  unfold ansR at ha
  by_cases hr : repOk s (gotR s) = true
  · rw [if_pos hr] at ha
    simp only [Prod.mk.injEq] at ha
    obtain ⟨rfl, rfl, rfl, rfl, rfl, rfl⟩ := ha
    exact (rep_of hr).1.2.2.2.2.1
  · rw [if_neg hr] at ha
    unfold zeroRep at ha
    simp only [Prod.mk.injEq] at ha
    obtain ⟨rfl, rfl, rfl, rfl, rfl, rfl⟩ := ha
    exact Nat.zero_le _
/-- What PutReply puts is read as the reply; what it does not put is none. -/
theorem ansR_put (e : Int) (v : ByteArray) (a b : Int) (l : List ByteArray) :
    ansR (if RepP e v a b l then repS e v a b l else ⟨#[]⟩) = if RepP e v a b l then (e, v, a, b, l, true) else zeroRep := by
  by_cases h : RepP e v a b l
  · rw [if_pos h, if_pos h]
    unfold ansR
    rw [if_pos (rep_ok h), gotR_rep h]
  · rw [if_neg h, if_neg h]
    unfold ansR
    rw [if_neg]
    intro hr
    have h2 := (rep_of hr).2
    have := congrArg ByteArray.size h2
    have hz : ∀ e v a b l, 20 ≤ (repS e v a b l).size := fun e v a b l => by
      rw [← accX_end, accX_size]
      omega
    have h3 := hz (gotR ⟨#[]⟩).e (gotR ⟨#[]⟩).v (gotR ⟨#[]⟩).a (gotR ⟨#[]⟩).b (gotR ⟨#[]⟩).ks
    rw [this] at h3
    exact absurd h3 (by decide)
end Go.Proofs.YtbfdaclekjgkfaaGreatDoor.Bk

/- ReplyTells: the walk. -/
set_option linter.unusedVariables false
namespace Go.Proofs.YtbfdaclekjgkfaaGreatDoor.Bk
open Go.RowKit Go.Proofs.YtbfdaclekjgkfaaGreatDoor Go.Proofs.YtbfdaclekjgkfaaGreatDoorW.PrintWords Go.Proofs.YtbfdaclekjgkfaaGreatDoorW.PrintLast

def bookC : Array Value := #[.slice none 0 0, .slice none 0 0, .slice none 0 0, .slice none 0 0, .slice none 0 0, .slice none 0 0, .slice none 0 0, .slice none 0 0, .slice none 0 0, .slice none 0 0, .slice none 0 0, .slice none 0 0, .slice none 0 0, .slice none 0 0]
theorem bookC_at (i : Nat) (h : i < 14) : bookC[i]? = some (.slice none 0 0) := by
  unfold bookC
  rcases i with _|_|_|_|_|_|_|_|_|_|_|_|_|_|i
  all_goals first | rfl | omega
def zero5 : Obj := .cells #[.int .i64 0, .string ⟨#[]⟩, .int .i64 0, .int .i64 0, .slice none 0 0] 25
theorem put_new (W : World) (e : Int) (v : ByteArray) (a b : Int) (kv : Value) :
    Below W.heap.size W (put5R (W.alloc zero5) W.heap.size e v a b kv) ∧ (put5R (W.alloc zero5) W.heap.size e v a b kv).heap[W.heap.size]? = some (.cells #[.int .i64 e, .string v, .int .i64 a, .int .i64 b, kv] 25 (0, 0)) := by
  refine ⟨?_, put5R_blk (heap_alloc_new W _) _ _ _ _ _⟩
  exact (put5R_tch _ _ _ _ _ _ _).below ((Below.refl _ W).alloc (Nat.le_refl _) _) (by simp) (fun k h => by omega)

/-- Keys short enough for the law. -/
def Short (l : List ByteArray) : Prop := ∀ k ∈ l, k.size ≤ 100
theorem put_ans {e : Int} {v : ByteArray} {a b : Int} {l : List ByteArray} {p1 : ByteArray} {p2 : Bool} {x1 : Int} {x2 : ByteArray} {x3 x4 : Int} {xk : List ByteArray} {xok : Bool}
    (hp : (if RepP e v a b l then (repS e v a b l, true) else ((⟨#[]⟩ : ByteArray), false)) = (p1, p2)) (hx : ansR p1 = (x1, x2, x3, x4, xk, xok)) :
    p2 = xok ∧ (xok = true → x1 = e ∧ x2 = v ∧ x3 = a ∧ x4 = b ∧ xk = l) ∧ p1.size ≤ 3000 := by
  have h1 := ansR_put e v a b l
  by_cases hR : RepP e v a b l
  · rw [if_pos hR] at hp
    simp only [Prod.mk.injEq] at hp
    obtain ⟨rfl, rfl⟩ := hp
    rw [if_pos hR, if_pos hR, hx] at h1
    simp only [Prod.mk.injEq] at h1
    obtain ⟨h1, h2, h3, h4, h5, h6⟩ := h1
    refine ⟨h6.symm, fun _ => ⟨h1, h2, h3, h4, h5⟩, ?_⟩
    have hz := repS_size e v a b l
    have hk := keysL_len l hR.2.2.2.2.2
    have hv := hR.2.2.2.1
    have hl := hR.2.2.2.2.1
    omega
  · rw [if_neg hR] at hp
    simp only [Prod.mk.injEq] at hp
    obtain ⟨rfl, rfl⟩ := hp
    rw [if_neg hR, if_neg hR, hx] at h1
    unfold zeroRep at h1
    simp only [Prod.mk.injEq] at h1
    obtain ⟨h1, h2, h3, h4, h5, h6⟩ := h1
    refine ⟨h6.symm, fun h => ?_, by decide⟩
    rw [h6] at h
    cases h
set_option maxHeartbeats 6400000 in
set_option maxRecDepth 100000 in
theorem reply_walk (e : Int) (v : ByteArray) (a b : Int) (A : Option Addr) (c : Nat) (l : List ByteArray) (s : ByteArray) (w : World) (hL : Laid w) (hc : l.length ≤ c) (hC : Kd.C Kd.string w A l.length l) (z1 : v.size ≤ 1000) (z2 : l.length ≤ 100) (z3 : s.size ≤ 3000) :
    Calls Tryz.prog 3 #[.agg #[.int .i64 e, .string v, .int .i64 a, .int .i64 b, .slice A l.length c], .string s] w fun x w' => x = .returned (.bool true) ∧ Below w.heap.size w w' := by
  have HLw : Hid (∀ W : World, Below w.heap.size w W → Laid W) := Lib.hid (fun W h => Laid.below hL rfl h)
  have HC := Lib.hid hC
  clear hC hL
  have t1 : decide (1000 < (v.size : Int)) = false := decide_eq_false (by omega)
  have t2 : decide (100 < (l.length : Int)) = false := decide_eq_false (by omega)
  have t3 : decide (3000 < (s.size : Int)) = false := decide_eq_false (by omega)
  go_enter Tryz.func3, Tryz.ntmps3
  go_wp2_with fail
  have hg0 := heap_alloc_new w (.cells #[.int .i64 e, .string v, .int .i64 a, .int .i64 b, .slice A l.length c] 25)
  have hb0 : Below w.heap.size w (w.alloc (.cells #[.int .i64 e, .string v, .int .i64 a, .int .i64 b, .slice A l.length c] 25)) := (Below.refl w.heap.size w).alloc (Nat.le_refl _) _
  refine (alive_any _ (HLw.out _ hb0)).mono ?_
  rintro x w1 ⟨rfl, hb1⟩
  have HG1 := Lib.hid (blk_below hg0 hb1)
  have HB1 := Lib.hid (hb0.trans (hb1.mono hb0.size))
  clear hg0 hb0 hb1
  go_wp2
  go_loopw [5] (fun i W => ∃ k : Nat, i = .int .i64 k ∧ k ≤ l.length ∧ W.heap[w.heap.size]? = some (.cells #[.int .i64 e, .string v, .int .i64 a, .int .i64 b, .slice A l.length c] 25 (0, 0)) ∧ Below w.heap.size w W) (fun i _ => l.length - (intOf i).toNat)
  case atStart => exact ⟨0, rfl, Nat.zero_le _, HG1.out, HB1.out⟩
  case round =>
    clear HG1 HB1
    obtain ⟨k, rfl, hk, hgk, hbk⟩ := hrel
    have HGK := Lib.hid hgk
    have HBK := Lib.hid hbk
    have hgl := blk_lt hgk
    obtain ⟨c0, c1, c2, c3, c4⟩ := blk5_cells hgk
    clear hgk hbk
    by_cases hlt : k < l.length
    · obtain ⟨kk, hkk⟩ := lt_some hlt
      obtain ⟨ad, rfl, q1⟩ := Kd.at_string (Kd.C_below HC.out HBK.out) k (by omega) (by omega)
      have hrd : rdOf ByteArray.empty l (k : Int) = kk := by unfold rdOf; rw [List.getD_eq_getElem?_getD, Int.toNat_natCast, hkk]; rfl
      rw [hrd, Int.toNat_natCast] at q1
      clear hrd hkk
      by_cases h100 : kk.size ≤ 100
      · have t7 : decide (100 < (kk.size : Int)) = false := decide_eq_false (by omega)
        go_wp2
        go_roundw
        case rel => exact ⟨k + 1, by go_num, by omega, HGK.out, HBK.out⟩
        case measure => simp [intOf]; omega
      · have t7 : decide (100 < (kk.size : Int)) = true := decide_eq_true (by omega)
        go_wp2
        go_ret
        exact ⟨rfl, HBK.out⟩
    · obtain rfl : k = l.length := by omega
      clear hlt t1 t2 t3
      go_wp2_with fail
      obtain ⟨g, hgd⟩ : ∃ g, g = wr.heap.size := ⟨_, rfl⟩
      have hgm : (wr.alloc (.cells #[.int .i64 e, .string v, .int .i64 a, .int .i64 b, .slice A l.length c] 25)).heap[g]? = some (.cells #[.int .i64 e, .string v, .int .i64 a, .int .i64 b, .slice A l.length c] 25 (0, 0)) := by rw [hgd]; exact heap_alloc_new wr _
      have hb2 : Below w.heap.size w (wr.alloc (.cells #[.int .i64 e, .string v, .int .i64 a, .int .i64 b, .slice A l.length c] 25)) := HBK.out.alloc HBK.out.size _
      have hg2 := blk_alloc HGK.out (.cells #[.int .i64 e, .string v, .int .i64 a, .int .i64 b, .slice A l.length c] 25)
      have hgw : w.heap.size < g := by rw [hgd]; exact hgl
      rw [← hgd]
      change Calls _ _ _ (wr.alloc (.cells #[.int .i64 e, .string v, .int .i64 a, .int .i64 b, .slice A l.length c] 25)) _
      generalize wr.alloc (.cells #[.int .i64 e, .string v, .int .i64 a, .int .i64 b, .slice A l.length c] 25) = w2 at hgm hb2 hg2 ⊢
      clear c0 c1 c2 c3 c4 HGK HBK hgd hgl
      refine (Pu.escutcheonbook_LentTexts.calls A c l l w2 (Kd.C_below HC.out hb2) hc (lentT_is l (by omega))).mono ?_
      rintro x w3 ⟨A3, k3, rfl, hk3, hR3, hb3⟩
      have hm3 := blk_below hgm hb3
      have hr3 := blk_below hg2 hb3
      have HB3 := Lib.hid (hb2.trans (hb3.mono hb2.size))
      have hgl3 := blk_lt hm3
      have hgl2 := blk_lt hgm
      have off3 : ∀ k, (Value.slice A3 (l.length + 1) k3).ownBlock = some k → ¬ k = g := fun k a => R_off hR3 hm3 (by decide) k a
      have hs4 : (w3.setCell ⟨g, 4, none⟩ (.slice A3 l.length k3)).heap[g]? = some (.cells #[.int .i64 e, .string v, .int .i64 a, .int .i64 b, .slice A3 l.length k3] 25 (0, 0)) := (blk_set hm3 4 _).trans rfl
      have hr4 : (w3.setCell ⟨g, 4, none⟩ (.slice A3 l.length k3)).heap[w.heap.size]? = some (.cells #[.int .i64 e, .string v, .int .i64 a, .int .i64 b, .slice A l.length c] 25 (0, 0)) := (Below.heap_setCell _ _ _ _ (by show w.heap.size ≠ g; omega)).trans hr3
      have hR4 : Kd.R Kd.string 9 (w3.setCell ⟨g, 4, none⟩ (.slice A3 l.length k3)) w2.heap.size (fun _ => True) (.slice A3 (l.length + 1) k3) (l ++ [Pu.mk77]) := R_tch rfl hR3 (Tch.set w3 _ _) off3
      have hb4 : Below w.heap.size w (w3.setCell ⟨g, 4, none⟩ (.slice A3 l.length k3)) := HB3.out.setCell (by show w.heap.size ≤ g; omega) _
      have hs5 := blk_alloc hs4 (.cells bookC 37)
      have hr5 := blk_alloc hr4 (.cells bookC 37)
      have hR5 := Kd.R_alloc hR4 (.cells bookC 37)
      have hb5 := hb4.alloc hb4.size (.cells bookC 37)
      obtain ⟨h, hhd⟩ : ∃ h, h = (w3.setCell ⟨g, 4, none⟩ (.slice A3 l.length k3)).heap.size := ⟨_, rfl⟩
      have hk5 : ((w3.setCell ⟨g, 4, none⟩ (.slice A3 l.length k3)).alloc (.cells bookC 37)).heap[h]? = some (.cells bookC 37 (0, 0)) := by rw [hhd]; exact heap_alloc_new _ _
      have hh3 : h = w3.heap.size := by rw [hhd]; simp
      have HM5 := Lib.hid hs5; have HR5 := Lib.hid hr5; have HRR5 := Lib.hid hR5; have HB5 := Lib.hid hb5; have HK5 := Lib.hid hk5
      have hcell := blk5_cells hs5
      unfold bookC at hcell
      obtain ⟨y0, y1, y2, y3, y4⟩ := hcell
      obtain ⟨c0, c1, c2, c3, c4⟩ := blk5_cells hm3
      have cf := blk_frozen hm3 4
      clear hm3 hr3 hs4 hr4 hR4 hb4 hs5 hr5 hR5 hb5 hk5 hgm hg2 hR3 off3
      go_wp2_with fail
      rw [← hh3]
      change Calls _ _ _ ((w3.setCell ⟨g, 4, none⟩ (.slice A3 l.length k3)).alloc (.cells bookC 37)) _
      have hgh : g < h := by rw [hh3]; exact hgl3
      clear y0 y1 y2 y3 y4 c0 c1 c2 c3 c4 cf hh3 hhd
      generalize ((w3.setCell ⟨g, 4, none⟩ (.slice A3 l.length k3)).alloc (.cells bookC 37)) = w4 at HM5 HR5 HRR5 HB5 HK5 ⊢
      obtain ⟨p1, p2, hp⟩ : ∃ p1 p2, (if RepP e v a b l then (repS e v a b l, true) else ((⟨#[]⟩ : ByteArray), false)) = (p1, p2) := ⟨_, _, rfl⟩
      have HPP := Lib.hid hp
      obtain ⟨_, _, hC4⟩ := Kd.R_reads' HRR5.out
      refine (command_PutReply.calls e v a b A3 k3 l p1 p2 w4 (Pu.C_pre hC4) (by omega) (congrArg some hp)).mono ?_
      clear hp hC4
      rintro x w5 ⟨rfl, hb_⟩
      have HR6 := Lib.hid (blk_below HR5.out hb_)
      have HM6 := Lib.hid (blk_below HM5.out hb_)
      have HK6 := Lib.hid (blk_below HK5.out hb_)
      have HRR6 := Lib.hid (Kd.R_below HRR5.out hb_)
      have HB6 := Lib.hid (HB5.out.trans (hb_.mono HB5.out.size))
      clear HR5 HM5 HK5 HRR5 HB5 hb_
      obtain ⟨c0, c1, c2, c3, c4⟩ := blk5_cells HR6.out
      go_wp2_with fail
      refine (Bk.escutcheonref1_PutReply.calls e v a b A c l p1 p2 w5 (Kd.C_below HC.out HB6.out) hc (congrArg some HPP.out)).mono ?_
      rintro x w6 ⟨rfl, hb_⟩
      clear c0 c1 c2 c3 c4
      have HR7 := Lib.hid (blk_below HR6.out hb_)
      have HM7 := Lib.hid (blk_below HM6.out hb_)
      have HK7 := Lib.hid (blk_below HK6.out hb_)
      have HRR7 := Lib.hid (Kd.R_below HRR6.out hb_)
      have HB7 := Lib.hid (HB6.out.trans (hb_.mono HB6.out.size))
      clear HR6 HM6 HK6 HRR6 HB6 hb_
      have LE1 := Lib.hid HB7.out.size
      obtain ⟨⟨d1, d2, d3, d4, dk, dok⟩, hans⟩ : ∃ r : RT, ansR s = r := ⟨_, rfl⟩
      have hdl := ansR_len s _ _ _ _ _ _ hans
      obtain ⟨kx, hkx⟩ := (ref_ev s z3).rounds
      rw [hans] at hkx
      have HANS := Lib.hid hans; have HKX := Lib.hid hkx
      clear hans hkx
      go_wp2_with fail
      refine (getReply_any s w6 (by omega)).mono ?_
      intro x w7 hG
      obtain ⟨Ad, cd, rfl, hRd, hb_⟩ := getRE_ans HANS.out hG
      clear hG
      have HR8 := Lib.hid (blk_below HR7.out hb_)
      have HM8 := Lib.hid (blk_below HM7.out hb_)
      have HK8 := Lib.hid (blk_below HK7.out hb_)
      have HRR8 := Lib.hid (Kd.R_below HRR7.out hb_)
      have HB8 := Lib.hid (HB7.out.trans (hb_.mono HB7.out.size))
      clear HR7 HM7 HK7 HRR7 HB7 hb_
      have HD8 := Lib.hid hRd
      clear hRd
      go_wp2_with fail
      obtain ⟨gd, gdd⟩ : ∃ q, q = w7.heap.size := ⟨_, rfl⟩
      have gdl : h < gd := by rw [gdd]; exact blk_lt HK8.out
      have HE9 : Hid ((w7.alloc (.cells #[.int .i64 d1, .string d2, .int .i64 d3, .int .i64 d4, .slice Ad dk.length cd] 25)).heap[gd]? = some (.cells #[.int .i64 d1, .string d2, .int .i64 d3, .int .i64 d4, .slice Ad dk.length cd] 25 (0, 0))) := Lib.hid (by rw [gdd]; exact heap_alloc_new w7 _)
      have al_ : Below w7.heap.size w7 (w7.alloc (.cells #[.int .i64 d1, .string d2, .int .i64 d3, .int .i64 d4, .slice Ad dk.length cd] 25)) := (Below.refl _ _).alloc (Nat.le_refl _) _
      have HR9 := Lib.hid (blk_below HR8.out al_)
      have HM9 := Lib.hid (blk_below HM8.out al_)
      have HK9 := Lib.hid (blk_below HK8.out al_)
      have HRR9 := Lib.hid (Kd.R_below HRR8.out al_)
      have HD9 := Lib.hid (Kd.R_below HD8.out al_)
      have HB9 := Lib.hid (HB8.out.trans (al_.mono HB8.out.size))
      clear HR8 HM8 HK8 HRR8 HD8 HB8 al_
      rw [← gdd]
      change Calls _ _ _ (w7.alloc (.cells #[.int .i64 d1, .string d2, .int .i64 d3, .int .i64 d4, .slice Ad dk.length cd] 25)) _
      generalize w7.alloc (.cells #[.int .i64 d1, .string d2, .int .i64 d3, .int .i64 d4, .slice Ad dk.length cd] 25) = w8 at HR9 HM9 HK9 HE9 HRR9 HD9 HB9 ⊢
      clear gdd
      refine (Pg.escutcheonref1_GetReply.calls kx s d1 d2 d3 d4 dk dok w8 HKX.out).mono ?_
      rintro x w9 ⟨vx, rfl, hRx, hb_⟩
      obtain ⟨Ax, cx, rfl, _⟩ := Kd.R_reads hRx
      have HR10 := Lib.hid (blk_below HR9.out hb_)
      have HM10 := Lib.hid (blk_below HM9.out hb_)
      have HK10 := Lib.hid (blk_below HK9.out hb_)
      have HE10 := Lib.hid (blk_below HE9.out hb_)
      have HRR10 := Lib.hid (Kd.R_below HRR9.out hb_)
      have HD10 := Lib.hid (Kd.R_below HD9.out hb_)
      have HB10 := Lib.hid (HB9.out.trans (hb_.mono HB9.out.size))
      clear HR9 HM9 HK9 HE9 HRR9 HD9 HB9 hb_
      have HX10 := Lib.hid hRx
      clear hRx
      have y4 := (blk5_cells (blk_alloc HE10.out (.cells #[.int .i64 d1, .string d2, .int .i64 d3, .int .i64 d4, .slice Ax dk.length cx] 25))).2.2.2.2
      go_wp2_with fail
      clear y4
      obtain ⟨ge, ged⟩ : ∃ q, q = w9.heap.size := ⟨_, rfl⟩
      have gel : gd < ge := by rw [ged]; exact blk_lt HE10.out
      have HF11 : Hid ((w9.alloc (.cells #[.int .i64 d1, .string d2, .int .i64 d3, .int .i64 d4, .slice Ax dk.length cx] 25)).heap[ge]? = some (.cells #[.int .i64 d1, .string d2, .int .i64 d3, .int .i64 d4, .slice Ax dk.length cx] 25 (0, 0))) := Lib.hid (by rw [ged]; exact heap_alloc_new w9 _)
      have al_ : Below w9.heap.size w9 (w9.alloc (.cells #[.int .i64 d1, .string d2, .int .i64 d3, .int .i64 d4, .slice Ax dk.length cx] 25)) := (Below.refl _ _).alloc (Nat.le_refl _) _
      have HR11 := Lib.hid (blk_below HR10.out al_)
      have HM11 := Lib.hid (blk_below HM10.out al_)
      have HK11 := Lib.hid (blk_below HK10.out al_)
      have HE11 := Lib.hid (blk_below HE10.out al_)
      have HRR11 := Lib.hid (Kd.R_below HRR10.out al_)
      have HD11 := Lib.hid (Kd.R_below HD10.out al_)
      have HX11 := Lib.hid (Kd.R_below HX10.out al_)
      have HB11 := Lib.hid (HB10.out.trans (al_.mono HB10.out.size))
      clear HR10 HM10 HK10 HE10 HRR10 HD10 HX10 HB10 al_
      rw [← ged]
      change Calls _ _ _ (w9.alloc (.cells #[.int .i64 d1, .string d2, .int .i64 d3, .int .i64 d4, .slice Ax dk.length cx] 25)) _
      generalize w9.alloc (.cells #[.int .i64 d1, .string d2, .int .i64 d3, .int .i64 d4, .slice Ax dk.length cx] 25) = w10 at HR11 HM11 HK11 HE11 HF11 HRR11 HD11 HX11 HB11 ⊢
      clear ged
      refine (Texts_any w.heap.size h bookC (.slice none 0 0) (.slice none 0 0) [] [] [] Ad cd dk w10 HK11.out rfl rfl ⟨Lists.nil _ _ _ _ _, Lists.nil _ _ _ _ _, fun k h => by cases h⟩ (Kd.R_lower HD11.out (LE1.out)) (fun k _ ⟨j, u, hu, _⟩ => by simp at hu) (by decide) (copyT_is dk (by omega)) HB11.out.size).mono ?_
      rintro x w11 ⟨rfl, v5, u5, y5, hg5, hp5, ht5⟩
      have HR12 := Lib.hid ((ht5.block _ (blk_lt HR11.out) (by
        rintro (z | z | z)
        · omega
        · cases z
        · cases z)).trans HR11.out)
      have HM12 := Lib.hid ((ht5.block _ (blk_lt HM11.out) (by
        rintro (z | z | z)
        · omega
        · cases z
        · cases z)).trans HM11.out)
      have HE12 := Lib.hid ((ht5.block _ (blk_lt HE11.out) (by
        rintro (z | z | z)
        · omega
        · cases z
        · cases z)).trans HE11.out)
      have HF12 := Lib.hid ((ht5.block _ (blk_lt HF11.out) (by
        rintro (z | z | z)
        · omega
        · cases z
        · cases z)).trans HF11.out)
      have HRR12 := Lib.hid (R_tch rfl HRR11.out ht5 (fun k y b => by
        rcases b with z | z | z
        · exact R_off HRR11.out HK11.out (by decide) k y z
        · cases z
        · cases z))
      have HD12 := Lib.hid (R_tch rfl HD11.out ht5 (fun k y b => by
        rcases b with z | z | z
        · exact R_off HD11.out HK11.out (by decide) k y z
        · cases z
        · cases z))
      have HX12 := Lib.hid (R_tch rfl HX11.out ht5 (fun k y b => by
        rcases b with z | z | z
        · exact R_off HX11.out HK11.out (by decide) k y z
        · cases z
        · cases z))
      have HB12 := Lib.hid (ht5.below HB11.out HB11.out.size (fun k b => by
        rcases b with z | z | z
        · omega
        · cases z
        · cases z))
      have HK12 := Lib.hid hg5; have HP12 := Lib.hid hp5
      clear HR11 HM11 HK11 HE11 HF11 HRR11 HD11 HX11 HB11 hg5 hp5 ht5
      obtain ⟨x0, x1, x2, x3, x4⟩ := blk5_cells HE12.out
      obtain ⟨y0, y1, y2, y3, y4⟩ := blk5_cells HF12.out
      have hq1 : (p1.toList == p1.toList) = true := by simp
      have hq2 : (p1.toList != p1.toList) = false := by simp
      go_wp2_with fail
      obtain ⟨ks1, hks1⟩ := (sameRep_ev d1 d2 d3 d4 dk (by omega)).rounds
      obtain ⟨_, hcd, hCd⟩ := Kd.R_reads' HD12.out
      obtain ⟨_, hcx, hCx⟩ := Kd.R_reads' HX12.out
      refine (Pl.escutcheonbook_SameReply.calls ks1 d1 d2 d3 d4 Ad cd dk d1 d2 d3 d4 Ax cx dk true w11 hCd hcd hCx hcx hks1).mono ?_
      rintro x w12 ⟨rfl, hb_⟩
      clear hCd hcd hCx hcx hks1 x0 x1 x2 x3 x4 y0 y1 y2 y3 y4
      have HR13 := Lib.hid (blk_below HR12.out hb_)
      have HM13 := Lib.hid (blk_below HM12.out hb_)
      have HK13 := Lib.hid (blk_below HK12.out hb_)
      have HE13 := Lib.hid (blk_below HE12.out hb_)
      have HF13 := Lib.hid (blk_below HF12.out hb_)
      have HRR13 := Lib.hid (Kd.R_below HRR12.out hb_)
      have HD13 := Lib.hid (Kd.R_below HD12.out hb_)
      have HX13 := Lib.hid (Kd.R_below HX12.out hb_)
      have HB13 := Lib.hid (HB12.out.trans (hb_.mono HB12.out.size))
      have HP13 := Lib.hid (show Pair Kd.string 9 23 _ w.heap.size v5 u5 _ _ _ from ⟨HP12.out.a.below rfl hb_, HP12.out.b.below rfl hb_, HP12.out.ap⟩)
      clear HR12 HM12 HK12 HE12 HF12 HRR12 HD12 HX12 HB12 HP12 hb_
      obtain ⟨x0, x1, x2, x3, x4⟩ := blk5_cells HR13.out
      obtain ⟨y0, y1, y2, y3, y4⟩ := blk5_cells HM13.out
      go_wp2_with fail
      obtain ⟨ks2, hks2⟩ := (staysT_ev l (by omega)).rounds
      obtain ⟨_, hc3, hC3⟩ := Kd.R_reads' HRR13.out
      have hc3' : l.length + 1 ≤ k3 := hc3
      refine (Pu.escutcheonbook_StaysTexts.calls ks2 A3 k3 l A c l true w12 hC3 hc3' (Kd.C_below HC.out HB13.out) hc hks2).mono ?_
      rintro x w13 ⟨rfl, hb_⟩
      clear hC3 hc3 hc3' hks2 x0 x1 x2 x3 x4 y0 y1 y2 y3 y4
      have HR14 := Lib.hid (blk_below HR13.out hb_)
      have HM14 := Lib.hid (blk_below HM13.out hb_)
      have HK14 := Lib.hid (blk_below HK13.out hb_)
      have HE14 := Lib.hid (blk_below HE13.out hb_)
      have HF14 := Lib.hid (blk_below HF13.out hb_)
      have HRR14 := Lib.hid (Kd.R_below HRR13.out hb_)
      have HD14 := Lib.hid (Kd.R_below HD13.out hb_)
      have HX14 := Lib.hid (Kd.R_below HX13.out hb_)
      have HB14 := Lib.hid (HB13.out.trans (hb_.mono HB13.out.size))
      have HP14 := Lib.hid (show Pair Kd.string 9 23 _ w.heap.size v5 u5 _ _ _ from ⟨HP13.out.a.below rfl hb_, HP13.out.b.below rfl hb_, HP13.out.ap⟩)
      clear HR13 HM13 HK13 HE13 HF13 HRR13 HD13 HX13 HB13 HP13 hb_
      clear HM14 HE14 HF14 HRR14 HX14
      have HDs := HD14
      clear HD14
      obtain ⟨⟨x1, x2, x3, x4, xk, xok⟩, hans2⟩ : ∃ r : RT, ansR p1 = r := ⟨_, rfl⟩
      have hxl := ansR_len p1 _ _ _ _ _ _ hans2
      obtain ⟨hx0, hxt, hps⟩ := put_ans HPP.out hans2
      subst hx0
      have HANS2 := Lib.hid hans2
      have HXT := Lib.hid hxt
      clear hans2 hxt
      have LE13 := Lib.hid HB14.out.size
      go_wp2_with fail
      refine (getReply_any p1 w13 (by omega)).mono ?_
      intro x w14 hG
      obtain ⟨Am, cm, rfl, hRm, hb_⟩ := getRE_ans HANS2.out hG
      clear hG
      have LE14 := Lib.hid hb_.size
      have HR15 := Lib.hid (blk_below HR14.out hb_)
      have HK15 := Lib.hid (blk_below HK14.out hb_)
      have HB15 := Lib.hid (HB14.out.trans (hb_.mono HB14.out.size))
      have HP15 := Lib.hid (show Pair Kd.string 9 23 _ w.heap.size v5 u5 _ _ _ from ⟨HP14.out.a.below rfl hb_, HP14.out.b.below rfl hb_, HP14.out.ap⟩)
      clear HR14 HK14 HB14 HP14 hb_
      have HZ15 := Lib.hid hRm
      clear hRm
      go_wp2_with fail
      obtain ⟨gx, gxd⟩ : ∃ q, q = w14.heap.size := ⟨_, rfl⟩
      have gxl : h < gx := by rw [gxd]; exact blk_lt HK15.out
      have HG16 : Hid ((w14.alloc (.cells #[.int .i64 x1, .string x2, .int .i64 x3, .int .i64 x4, .slice Am xk.length cm] 25)).heap[gx]? = some (.cells #[.int .i64 x1, .string x2, .int .i64 x3, .int .i64 x4, .slice Am xk.length cm] 25 (0, 0))) := Lib.hid (by rw [gxd]; exact heap_alloc_new w14 _)
      have LEX0 : Hid (w13.heap.size ≤ (w14.alloc (.cells #[.int .i64 x1, .string x2, .int .i64 x3, .int .i64 x4, .slice Am xk.length cm] 25)).heap.size) := Lib.hid (Nat.le_trans LE14.out (by simp))
      have al_ : Below w14.heap.size w14 (w14.alloc (.cells #[.int .i64 x1, .string x2, .int .i64 x3, .int .i64 x4, .slice Am xk.length cm] 25)) := (Below.refl _ _).alloc (Nat.le_refl _) _
      have HR16 := Lib.hid (blk_below HR15.out al_)
      have HK16 := Lib.hid (blk_below HK15.out al_)
      have HZ16 := Lib.hid (Kd.R_below HZ15.out al_)
      have HB16 := Lib.hid (HB15.out.trans (al_.mono HB15.out.size))
      have HP16 := Lib.hid (show Pair Kd.string 9 23 _ w.heap.size v5 u5 _ _ _ from ⟨HP15.out.a.below rfl al_, HP15.out.b.below rfl al_, HP15.out.ap⟩)
      clear HR15 HK15 HZ15 HB15 HP15 al_
      rw [← gxd]
      change Calls _ _ _ (w14.alloc (.cells #[.int .i64 x1, .string x2, .int .i64 x3, .int .i64 x4, .slice Am xk.length cm] 25)) _
      generalize w14.alloc (.cells #[.int .i64 x1, .string x2, .int .i64 x3, .int .i64 x4, .slice Am xk.length cm] 25) = w15 at HR16 HK16 HG16 HZ16 HB16 HP16 LEX0 ⊢
      clear gxd
      have LEX : Hid (w13.heap.size ≤ w15.heap.size) := LEX0
      have LE15 := Lib.hid HB16.out.size
      have HZs := Lib.hid HZ16.out
      refine (getReply_any p1 w15 (by omega)).mono ?_
      intro x w16 hG
      obtain ⟨An, cn, rfl, hRn, hb_⟩ := getRE_ans HANS2.out hG
      clear hG
      have HR17 := Lib.hid (blk_below HR16.out hb_)
      have HK17 := Lib.hid (blk_below HK16.out hb_)
      have HG17 := Lib.hid (blk_below HG16.out hb_)
      have HZ17 := Lib.hid (Kd.R_below HZ16.out hb_)
      have HB17 := Lib.hid (HB16.out.trans (hb_.mono HB16.out.size))
      have HP17 := Lib.hid (show Pair Kd.string 9 23 _ w.heap.size v5 u5 _ _ _ from ⟨HP16.out.a.below rfl hb_, HP16.out.b.below rfl hb_, HP16.out.ap⟩)
      clear HR16 HK16 HG16 HZ16 HB16 HP16 hb_
      have HY17 := Lib.hid hRn
      clear hRn
      have y4 := (blk5_cells (blk_alloc HG17.out (.cells #[.int .i64 x1, .string x2, .int .i64 x3, .int .i64 x4, .slice An xk.length cn] 25))).2.2.2.2
      go_wp2_with fail
      clear y4
      obtain ⟨gy, gyd⟩ : ∃ q, q = w16.heap.size := ⟨_, rfl⟩
      have gyl : gx < gy := by rw [gyd]; exact blk_lt HG17.out
      have HJ18 : Hid ((w16.alloc (.cells #[.int .i64 x1, .string x2, .int .i64 x3, .int .i64 x4, .slice An xk.length cn] 25)).heap[gy]? = some (.cells #[.int .i64 x1, .string x2, .int .i64 x3, .int .i64 x4, .slice An xk.length cn] 25 (0, 0))) := Lib.hid (by rw [gyd]; exact heap_alloc_new w16 _)
      have al_ : Below w16.heap.size w16 (w16.alloc (.cells #[.int .i64 x1, .string x2, .int .i64 x3, .int .i64 x4, .slice An xk.length cn] 25)) := (Below.refl _ _).alloc (Nat.le_refl _) _
      have HR18 := Lib.hid (blk_below HR17.out al_)
      have HK18 := Lib.hid (blk_below HK17.out al_)
      have HG18 := Lib.hid (blk_below HG17.out al_)
      have HZ18 := Lib.hid (Kd.R_below HZ17.out al_)
      have HY18 := Lib.hid (Kd.R_below HY17.out al_)
      have HB18 := Lib.hid (HB17.out.trans (al_.mono HB17.out.size))
      have HP18 := Lib.hid (show Pair Kd.string 9 23 _ w.heap.size v5 u5 _ _ _ from ⟨HP17.out.a.below rfl al_, HP17.out.b.below rfl al_, HP17.out.ap⟩)
      clear HR17 HK17 HG17 HZ17 HY17 HB17 HP17 al_
      rw [← gyd]
      change Calls _ _ _ (w16.alloc (.cells #[.int .i64 x1, .string x2, .int .i64 x3, .int .i64 x4, .slice An xk.length cn] 25)) _
      generalize w16.alloc (.cells #[.int .i64 x1, .string x2, .int .i64 x3, .int .i64 x4, .slice An xk.length cn] 25) = w17 at HR18 HK18 HG18 HJ18 HZ18 HY18 HB18 HP18 ⊢
      clear gyd
      refine (Texts_any w.heap.size h _ v5 u5 _ _ _ Am cm xk w17 HK18.out rfl rfl HP18.out (Kd.R_lower HZ18.out LE13.out) (fun k hk ⟨j, x, hx, hxk⟩ => ?_) (show 1 < 250 by decide) (copyT_is xk (by omega)) HB18.out.size).mono ?_
      · match j, hx with
        | 0, hx =>
          obtain rfl := Option.some.inj hx
          have h1 := Kd.R_lt HDs.out k hxk
          have h2 := Kd.R_base HZ18.out k hk
          omega
      rintro x w18 ⟨rfl, v6, u6, y6, hg6, hp6, ht6⟩
      clear HZ18
      have HR19 := Lib.hid ((ht6.block _ (blk_lt HR18.out) (by
        rintro (z | z | z)
        · omega
        · exact R_off HP18.out.a.outer HR18.out (by decide) _ z rfl
        · exact R_off HP18.out.b.outer HR18.out (by decide) _ z rfl)).trans HR18.out)
      have HG19 := Lib.hid ((ht6.block _ (blk_lt HG18.out) (by
        rintro (z | z | z)
        · omega
        · exact R_off HP18.out.a.outer HG18.out (by decide) _ z rfl
        · exact R_off HP18.out.b.outer HG18.out (by decide) _ z rfl)).trans HG18.out)
      have HJ19 := Lib.hid ((ht6.block _ (blk_lt HJ18.out) (by
        rintro (z | z | z)
        · omega
        · exact R_off HP18.out.a.outer HJ18.out (by decide) _ z rfl
        · exact R_off HP18.out.b.outer HJ18.out (by decide) _ z rfl)).trans HJ18.out)
      have HY19 := Lib.hid (R_tch rfl HY18.out ht6 (fun k y b => by
        rcases b with z | z | z
        · exact R_off HY18.out HK18.out (by decide) k y z
        · exact Rd.apart (Rd.of_R HY18.out) (Rd.of_R HP18.out.a.outer) (by decide) _ y z
        · exact Rd.apart (Rd.of_R HY18.out) (Rd.of_R HP18.out.b.outer) (by decide) _ y z))
      have HB19 := Lib.hid (ht6.below HB18.out HB18.out.size (fun k b => by
        rcases b with z | z | z
        · omega
        · exact Kd.R_base HP18.out.a.outer k z
        · exact Kd.R_base HP18.out.b.outer k z))
      have HK19 := Lib.hid hg6; have HP19 := Lib.hid hp6
      clear HR18 HK18 HG18 HJ18 HY18 HB18 HP18 hg6 hp6 ht6
      have y4 := (blk5_cells HJ19.out).2.2.2.2
      go_wp2_with fail
      clear y4
      refine (Texts_any w.heap.size h _ v6 u6 _ _ _ An cn xk w18 HK19.out rfl rfl HP19.out (Kd.R_lower HY19.out LE15.out) (fun k hk ⟨j, x, hx, hxk⟩ => ?_) (show 2 < 250 by decide) (copyT_is xk (by omega)) HB19.out.size).mono ?_
      · have h2 := Kd.R_base HY19.out k hk
        match j, hx with
        | 0, hx =>
          obtain rfl := Option.some.inj hx
          have h1 := Kd.R_lt HDs.out k hxk
          have h3 := LEX.out
          omega
        | 1, hx =>
          obtain rfl := Option.some.inj hx
          have h1 := Kd.R_lt HZs.out k hxk
          omega
      rintro x w19 ⟨rfl, v7, u7, y7, hg7, hp7, ht7⟩
      clear HY19
      have HR20 := Lib.hid ((ht7.block _ (blk_lt HR19.out) (by
        rintro (z | z | z)
        · omega
        · exact R_off HP19.out.a.outer HR19.out (by decide) _ z rfl
        · exact R_off HP19.out.b.outer HR19.out (by decide) _ z rfl)).trans HR19.out)
      have HG20 := Lib.hid ((ht7.block _ (blk_lt HG19.out) (by
        rintro (z | z | z)
        · omega
        · exact R_off HP19.out.a.outer HG19.out (by decide) _ z rfl
        · exact R_off HP19.out.b.outer HG19.out (by decide) _ z rfl)).trans HG19.out)
      have HJ20 := Lib.hid ((ht7.block _ (blk_lt HJ19.out) (by
        rintro (z | z | z)
        · omega
        · exact R_off HP19.out.a.outer HJ19.out (by decide) _ z rfl
        · exact R_off HP19.out.b.outer HJ19.out (by decide) _ z rfl)).trans HJ19.out)
      have HB20 := Lib.hid (ht7.below HB19.out HB19.out.size (fun k b => by
        rcases b with z | z | z
        · omega
        · exact Kd.R_base HP19.out.a.outer k z
        · exact Kd.R_base HP19.out.b.outer k z))
      have HK20 := Lib.hid hg7; have HP20 := Lib.hid hp7
      clear HR19 HK19 HG19 HJ19 HB19 HP19 hg7 hp7 ht7
      have HALL : Hid (∀ x, x ∈ (([] ++ [dk]) ++ [xk]) ++ [xk] → x.length ≤ 40) := Lib.hid (fun x hx => by
        simp only [List.nil_append, List.mem_append, List.mem_singleton] at hx
        rcases hx with (rfl | rfl) | rfl <;> omega)
      obtain ⟨x_0, x_1, x_2, x_3, x_4⟩ := blk5_cells HG20.out
      obtain ⟨y_0, y_1, y_2, y_3, y_4⟩ := blk5_cells HR20.out
      cases p2
      · skip
        go_wp2_with fail
        refine (Apart_Texts w.heap.size h 100 _ v7 u7 _ _ _ _ HK20.out (fun i h1 h2 h3 => ?_) rfl rfl HP20.out HB20.out.size (show 3 ≤ 250 by decide) (fun x hx => ?_) (by decide) (fun i a n _ ha hn => (markT_ev i a n ha hn).rounds) (fun l hl => (sameT_ev l (by omega)).rounds)).mono ?_
        · rw [Array.getElem?_setIfInBounds_ne (by omega), Array.getElem?_setIfInBounds_ne (by omega), Array.getElem?_setIfInBounds_ne (by omega), Array.getElem?_setIfInBounds_ne (by omega), Array.getElem?_setIfInBounds_ne (by omega), Array.getElem?_setIfInBounds_ne (by omega)]
          exact bookC_at i h1
        · have hx' := HALL.out x hx
          omega
        rintro x w21 ⟨rfl, hb9⟩
        have HW9 := Lib.hid (HB20.out.trans (hb9.mono (Nat.le_refl _)))
        clear hb9
        go_wp2
        go_ret
        exact ⟨rfl, HW9.out⟩
      · skip
        obtain ⟨rfl, rfl, rfl, rfl, rfl⟩ := HXT.out rfl
        go_wp2_with fail
        obtain ⟨ks3, hks3⟩ := (sameRep_ev x1 x2 x3 x4 xk (by omega)).rounds
        obtain ⟨_, hcd, hCd⟩ := Kd.R_reads' (HP20.out.a.each 1 _ _ rfl rfl)
        refine (Pl.escutcheonbook_SameReply.calls ks3 _ _ _ _ Am cm _ _ _ _ _ A c _ true w19 hCd hcd (Kd.C_below HC.out HB20.out) hc hks3).mono ?_
        rintro x w20 ⟨rfl, hb_⟩
        clear hCd hcd hks3 x_0 x_1 x_2 x_3 x_4 y_0 y_1 y_2 y_3 y_4
        have HR21 := Lib.hid (blk_below HR20.out hb_)
        have HK21 := Lib.hid (blk_below HK20.out hb_)
        have HG21 := Lib.hid (blk_below HG20.out hb_)
        have HJ21 := Lib.hid (blk_below HJ20.out hb_)
        have HB21 := Lib.hid (HB20.out.trans (hb_.mono HB20.out.size))
        have HP21 := Lib.hid (show Pair Kd.string 9 23 _ w.heap.size v7 u7 _ _ _ from ⟨HP20.out.a.below rfl hb_, HP20.out.b.below rfl hb_, HP20.out.ap⟩)
        clear HR20 HK20 HG20 HJ20 HB20 HP20 hb_
        go_wp2_with fail
        refine (Apart_Texts w.heap.size h 100 _ v7 u7 _ _ _ _ HK21.out (fun i h1 h2 h3 => ?_) rfl rfl HP21.out HB21.out.size (show 3 ≤ 250 by decide) (fun x hx => ?_) (by decide) (fun i a n _ ha hn => (markT_ev i a n ha hn).rounds) (fun l hl => (sameT_ev l (by omega)).rounds)).mono ?_
        · rw [Array.getElem?_setIfInBounds_ne (by omega), Array.getElem?_setIfInBounds_ne (by omega), Array.getElem?_setIfInBounds_ne (by omega), Array.getElem?_setIfInBounds_ne (by omega), Array.getElem?_setIfInBounds_ne (by omega), Array.getElem?_setIfInBounds_ne (by omega)]
          exact bookC_at i h1
        · have hx' := HALL.out x hx
          omega
        rintro x w21 ⟨rfl, hb9⟩
        have HW9 := Lib.hid (HB21.out.trans (hb9.mono (Nat.le_refl _)))
        clear hb9
        go_wp2
        go_ret
        exact ⟨rfl, HW9.out⟩
end Go.Proofs.YtbfdaclekjgkfaaGreatDoor.Bk

/- ReplyTells: every size. -/
set_option linter.unusedVariables false
namespace Go.Proofs.YtbfdaclekjgkfaaGreatDoor.Bk
open Go.RowKit Go.Proofs.YtbfdaclekjgkfaaGreatDoor Go.Proofs.YtbfdaclekjgkfaaGreatDoorW.PrintWords Go.Proofs.YtbfdaclekjgkfaaGreatDoorW.PrintLast

set_option maxRecDepth 100000 in
set_option maxHeartbeats 3200000 in
theorem reply_large (e : Int) (v : ByteArray) (a b : Int) (A : Option Addr) (c : Nat) (l : List ByteArray) (s : ByteArray) (w : World) (hL : Laid w)
    (h : 1000 < v.size ∨ (v.size ≤ 1000 ∧ 100 < l.length) ∨ (v.size ≤ 1000 ∧ l.length ≤ 100 ∧ 3000 < s.size)) :
    Calls Tryz.prog 3 #[.agg #[.int .i64 e, .string v, .int .i64 a, .int .i64 b, .slice A l.length c], .string s] w fun x w' => x = .returned (.bool true) ∧ Below w.heap.size w w' := by
  have hal := alive_any (w.alloc (.cells #[.int .i64 e, .string v, .int .i64 a, .int .i64 b, .slice A l.length c] 25)) (hL.below rfl ((Below.refl _ w).alloc (Nat.le_refl _) _))
  have HAL := Lib.hid hal
  clear hal
  rcases h with h | ⟨h, h'⟩ | ⟨h, h', h''⟩
  · have t1 : decide (1000 < (v.size : Int)) = true := decide_eq_true (by omega)
    go_enter Tryz.func3, Tryz.ntmps3
    go_wp2_with fail
    refine HAL.out.mono ?_
    rintro x w1 ⟨rfl, hb1⟩
    have B1 := Lib.hid (((Below.refl _ w).alloc (Nat.le_refl _) (.cells #[.int .i64 e, .string v, .int .i64 a, .int .i64 b, .slice A l.length c] 25)).trans (hb1.mono (by simp)))
    clear hb1
    go_wp2
    go_ret
    exact ⟨rfl, B1.out⟩
  · have t1 : decide (1000 < (v.size : Int)) = false := decide_eq_false (by omega)
    have t2 : decide (100 < (l.length : Int)) = true := decide_eq_true (by omega)
    go_enter Tryz.func3, Tryz.ntmps3
    go_wp2_with fail
    refine HAL.out.mono ?_
    rintro x w1 ⟨rfl, hb1⟩
    have B1 := Lib.hid (((Below.refl _ w).alloc (Nat.le_refl _) (.cells #[.int .i64 e, .string v, .int .i64 a, .int .i64 b, .slice A l.length c] 25)).trans (hb1.mono (by simp)))
    clear hb1
    go_wp2
    go_ret
    exact ⟨rfl, B1.out⟩
  · have t1 : decide (1000 < (v.size : Int)) = false := decide_eq_false (by omega)
    have t2 : decide (100 < (l.length : Int)) = false := decide_eq_false (by omega)
    have t3 : decide (3000 < (s.size : Int)) = true := decide_eq_true (by omega)
    go_enter Tryz.func3, Tryz.ntmps3
    go_wp2_with fail
    refine HAL.out.mono ?_
    rintro x w1 ⟨rfl, hb1⟩
    have B1 := Lib.hid (((Below.refl _ w).alloc (Nat.le_refl _) (.cells #[.int .i64 e, .string v, .int .i64 a, .int .i64 b, .slice A l.length c] 25)).trans (hb1.mono (by simp)))
    clear hb1
    go_wp2
    go_ret
    exact ⟨rfl, B1.out⟩
theorem reply_all (e : Int) (v : ByteArray) (a b : Int) (A : Option Addr) (c : Nat) (l : List ByteArray) (s : ByteArray) (w : World) (hL : Laid w) (h : l.length ≤ c ∧ Kd.C Kd.string w A l.length l) (hs : s.size ≤ 140737488351232) :
    Calls Tryz.prog 3 #[.agg #[.int .i64 e, .string v, .int .i64 a, .int .i64 b, .slice A l.length c], .string s] w fun x w' => x = .returned (.bool true) ∧ Below w.heap.size w w' := by
  by_cases h1 : v.size ≤ 1000
  · by_cases h2 : l.length ≤ 100
    · by_cases h3 : s.size ≤ 3000
      · exact reply_walk e v a b A c l s w hL h.1 h.2 h1 h2 h3
      · exact reply_large e v a b A c l s w hL (.inr (.inr ⟨h1, h2, by omega⟩))
    · exact reply_large e v a b A c l s w hL (.inr (.inl ⟨h1, by omega⟩))
  · exact reply_large e v a b A c l s w hL (.inl (by omega))
end Go.Proofs.YtbfdaclekjgkfaaGreatDoor.Bk
