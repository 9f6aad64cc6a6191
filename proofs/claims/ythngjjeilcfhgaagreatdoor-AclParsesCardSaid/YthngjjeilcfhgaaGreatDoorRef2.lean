import Derived.Test.YthngjjeilcfhgaaGreatDoorPa
import Derived.Test.YthngjjeilcfhgaaGreatDoorPb
import Derived.Test.YthngjjeilcfhgaaGreatDoorPl

/- Patterns: what the program's glob.pieces, glob.Match and acl.Fits, acl.Decide come to, as plain functions over lists. -/
set_option linter.unusedVariables false
namespace Go.Proofs.YthngjjeilcfhgaaGreatDoor
open Go.RowKit Go.Proofs.YthngjjeilcfhgaaGreatDoorW.PrintWords Go.Proofs.YthngjjeilcfhgaaGreatDoorW.PrintLast

theorem wrap_id {x : Int} (h0 : 0 ≤ x) (h1 : x ≤ 4611686018427387904) : wrap64 x = x := by unfold wrap64; omega
theorem wrap_nat {n : Nat} (h1 : n ≤ 4611686018427387904) : wrap64 (n : Int) = n := wrap_id (by omega) (by omega)
theorem bt_get (s : ByteArray) (i : Nat) (h : i < s.size) : bt s (i : Int) = ((s.data.toList.getD i 0).toNat : Int) := by
  have hl : i < s.data.toList.length := by rw [← Lib.size_eq]; exact h
  unfold bt
  rw [dif_pos (by simpa using h), List.getD_eq_getElem?_getD, List.getElem?_eq_getElem hl]
  rfl
theorem drop_cons (l : List UInt8) (i : Nat) (h : i < l.length) : l.drop i = l.getD i 0 :: l.drop (i + 1) := by
  rw [List.drop_eq_getElem_cons h, List.getD_eq_getElem?_getD, List.getElem?_eq_getElem h]
  rfl

/-- The parts of a pattern. -/
def piecesL : List UInt8 → Option (List Pa.S135)
  | [] => some []
  | c :: r => if c.toNat = 92 then (match r with
      | [] => none
      | d :: r' => (piecesL r').map (⟨92, d.toNat⟩ :: ·))
    else if c.toNat = 42 ∨ c.toNat = 63 then (piecesL r).map (⟨c.toNat, 0⟩ :: ·) else (piecesL r).map (⟨92, c.toNat⟩ :: ·)
theorem piecesL_any (c : UInt8) (r : List UInt8) (h : c.toNat = 42 ∨ c.toNat = 63) : piecesL (c :: r) = (piecesL r).map (⟨c.toNat, 0⟩ :: ·) := by
  have h92 : ¬ c.toNat = 92 := by omega
  cases r <;> (conv => lhs; rw [piecesL, if_neg h92, if_pos h])
theorem piecesL_plain (c : UInt8) (r : List UInt8) (h : ¬ (c.toNat = 42 ∨ c.toNat = 63)) (h92 : ¬ c.toNat = 92) : piecesL (c :: r) = (piecesL r).map (⟨92, c.toNat⟩ :: ·) := by
  cases r <;> (conv => lhs; rw [piecesL, if_neg h92, if_neg h])
theorem piecesL_quote (c d : UInt8) (r : List UInt8) (h92 : c.toNat = 92) : piecesL (c :: d :: r) = (piecesL r).map (⟨92, d.toNat⟩ :: ·) := by
  rw [piecesL, if_pos h92]
theorem piecesL_end (c : UInt8) (h92 : c.toNat = 92) : piecesL [c] = none := by
  rw [piecesL, if_pos h92]
def piecesR (l : List UInt8) (acc : List Pa.S135) : List Pa.S135 × Bool := match piecesL l with
  | some x => (acc ++ x, true)
  | none => ([], false)
theorem piecesR_cons {l l' : List UInt8} {acc : List Pa.S135} {x : Pa.S135} (h : piecesL l = (piecesL l').map (x :: ·)) : piecesR l acc = piecesR l' (acc ++ [x]) := by
  unfold piecesR
  rw [h]
  cases piecesL l' <;> simp

theorem pieces_loop (p : ByteArray) (hp : p.size ≤ 40) : ∀ (d i : Nat) (acc : List Pa.S135), i + d = p.size → acc.length ≤ i → Ev (fun k => Pa.glob_pieces.l0 k p acc i) (piecesR (p.data.toList.drop i) acc) := by
  intro d
  induction d using Nat.strongRecOn with
  | ind d ih =>
    intro i acc hi hacc
    by_cases hd : d = 0
    · subst hd
      refine Ev.step (f := fun _ => some (acc, true)) (fun k => ?_) ?_
      · show Pa.glob_pieces.l0 (k + 1) p acc i = _
        rw [Pa.glob_pieces.l0, if_neg (by omega)]
      · have : p.data.toList.drop i = [] := by rw [List.drop_eq_nil_iff, ← Lib.size_eq]; omega
        rw [this]
        simpa [piecesR, piecesL] using Ev.now (acc, true)
    · have hlt : i < p.size := by omega
      have hll : i < p.data.toList.length := by rw [← Lib.size_eq]; exact hlt
      have hb := bt_get p i hlt
      rw [drop_cons _ _ hll]
      generalize hc : p.data.toList.getD i 0 = c at hb
      have hw : wrap64 ((i : Int) + 1) = ((i + 1 : Nat) : Int) := by rw [show ((i : Int) + 1) = ((i + 1 : Nat) : Int) from rfl]; exact wrap_nat (by omega)
      have hw2 : wrap64 (((i + 1 : Nat) : Int) + 1) = ((i + 2 : Nat) : Int) := by rw [show (((i + 1 : Nat) : Int) + 1) = ((i + 2 : Nat) : Int) from rfl]; exact wrap_nat (by omega)
      have hal : acc.length < 70368744177664 := by omega
      by_cases h42 : c.toNat = 42
      · refine Ev.step (f := fun k => Pa.glob_pieces.j1 k p acc i (bt p i) (bt p i) (bt p i == 42)) (fun k => ?_) ?_
        · show Pa.glob_pieces.l0 (k + 1) p acc i = _
          rw [Pa.glob_pieces.l0, if_pos (by omega), if_pos (by omega), if_pos (by rw [hb, h42]; rfl)]
        · refine Ev.step (f := fun k => Pa.glob_pieces.l0 k p (acc ++ [⟨(c.toNat : Int), 0⟩]) ((i + 1 : Nat) : Int)) (fun k => ?_) ?_
          · show Pa.glob_pieces.j1 (k + 1) p acc i (bt p i) (bt p i) (bt p i == 42) = _
            rw [Pa.glob_pieces.j1, if_pos (by rw [hb, h42]; rfl), if_pos hal, hw, hb]
          · rw [piecesR_cons (l' := p.data.toList.drop (i + 1)) (x := ⟨(c.toNat : Int), 0⟩) (piecesL_any _ _ (.inl h42))]
            exact ih (d - 1) (by omega) (i + 1) _ (by omega) (by simp; omega)
      · by_cases h63 : c.toNat = 63
        · refine Ev.step (f := fun k => Pa.glob_pieces.j1 k p acc i (bt p i) (bt p i) (bt p i == 63)) (fun k => ?_) ?_
          · show Pa.glob_pieces.l0 (k + 1) p acc i = _
            rw [Pa.glob_pieces.l0, if_pos (by omega), if_pos (by omega), if_neg (by rw [hb]; omega)]
          · refine Ev.step (f := fun k => Pa.glob_pieces.l0 k p (acc ++ [⟨(c.toNat : Int), 0⟩]) ((i + 1 : Nat) : Int)) (fun k => ?_) ?_
            · show Pa.glob_pieces.j1 (k + 1) p acc i (bt p i) (bt p i) (bt p i == 63) = _
              rw [Pa.glob_pieces.j1, if_pos (by rw [hb, h63]; rfl), if_pos hal, hw, hb]
            · rw [piecesR_cons (l' := p.data.toList.drop (i + 1)) (x := ⟨(c.toNat : Int), 0⟩) (piecesL_any _ _ (.inr h63))]
              exact ih (d - 1) (by omega) (i + 1) _ (by omega) (by simp; omega)
        · refine Ev.step (f := fun k => Pa.glob_pieces.j1 k p acc i (bt p i) (bt p i) (bt p i == 63)) (fun k => ?_) ?_
          · show Pa.glob_pieces.l0 (k + 1) p acc i = _
            rw [Pa.glob_pieces.l0, if_pos (by omega), if_pos (by omega), if_neg (by rw [hb]; omega)]
          · have hne : ¬ (bt p i == 63) = true := by rw [hb]; intro h; have := beq_iff_eq.1 h; omega
            by_cases h92 : c.toNat = 92
            · by_cases hend : i + 1 = p.size
              · refine Ev.step (f := fun _ => some ([], false)) (fun k => ?_) ?_
                · show Pa.glob_pieces.j1 (k + 1) p acc i (bt p i) (bt p i) (bt p i == 63) = _
                  rw [Pa.glob_pieces.j1, if_neg hne, if_pos (by rw [hb, h92]; rfl), if_pos (by rw [hw]; omega)]
                · have : p.data.toList.drop (i + 1) = [] := by rw [List.drop_eq_nil_iff, ← Lib.size_eq]; omega
                  rw [this]
                  have e : piecesR [c] acc = ([], false) := by unfold piecesR; rw [piecesL_end c h92]
                  rw [e]
                  exact Ev.now _
              · have hlt2 : i + 1 < p.size := by omega
                have hb2 := bt_get p (i + 1) hlt2
                rw [drop_cons _ _ (by rw [← Lib.size_eq]; exact hlt2)]
                generalize hc2 : p.data.toList.getD (i + 1) 0 = c2 at hb2
                refine Ev.step (f := fun k => Pa.glob_pieces.l0 k p (acc ++ [⟨92, (c2.toNat : Int)⟩]) ((i + 2 : Nat) : Int)) (fun k => ?_) ?_
                · show Pa.glob_pieces.j1 (k + 1) p acc i (bt p i) (bt p i) (bt p i == 63) = _
                  rw [Pa.glob_pieces.j1, if_neg hne, if_pos (by rw [hb, h92]; rfl), hw, if_neg (by omega), if_pos (by omega), if_pos (by omega), if_pos hal, hw2, hb2]
                · rw [piecesR_cons (l' := p.data.toList.drop (i + 2)) (x := ⟨92, (c2.toNat : Int)⟩) (piecesL_quote _ _ _ h92)]
                  exact ih (d - 2) (by omega) (i + 2) _ (by omega) (by simp; omega)
            · refine Ev.step (f := fun k => Pa.glob_pieces.l0 k p (acc ++ [⟨92, (c.toNat : Int)⟩]) ((i + 1 : Nat) : Int)) (fun k => ?_) ?_
              · show Pa.glob_pieces.j1 (k + 1) p acc i (bt p i) (bt p i) (bt p i == 63) = _
                rw [Pa.glob_pieces.j1, if_neg hne, if_neg (by rw [hb]; omega), if_pos (by omega), if_pos (by omega), if_pos hal, hw, hb]
              · rw [piecesR_cons (l' := p.data.toList.drop (i + 1)) (x := ⟨92, (c.toNat : Int)⟩) (piecesL_plain _ _ (fun h => h.elim h42 h63) h92)]
                exact ih (d - 1) (by omega) (i + 1) _ (by omega) (by simp; omega)

/-- What glob.pieces answers. -/
def piecesB (p : ByteArray) : List Pa.S135 × Bool := if 40 < p.size then ([], false) else piecesR p.data.toList []
theorem pieces_ev (p : ByteArray) : Ev (fun k => Pa.glob_pieces.f k p) (piecesB p) := by
  unfold piecesB Pa.glob_pieces.f
  by_cases h : 40 < p.size
  · rw [if_pos h]
    refine Ev.congr (f := fun _ => some ([], false)) (fun k => ?_) (Ev.now _)
    rw [if_pos (by omega)]
  · rw [if_neg h]
    refine Ev.congr (f := fun k => Pa.glob_pieces.l0 k p [] (0 : Nat)) (fun k => ?_) ?_
    · rw [if_neg (by omega)]
      rfl
    · exact pieces_loop p (by omega) p.size 0 [] (by omega) (by simp)

/-- Which beginnings of the text the parts so far may be, one part more. -/
def nx42 (may : List Bool) : Nat → Bool
  | 0 => may.getD 0 false
  | i + 1 => may.getD (i + 1) false || nx42 may i
def nextAt (s : ByteArray) (may : List Bool) (kind c : Int) (i : Nat) : Bool :=
  if kind = 42 then nx42 may i
  else match i with
    | 0 => false
    | i + 1 => if kind = 63 then may.getD i false else may.getD i false && (bt s i == c)
def stepL (s : ByteArray) (may : List Bool) (kind c : Int) : List Bool := (List.range (s.size + 1)).map (nextAt s may kind c)
theorem stepL_length (s : ByteArray) (may : List Bool) (kind c : Int) : (stepL s may kind c).length = s.size + 1 := by simp [stepL]

theorem match_round (s : ByteArray) (hs : s.size ≤ 140737488351232) (may next : List Bool) (P : List Pa.S135) (m j : Int) (kind c : Int) (i : Nat) (hi : i < s.size + 1) (hm : may.length = s.size + 1) (hn : next.length = s.size + 1)
    (hx : ∀ q, q < i → next.getD q false = nextAt s may kind c q) (k : Nat) :
    Pa.glob_Match.l1 (k + 1) s may next P m j ((s.size + 1 : Nat) : Int) (i : Int) kind c = Pa.glob_Match.l1 k s may (next.set i (nextAt s may kind c i)) P m j ((s.size + 1 : Nat) : Int) ((i + 1 : Nat) : Int) kind c := by
  have hw : wrap64 ((i : Int) + 1) = ((i + 1 : Nat) : Int) := by rw [show ((i : Int) + 1) = ((i + 1 : Nat) : Int) from rfl]; exact wrap_nat (by omega)
  have h0 : (0 : Int) ≤ (i : Int) := by omega
  have hlm : (i : Int) < (may.length : Int) := by omega
  have hln : (i : Int) < (next.length : Int) := by omega
  have hrm : rdOf false may (i : Int) = may.getD i false := rfl
  rw [Pa.glob_Match.l1, if_pos (by omega)]
  by_cases h42 : kind = 42
  · subst h42
    rw [if_pos rfl, if_pos h0, if_pos hlm, hw, hrm]
    cases i with
    | zero =>
      have e : nextAt s may 42 c 0 = may.getD 0 false := rfl
      rw [e]
      cases hv : may.getD 0 false with
      | true => rw [if_pos rfl, if_pos hln]; rfl
      | false => rw [if_neg (by decide), if_neg (by omega), if_pos hln]; rfl
    | succ i =>
      have e : nextAt s may 42 c (i + 1) = (may.getD (i + 1) false || nx42 may i) := rfl
      have e2 : next.getD i false = nx42 may i := hx i (by omega)
      have hw1 : wrap64 (((i + 1 : Nat) : Int) - 1) = (i : Int) := by rw [show (((i + 1 : Nat) : Int) - 1) = (i : Int) by omega]; exact wrap_nat (by omega)
      rw [e]
      cases hv : may.getD (i + 1) false with
      | true => rw [if_pos rfl, if_pos hln]; rfl
      | false =>
        rw [if_neg (by decide), if_pos (by omega), hw1, if_pos (by omega), if_pos (by omega), if_pos hln, show rdOf false next (i : Int) = next.getD i false from rfl, e2, Bool.false_or]
        rfl
  · rw [if_neg h42]
    by_cases h63 : kind = 63
    · subst h63
      rw [if_pos rfl]
      cases i with
      | zero =>
        rw [if_neg (by omega), if_pos h0, if_pos hln, hw]
        rfl
      | succ i =>
        have hw1 : wrap64 (((i + 1 : Nat) : Int) - 1) = (i : Int) := by rw [show (((i + 1 : Nat) : Int) - 1) = (i : Int) by omega]; exact wrap_nat (by omega)
        rw [if_pos (by omega), hw1, if_pos (by omega), if_pos (by omega), if_pos h0, if_pos hln, hw]
        rfl
    · rw [if_neg h63]
      cases i with
      | zero =>
        have e : nextAt s may kind c 0 = false := by unfold nextAt; rw [if_neg h42]
        rw [if_neg (by omega), if_pos h0, if_pos hln, hw, e]
        rfl
      | succ i =>
        have hw1 : wrap64 (((i + 1 : Nat) : Int) - 1) = (i : Int) := by rw [show (((i + 1 : Nat) : Int) - 1) = (i : Int) by omega]; exact wrap_nat (by omega)
        have e : nextAt s may kind c (i + 1) = (may.getD i false && (bt s i == c)) := by unfold nextAt; rw [if_neg h42]; simp only; rw [if_neg h63]
        rw [if_pos (by omega), hw1, if_pos (by omega), if_pos (by omega), show rdOf false may (i : Int) = may.getD i false from rfl, e]
        cases hv : may.getD i false with
        | true => rw [if_pos rfl, if_pos (by omega), if_pos h0, if_pos hln, hw, Bool.true_and]; rfl
        | false => rw [if_neg (by decide), if_pos h0, if_pos hln, hw, Bool.false_and]; rfl

theorem match_inner (s : ByteArray) (hs : s.size ≤ 140737488351232) (may : List Bool) (P : List Pa.S135) (m j : Int) (kind c : Int) (hm : may.length = s.size + 1) (r : Bool)
    (hr : Ev (fun k => Pa.glob_Match.l0 k s (stepL s may kind c) P m (wrap64 (j + 1))) r) :
    ∀ (d i : Nat) (next : List Bool), i + d = s.size + 1 → next.length = s.size + 1 → (∀ q, q < i → next.getD q false = nextAt s may kind c q) →
      Ev (fun k => Pa.glob_Match.l1 k s may next P m j ((s.size + 1 : Nat) : Int) (i : Int) kind c) r := by
  intro d
  induction d with
  | zero =>
    intro i next hi hn hx
    have e : next = stepL s may kind c := by
      apply List.ext_getElem (by rw [hn, stepL_length])
      intro q h1 h2
      have := hx q (by omega)
      rw [List.getD_eq_getElem?_getD, List.getElem?_eq_getElem h1] at this
      simpa [stepL] using this
    refine Ev.step (f := fun k => Pa.glob_Match.l0 k s (stepL s may kind c) P m (wrap64 (j + 1))) (fun k => ?_) hr
    show Pa.glob_Match.l1 (k + 1) s may next P m j ((s.size + 1 : Nat) : Int) (i : Int) kind c = _
    rw [Pa.glob_Match.l1, if_neg (by omega), e]
  | succ d ih =>
    intro i next hi hn hx
    refine Ev.step (f := fun k => Pa.glob_Match.l1 k s may (next.set i (nextAt s may kind c i)) P m j ((s.size + 1 : Nat) : Int) ((i + 1 : Nat) : Int) kind c) (fun k => match_round s hs may next P m j kind c i (by omega) hm hn hx k) ?_
    refine ih (i + 1) _ (by omega) (by simpa using hn) (fun q hq => ?_)
    by_cases e : q = i
    · subst e
      simp [List.getD, hn, show q < s.size + 1 by omega]
    · have := hx q (by omega)
      simp only [List.getD_eq_getElem?_getD] at this ⊢
      rw [List.getElem?_set_ne (by omega)]
      exact this

/-- The parts, one by one. -/
def runP (s : ByteArray) (may : List Bool) (P : List Pa.S135) : List Bool := P.foldl (fun may x => stepL s may x.f0 x.f1) may
theorem match_outer (s : ByteArray) (hs : s.size ≤ 140737488351232) (P : List Pa.S135) (hP : P.length ≤ 140737488351232) : ∀ (d j : Nat) (may : List Bool), j + d = P.length → may.length = s.size + 1 →
    Ev (fun k => Pa.glob_Match.l0 k s may P (P.length : Int) (j : Int)) ((runP s may (P.drop j)).getD s.size false) := by
  intro d
  induction d with
  | zero =>
    intro j may hj hm
    refine Ev.step (f := fun _ => some (may.getD s.size false)) (fun k => ?_) ?_
    · show Pa.glob_Match.l0 (k + 1) s may P (P.length : Int) (j : Int) = _
      rw [Pa.glob_Match.l0, if_neg (by omega), if_pos (by omega), if_pos (by omega)]
      rfl
    · rw [List.drop_of_length_le (by omega)]
      exact Ev.now _
  | succ d ih =>
    intro j may hj hm
    have hlt : j < P.length := by omega
    have hw : wrap64 ((s.size : Int) + 1) = ((s.size + 1 : Nat) : Int) := by rw [show ((s.size : Int) + 1) = ((s.size + 1 : Nat) : Int) from rfl]; exact wrap_nat (by omega)
    have hwj : wrap64 ((j : Int) + 1) = ((j + 1 : Nat) : Int) := by rw [show ((j : Int) + 1) = ((j + 1 : Nat) : Int) from rfl]; exact wrap_nat (by omega)
    have hr : Pa.rd_T135 P (j : Int) = P[j] := by simp [Pa.rd_T135, List.getD, hlt]
    rw [List.drop_eq_getElem_cons hlt]
    refine Ev.step (f := fun k => Pa.glob_Match.l1 k s may (List.replicate (s.size + 1) false) P (P.length : Int) (j : Int) ((s.size + 1 : Nat) : Int) ((0 : Nat) : Int) P[j].f0 P[j].f1) (fun k => ?_) ?_
    · show Pa.glob_Match.l0 (k + 1) s may P (P.length : Int) (j : Int) = _
      rw [Pa.glob_Match.l0, if_pos (by omega), if_pos (by omega), if_pos (by omega), hw, if_pos (by omega), if_pos (by simp; omega), Option.bind_some, hr]
      simp
    · refine match_inner s hs may P _ _ P[j].f0 P[j].f1 hm _ ?_ (s.size + 1) 0 _ (by omega) (by simp) (fun q hq => absurd hq (Nat.not_lt_zero q))
      rw [hwj]
      exact ih (j + 1) _ (by omega) (stepL_length s may _ _)

def initB (s : ByteArray) : List Bool := (List.replicate (s.size + 1) false).set 0 true
/-- May the text be what the pattern says? -/
def globB (p s : ByteArray) : Bool := if (piecesB p).2 = true then (runP s (initB s) (piecesB p).1).getD s.size false else false
theorem piecesB_len (p : ByteArray) : (piecesB p).1.length ≤ 140737488351232 ∨ (piecesB p).2 = false := by
  have key : ∀ (n : Nat) (l : List UInt8), l.length ≤ n → ∀ x, piecesL l = some x → x.length ≤ l.length := by
    intro n
    induction n with
    | zero =>
      intro l hl x hx
      obtain rfl := List.eq_nil_of_length_eq_zero (Nat.le_zero.1 hl)
      obtain rfl := Option.some.inj (show some [] = some x from hx)
      exact Nat.le_refl _
    | succ n ih =>
      intro l hl x hx
      cases l with
      | nil =>
        obtain rfl := Option.some.inj (show some [] = some x from hx)
        exact Nat.le_refl _
      | cons c r =>
        by_cases h92 : c.toNat = 92
        · cases r with
          | nil => rw [piecesL_end c h92] at hx; cases hx
          | cons d r' =>
            rw [piecesL_quote c d r' h92] at hx
            obtain ⟨y, hy, rfl⟩ := Option.map_eq_some_iff.1 hx
            have := ih r' (by simp at hl; omega) y hy
            simp only [List.length_cons]
            omega
        · by_cases h : c.toNat = 42 ∨ c.toNat = 63
          · rw [piecesL_any c r h] at hx
            obtain ⟨y, hy, rfl⟩ := Option.map_eq_some_iff.1 hx
            have := ih r (by simpa using hl) y hy
            simpa using this
          · rw [piecesL_plain c r h h92] at hx
            obtain ⟨y, hy, rfl⟩ := Option.map_eq_some_iff.1 hx
            have := ih r (by simpa using hl) y hy
            simpa using this
  unfold piecesB
  by_cases h : 40 < p.size
  · rw [if_pos h]; exact .inr rfl
  · rw [if_neg h]
    unfold piecesR
    cases hx : piecesL p.data.toList with
    | none => exact .inr rfl
    | some x =>
      left
      have := key _ _ (Nat.le_refl _) x hx
      rw [← Lib.size_eq] at this
      simp only [List.nil_append]
      omega
theorem match_ev (p s : ByteArray) (hs : s.size ≤ 140737488351232) : Ev (fun k => Pa.glob_Match.f k p s) (globB p s) := by
  unfold Pa.glob_Match.f
  refine Ev.bind (pieces_ev p) ?_
  unfold globB
  by_cases h : (piecesB p).2 = true
  · have hw : wrap64 ((s.size : Int) + 1) = ((s.size + 1 : Nat) : Int) := by rw [show ((s.size : Int) + 1) = ((s.size + 1 : Nat) : Int) from rfl]; exact wrap_nat (by omega)
    have hP : (piecesB p).1.length ≤ 140737488351232 := by
      rcases piecesB_len p with h1 | h1
      · exact h1
      · rw [h] at h1; cases h1
    rw [if_pos h]
    refine Ev.congr (f := fun k => Pa.glob_Match.l0 k s (initB s) (piecesB p).1 ((piecesB p).1.length : Int) ((0 : Nat) : Int)) (fun k => ?_) ?_
    · rw [if_pos h, hw, if_pos (by omega), if_pos (by first | (simp; done) | (simp; omega)), Option.bind_some, if_pos (by first | (simp; done) | (simp; omega))]
      rfl
    · have := match_outer s hs (piecesB p).1 hP (piecesB p).1.length 0 (initB s) (by omega) (by simp [initB])
      rw [List.drop_zero] at this
      exact this
  · rw [if_neg h]
    refine Ev.congr (f := fun _ => some false) (fun k => ?_) (Ev.now _)
    rw [if_neg h]

/-- Is a rule about something? -/
def fitsB (x : Pa.S45) (user : ByteArray) (cl : Int) (key : ByteArray) : Bool := if (x.f1.toList = user.toList ∨ x.f1.toList = [42]) ∧ (x.f2 = cl ∨ x.f2 = 0) then globB x.f3 key else false
theorem fits_ev (x : Pa.S45) (user : ByteArray) (cl : Int) (key : ByteArray) (hs : key.size ≤ 140737488351232) : Ev (fun k => Pa.acl_Fits.f k x.f0 x.f1 x.f2 x.f3 user cl key) (fitsB x user cl key) := by
  have hm := match_ev x.f3 key hs
  have hm2 : Ev (fun k => (Pa.glob_Match.f k x.f3 key).bind fun t => some t) (globB x.f3 key) := Ev.bind hm (Ev.now _)
  unfold Pa.acl_Fits.f fitsB
  by_cases h1 : x.f1.toList = user.toList
  · by_cases h2 : x.f2 = cl
    · rw [if_pos ⟨.inl h1, .inl h2⟩]
      exact Ev.congr (fun k => by rw [if_pos h1, if_pos h2]) hm2
    · by_cases h3 : x.f2 = 0
      · rw [if_pos ⟨.inl h1, .inr h3⟩]
        exact Ev.congr (fun k => by rw [if_pos h1, if_neg h2, if_pos h3]) hm2
      · rw [if_neg (fun h => h.2.elim h2 h3)]
        exact Ev.congr (fun k => by rw [if_pos h1, if_neg h2, if_neg h3]) (Ev.now _)
  · by_cases h4 : x.f1.toList = [42]
    · by_cases h2 : x.f2 = cl
      · rw [if_pos ⟨.inr h4, .inl h2⟩]
        exact Ev.congr (fun k => by rw [if_neg h1, if_pos h4, if_pos h2]) hm2
      · by_cases h3 : x.f2 = 0
        · rw [if_pos ⟨.inr h4, .inr h3⟩]
          exact Ev.congr (fun k => by rw [if_neg h1, if_pos h4, if_neg h2, if_pos h3]) hm2
        · rw [if_neg (fun h => h.2.elim h2 h3)]
          exact Ev.congr (fun k => by rw [if_neg h1, if_pos h4, if_neg h2, if_neg h3]) (Ev.now _)
    · rw [if_neg (fun h => h.1.elim h1 h4)]
      exact Ev.congr (fun k => by rw [if_neg h1, if_neg h4]) (Ev.now _)

/-- The first rule that fits, from place i on. -/
def decideL (user : ByteArray) (cl : Int) (key : ByteArray) : List Pa.S45 → Nat → Bool × Int
  | [], _ => (false, -1)
  | x :: xs, i => if fitsB x user cl key = true then (x.f0, (i : Int)) else decideL user cl key xs (i + 1)
theorem decide_loop (l : List Pa.S45) (hl : l.length ≤ 4611686018427387904) (user : ByteArray) (cl : Int) (key : ByteArray) (hs : key.size ≤ 140737488351232) : ∀ (d j : Nat), j + d = l.length →
    Ev (fun k => Pa.acl_Decide.l0 k user cl key l (l.length : Int) (j : Int)) (decideL user cl key (l.drop j) j) := by
  intro d
  induction d with
  | zero =>
    intro j hj
    rw [List.drop_of_length_le (by omega)]
    refine Ev.step (f := fun _ => some (false, (-1 : Int))) (fun k => ?_) (Ev.now _)
    show Pa.acl_Decide.l0 (k + 1) user cl key l (l.length : Int) (j : Int) = _
    rw [Pa.acl_Decide.l0, if_neg (by omega)]
  | succ d ih =>
    intro j hj
    have hlt : j < l.length := by omega
    have hr : Pa.rd_T45 l (j : Int) = l[j] := by simp [Pa.rd_T45, List.getD, hlt]
    have hwj : wrap64 ((j : Int) + 1) = ((j + 1 : Nat) : Int) := by rw [show ((j : Int) + 1) = ((j + 1 : Nat) : Int) from rfl]; exact wrap_nat (by omega)
    rw [List.drop_eq_getElem_cons hlt]
    refine Ev.step (f := fun k => (Pa.acl_Fits.f k l[j].f0 l[j].f1 l[j].f2 l[j].f3 user cl key).bind fun t => (if t = true then (some (l[j].f0, (j : Int))) else (Pa.acl_Decide.l0 k user cl key l (l.length : Int) ((j + 1 : Nat) : Int)))) (fun k => ?_) ?_
    · show Pa.acl_Decide.l0 (k + 1) user cl key l (l.length : Int) (j : Int) = _
      rw [Pa.acl_Decide.l0, if_pos (by omega), if_pos (by omega), if_pos (by omega), hr, hwj]
    · refine Ev.bind (fits_ev l[j] user cl key hs) ?_
      rw [decideL]
      by_cases h : fitsB l[j] user cl key = true
      · rw [if_pos h]
        exact Ev.congr (fun k => by rw [if_pos h]) (Ev.now _)
      · rw [if_neg h]
        exact Ev.congr (fun k => by rw [if_neg h]) (ih (j + 1) (by omega))
theorem decide_ev (l : List Pa.S45) (hl : l.length ≤ 4611686018427387904) (user : ByteArray) (cl : Int) (key : ByteArray) (hs : key.size ≤ 140737488351232) : Ev (fun k => Pa.acl_Decide.f k l user cl key) (decideL user cl key l 0) :=
  decide_loop l hl user cl key hs l.length 0 (by omega)

theorem nx42_all (may : List Bool) (h : may.getD 0 false = true) : ∀ i, nx42 may i = true
  | 0 => h
  | i + 1 => by rw [nx42, nx42_all may h i, Bool.or_true]
/-- The pattern '*' fits all. -/
theorem globB_star (s : ByteArray) : globB ⟨#[42]⟩ s = true := by
  have e : piecesB ⟨#[42]⟩ = ([⟨42, 0⟩], true) := by kernel_rfl
  unfold globB
  rw [e, if_pos rfl]
  show (stepL s (initB s) 42 0).getD s.size false = true
  have h := nx42_all (initB s) (by simp [initB, List.getD]) s.size
  simp [stepL, List.getD, nextAt, h]
end Go.Proofs.YthngjjeilcfhgaaGreatDoor

/- Rules and their lines: what acl.Right, acl.line, acl.read and acl.Parse come to, as plain functions over lists. -/
set_option linter.unusedVariables false
namespace Go.Proofs.YthngjjeilcfhgaaGreatDoor
open Go.RowKit Go.Proofs.YthngjjeilcfhgaaGreatDoorW.PrintWords Go.Proofs.YthngjjeilcfhgaaGreatDoorW.PrintLast
namespace Acl

/-- May a rule be? -/
def rightB (x : Pa.S45) : Bool := if x.f1.size < 1 ∨ 20 < x.f1.size ∨ x.f3 = ⟨#[]⟩ then false else if hasBlank x.f3 = true then false else if userB x.f1 = true then (if 0 ≤ x.f2 ∧ x.f2 ≤ 3 then (piecesB x.f3).2 else false) else false
theorem right_ev (x : Pa.S45) (h : x.f3.size ≤ 9223372036854775807) : Ev (fun k => acl_Right.f k x.f0 x.f1 x.f2 x.f3) (rightB x) := by
  unfold acl_Right.f rightB
  by_cases h1 : x.f1.size < 1 ∨ 20 < x.f1.size ∨ x.f3 = ⟨#[]⟩
  · rw [if_pos h1]
    exact Ev.congr (fun k => by rw [if_pos h1]) (Ev.now _)
  · rw [if_neg h1]
    have hc : strings_ContainsAny.f x.f3 ⟨#[32, 10]⟩ = some (hasBlank x.f3) := by unfold strings_ContainsAny.f; rw [if_pos ⟨h, rfl⟩]
    by_cases h2 : hasBlank x.f3 = true
    · rw [if_pos h2]
      exact Ev.congr (fun k => by rw [if_neg h1, hc, Option.bind_some, if_pos h2]) (Ev.now _)
    · rw [if_neg h2]
      by_cases h3 : userB x.f1 = true
      · rw [if_pos h3]
        by_cases h4 : 0 ≤ x.f2 ∧ x.f2 ≤ 3
        · rw [if_pos h4]
          refine Ev.congr (f := fun k => Pa.glob_Right.f k x.f3) (fun k => by rw [if_neg h1, hc, Option.bind_some, if_neg h2, if_pos h3, if_pos h4]) ?_
          unfold Pa.glob_Right.f
          exact Ev.bind (pieces_ev x.f3) (Ev.now _)
        · rw [if_neg h4]
          exact Ev.congr (fun k => by rw [if_neg h1, hc, Option.bind_some, if_neg h2, if_pos h3, if_neg h4]) (Ev.now _)
      · rw [if_neg h3]
        exact Ev.congr (fun k => by rw [if_neg h1, hc, Option.bind_some, if_neg h2, if_neg h3]) (Ev.now _)

structure OkR (x : Pa.S45) : Prop where
  u0 : 1 ≤ x.f1.size
  u1 : x.f1.size ≤ 20
  p0 : x.f3 ≠ ⟨#[]⟩
  pb : hasBlank x.f3 = false
  ub : userB x.f1 = true
  c0 : 0 ≤ x.f2
  c1 : x.f2 ≤ 3
  pp : (piecesB x.f3).2 = true
theorem ok_of {x : Pa.S45} (h : rightB x = true) : OkR x := by
  unfold rightB at h
  split at h
  · cases h
  · rename_i h1
    split at h
    · cases h
    · rename_i h2
      split at h
      · rename_i h3
        split at h
        · rename_i h4
          exact ⟨by omega, by omega, fun e => h1 (.inr (.inr e)), by simpa using h2, h3, h4.1, h4.2, h⟩
        · cases h
      · cases h
theorem right_of {x : Pa.S45} (h : OkR x) : rightB x = true := by
  unfold rightB
  rw [if_neg, if_neg (by rw [h.pb]; decide), if_pos h.ub, if_pos ⟨h.c0, h.c1⟩]
  · exact h.pp
  · rintro (e | e | e)
    · have := h.u0; omega
    · have := h.u1; omega
    · exact h.p0 e
theorem OkR.size {x : Pa.S45} (h : OkR x) : x.f3.size ≤ 40 := by
  have := h.pp
  unfold piecesB at this
  split at this
  · cases this
  · omega
theorem no_of_hasBlank {s : ByteArray} (h : hasBlank s = false) : (32 : UInt8) ∉ s.data.toList ∧ (10 : UInt8) ∉ s.data.toList := by
  unfold hasBlank at h
  rw [List.any_eq_false] at h
  constructor
  · intro hm; exact absurd (h _ hm) (by decide)
  · intro hm; exact absurd (h _ hm) (by decide)
theorem no_of_user {s : ByteArray} (h : userB s = true) : (32 : UInt8) ∉ s.data.toList ∧ (10 : UInt8) ∉ s.data.toList := by
  have h' := List.all_eq_true.1 h
  constructor
  · intro hm; exact absurd (h' _ hm) (by decide)
  · intro hm; exact absurd (h' _ hm) (by decide)

def clsOf (c : Int) : List UInt8 := (nameOf c).data.toList
theorem cls_no : ∀ c : Int, 0 ≤ c → c ≤ 3 → (32 : UInt8) ∉ clsOf c ∧ (10 : UInt8) ∉ clsOf c ∧ (clsOf c).length ≤ 5 := by
  intro c h0 h1
  have h : c = 0 ∨ c = 1 ∨ c = 2 ∨ c = 3 := by omega
  rcases h with rfl | rfl | rfl | rfl <;> decide +kernel
theorem cls_idx : ∀ c : Int, 0 ≤ c → c ≤ 3 → Lib.idxOfS clsL (nameOf c) = c := by
  intro c h0 h1
  have h : c = 0 ∨ c = 1 ∨ c = 2 ∨ c = 3 := by omega
  rcases h with rfl | rfl | rfl | rfl <;> decide +kernel
def whatL (b : Bool) : List UInt8 := if b then [97, 108, 108, 111, 119] else [100, 101, 110, 121]
theorem what_no (b : Bool) : (32 : UInt8) ∉ whatL b ∧ (10 : UInt8) ∉ whatL b ∧ (whatL b).length ≤ 5 ∧ ∃ c r, whatL b = c :: r ∧ c ≠ 35 := by
  cases b
  · exact ⟨by decide, by decide, by decide, 100, _, rfl, by decide⟩
  · exact ⟨by decide, by decide, by decide, 97, _, rfl, by decide⟩
/-- A rule as a line. -/
def lineL (x : Pa.S45) : List UInt8 := whatL x.f0 ++ 32 :: (x.f1.data.toList ++ 32 :: (clsOf x.f2 ++ 32 :: x.f3.data.toList))
theorem join_four (a b c d : List UInt8) : Lib.join [a, b, c, d] [32] = a ++ 32 :: (b ++ 32 :: (c ++ 32 :: d)) := by
  rw [Lib.join_cons]
  simp [Lib.joinTail]
theorem lineL_len {x : Pa.S45} (h : OkR x) : (lineL x).length ≤ 80 := by
  have h1 := (what_no x.f0).2.2.1
  have h2 := (cls_no x.f2 h.c0 h.c1).2.2
  have h3 := h.u1
  have h4 := h.size
  unfold lineL
  simp only [List.length_append, List.length_cons]
  rw [← Lib.size_eq, ← Lib.size_eq]
  omega
theorem line_f {x : Pa.S45} (h : OkR x) : Pa.acl_line.f x.f0 x.f1 x.f2 x.f3 = some ⟨(lineL x).toArray⟩ := by
  have hc : acl_class.f x.f2 = some (nameOf x.f2) := by
    unfold acl_class.f
    rw [if_pos ⟨h.c0, by have := h.c1; omega⟩]
  have hlen := lineL_len h
  have hj : ∀ w : ByteArray, w.data.toList = whatL x.f0 → strings_Join.f [w, x.f1, nameOf x.f2, x.f3] ⟨#[32]⟩ = some ⟨(lineL x).toArray⟩ := by
    intro w hw
    have e : Lib.join ([w, x.f1, nameOf x.f2, x.f3].map (·.data.toList)) (⟨#[32]⟩ : ByteArray).data.toList = lineL x := by
      show Lib.join [w.data.toList, x.f1.data.toList, (nameOf x.f2).data.toList, x.f3.data.toList] [32] = _
      rw [join_four, hw]
      rfl
    unfold strings_Join.f
    rw [e, if_pos ⟨by simp, by simp, by omega⟩]
  unfold Pa.acl_line.f
  cases hb : x.f0 with
  | true => rw [if_pos rfl, hc, Option.bind_some, hj _ (by rw [hb]; rfl), Option.bind_some]
  | false => rw [if_neg (by decide), hc, Option.bind_some, hj _ (by rw [hb]; rfl), Option.bind_some]
theorem lineL_no10 {x : Pa.S45} (h : OkR x) : (10 : UInt8) ∉ lineL x := by
  have h1 := (what_no x.f0).2.1
  have h2 := (cls_no x.f2 h.c0 h.c1).2.1
  have h3 := (no_of_user h.ub).2
  have h4 := (no_of_hasBlank h.pb).2
  unfold lineL
  simp only [List.mem_append, List.mem_cons, not_or]
  exact ⟨h1, by decide, h3, by decide, h2, by decide, h4⟩
theorem lineL_split {x : Pa.S45} (h : OkR x) : splitS ⟨(lineL x).toArray⟩ 32 = [⟨(whatL x.f0).toArray⟩, x.f1, nameOf x.f2, x.f3] := by
  rw [splitS_is]
  show (partsAt 32 (lineL x)).map _ = _
  unfold lineL
  rw [partsAt_app _ _ _ (what_no x.f0).1, partsAt_app _ _ _ (no_of_user h.ub).1, partsAt_app _ _ _ (cls_no x.f2 h.c0 h.c1).1, partsAt_no _ _ (no_of_hasBlank h.pb).1]
  rfl
theorem split_f (s : ByteArray) (c : UInt8) (h : s.size < 4294967281) : strings_Split.f s ⟨#[c]⟩ = some (splitS s c) := by
  unfold strings_Split.f
  rw [if_pos ⟨h, Nat.le_refl 1⟩]
  rfl
theorem ba_size (l : List UInt8) : (⟨l.toArray⟩ : ByteArray).size = l.length := by rw [Lib.size_eq]
/-- A rule's line is read as the rule. -/
theorem read_line {x : Pa.S45} (h : OkR x) : Ev (fun k => acl_read.f k ⟨(lineL x).toArray⟩) (x.f0, x.f1, x.f2, x.f3, true) := by
  have hs : strings_Split.f ⟨(lineL x).toArray⟩ ⟨#[32]⟩ = some [⟨(whatL x.f0).toArray⟩, x.f1, nameOf x.f2, x.f3] := by
    rw [split_f _ _ (by rw [ba_size]; have := lineL_len h; omega), lineL_split h]
  have hb : ((⟨(whatL x.f0).toArray⟩ : ByteArray).toList == [97, 108, 108, 111, 119]) = x.f0 := by
    rw [Lib.toList_data]
    cases x.f0 <;> rfl
  have hi := cls_idx x.f2 h.c0 h.c1
  have hr := right_ev x (by have := h.size; omega)
  rw [right_of h] at hr
  unfold acl_read.f
  refine Ev.congr (f := fun k => (acl_Right.f k x.f0 x.f1 x.f2 x.f3).bind fun rr => if rr = true then (Pa.acl_line.f x.f0 x.f1 x.f2 x.f3).bind fun ln => some (x.f0, x.f1, x.f2, x.f3, ln.toList == (⟨(lineL x).toArray⟩ : ByteArray).toList) else some (x.f0, x.f1, x.f2, x.f3, false)) (fun k => ?_) ?_
  · rw [hs, Option.bind_some]
    simp only [hb, hi]
  · refine Ev.bind hr ?_
    refine Ev.congr (fun k => ?_) (Ev.now _)
    rw [if_pos rfl, line_f h, Option.bind_some]
    simp

theorem wrap1 (i : Nat) (h : i ≤ 100000) : wrap64 ((i : Int) + 1) = ((i + 1 : Nat) : Int) := by rw [show ((i : Int) + 1) = ((i + 1 : Nat) : Int) from rfl]; exact wrap_nat (by omega)
theorem rd_line (L : List ByteArray) (i : Nat) (h : i < L.length) : rdOf ByteArray.empty L (i : Int) = L[i] := by simp [rdOf, List.getD, h]
theorem parse_j (L : List ByteArray) (acc : List Pa.S45) (i : Nat) (hi : i < L.length) (s : ByteArray) (hs : L[i] = s) (fl : Bool) (hfl : (s.data.toList = [] ∧ fl = true) ∨ ∃ c r, s.data.toList = c :: r ∧ fl = (c == 35)) (r : List Pa.S45 × Int × Bool)
    (hj : Ev (fun k => Pb.acl_Parse.j1 k acc (i : Int) s L (L.length : Int) (i : Int) fl) r) : Ev (fun k => Pb.acl_Parse.l0 k acc L (L.length : Int) (i : Int)) r := by
  refine Ev.step (f := fun k => Pb.acl_Parse.j1 k acc (i : Int) s L (L.length : Int) (i : Int) fl) (fun k => ?_) hj
  show Pb.acl_Parse.l0 (k + 1) acc L (L.length : Int) (i : Int) = _
  rw [Pb.acl_Parse.l0, if_pos (by omega), if_pos (by omega), if_pos (by omega), rd_line L i hi, hs]
  rcases hfl with ⟨h1, rfl⟩ | ⟨c, rest, h1, rfl⟩
  · rw [if_pos (by rw [Lib.toList_data]; exact h1)]
  · have hsz : 0 < s.size := by rw [Lib.size_eq, h1]; simp
    have hb : bt s 0 = (c.toNat : Int) := by
      have := bt_get s 0 hsz
      rw [h1] at this
      exact this
    rw [if_neg (by rw [Lib.toList_data, h1]; simp), if_pos (by omega), hb]
    have e : (((c.toNat : Nat) : Int) == 35) = (c == 35) := by
      by_cases hc : c = 35
      · subst hc; rfl
      · have h2 : (c == 35) = false := beq_eq_false_iff_ne.2 hc
        rw [h2]
        refine beq_eq_false_iff_ne.2 fun h3 => hc ?_
        have h4 : c.toNat = 35 := by omega
        exact UInt8.toNat_inj.1 h4
    rw [e]
theorem parse_end (L : List ByteArray) (acc : List Pa.S45) (i : Nat) (hi : i = L.length) : Ev (fun k => Pb.acl_Parse.l0 k acc L (L.length : Int) (i : Int)) (acc, 0, true) := by
  refine Ev.step (f := fun _ => some (acc, 0, true)) (fun k => ?_) (Ev.now _)
  show Pb.acl_Parse.l0 (k + 1) acc L (L.length : Int) (i : Int) = _
  rw [Pb.acl_Parse.l0, if_neg (by omega)]
theorem parse_skip (L : List ByteArray) (hL : L.length ≤ 6000) (acc : List Pa.S45) (i : Nat) (hi : i < L.length) (s : ByteArray) (hs : L[i] = s) (hk : s.data.toList = [] ∨ ∃ r, s.data.toList = 35 :: r) (r : List Pa.S45 × Int × Bool)
    (hr : Ev (fun k => Pb.acl_Parse.l0 k acc L (L.length : Int) ((i + 1 : Nat) : Int)) r) : Ev (fun k => Pb.acl_Parse.l0 k acc L (L.length : Int) (i : Int)) r := by
  refine parse_j L acc i hi s hs true ?_ r ?_
  · rcases hk with h | ⟨q, h⟩
    · exact .inl ⟨h, rfl⟩
    · exact .inr ⟨35, q, h, rfl⟩
  · refine Ev.step (f := fun k => Pb.acl_Parse.l0 k acc L (L.length : Int) ((i + 1 : Nat) : Int)) (fun k => ?_) hr
    show Pb.acl_Parse.j1 (k + 1) acc (i : Int) s L (L.length : Int) (i : Int) true = _
    rw [Pb.acl_Parse.j1, if_pos rfl, wrap1 i (by omega)]
theorem parse_read (L : List ByteArray) (hL : L.length ≤ 6000) (acc : List Pa.S45) (i : Nat) (hi : i < L.length) (s : ByteArray) (hs : L[i] = s) (c : UInt8) (q : List UInt8) (hc : s.data.toList = c :: q) (hne : c ≠ 35) (x : Pa.S45) (ok : Bool)
    (hread : Ev (fun k => acl_read.f k s) (x.f0, x.f1, x.f2, x.f3, ok)) (hacc : acc.length ≤ 40) (r : List Pa.S45 × Int × Bool)
    (hr : if ok = true then (if acc.length = 40 then r = ([], ((i + 1 : Nat) : Int), false) else Ev (fun k => Pb.acl_Parse.l0 k (acc ++ [x]) L (L.length : Int) ((i + 1 : Nat) : Int)) r) else r = ([], ((i + 1 : Nat) : Int), false)) :
    Ev (fun k => Pb.acl_Parse.l0 k acc L (L.length : Int) (i : Int)) r := by
  refine parse_j L acc i hi s hs false (.inr ⟨c, q, hc, (beq_eq_false_iff_ne.2 hne).symm⟩) r ?_
  refine Ev.step (f := fun k => (acl_read.f k s).bind fun bt106 => (if bt106.2.2.2.2 = true then (if (acc.length : Int) = 40 then (some (([] : List (Pa.S45)), ((i + 1 : Nat) : Int), false)) else (if acc.length < 2932031007402 then (Pb.acl_Parse.l0 k (acc ++ [(⟨bt106.1, bt106.2.1, bt106.2.2.1, bt106.2.2.2.1⟩ : Pa.S45)]) L (L.length : Int) ((i + 1 : Nat) : Int)) else (none))) else (some (([] : List (Pa.S45)), ((i + 1 : Nat) : Int), false)))) (fun k => ?_) ?_
  · show Pb.acl_Parse.j1 (k + 1) acc (i : Int) s L (L.length : Int) (i : Int) false = _
    rw [Pb.acl_Parse.j1, if_neg (by decide), wrap1 i (by omega)]
  · refine Ev.bind hread ?_
    cases ok with
    | false =>
      rw [if_neg (by decide)] at hr
      subst hr
      exact Ev.congr (fun k => by rw [if_neg (show ¬ (false = true) by decide)]) (Ev.now _)
    | true =>
      rw [if_pos rfl] at hr
      by_cases h40 : acc.length = 40
      · rw [if_pos h40] at hr
        subst hr
        exact Ev.congr (fun k => by rw [if_pos rfl, if_pos (by omega)]) (Ev.now _)
      · rw [if_neg h40] at hr
        exact Ev.congr (fun k => by rw [if_pos rfl, if_neg (by omega), if_pos (by omega)]) hr

/-- Rules' lines, from line i on: read one by one; at the forty-first it is over. -/
theorem parse_rules (L : List ByteArray) (hL : L.length ≤ 6000) : ∀ (l : List Pa.S45) (acc : List Pa.S45) (i : Nat), (∀ x ∈ l, OkR x) → acc.length ≤ 40 → (∀ j (h : j < l.length), L[i + j]? = some ⟨(lineL l[j]).toArray⟩) → ∀ r : List Pa.S45 × Int × Bool,
    (if 40 < acc.length + l.length then r = ([], ((i + (40 - acc.length) + 1 : Nat) : Int), false) else Ev (fun k => Pb.acl_Parse.l0 k (acc ++ l) L (L.length : Int) ((i + l.length : Nat) : Int)) r) →
    Ev (fun k => Pb.acl_Parse.l0 k acc L (L.length : Int) (i : Int)) r
  | [], acc, i, _, hacc, _, r, hr => by
    rw [if_neg (by simp; omega)] at hr
    simpa using hr
  | x :: xs, acc, i, hok, hacc, hL2, r, hr => by
    have h0 := hL2 0 (by simp)
    obtain ⟨hi, hs⟩ := List.getElem?_eq_some_iff.1 h0
    have ox := hok x List.mem_cons_self
    obtain ⟨c, q, hw, hc35⟩ := (what_no x.f0).2.2.2
    have hc : (⟨(lineL x).toArray⟩ : ByteArray).data.toList = c :: (q ++ 32 :: (x.f1.data.toList ++ 32 :: (clsOf x.f2 ++ 32 :: x.f3.data.toList))) := by
      show lineL x = _
      unfold lineL
      rw [hw]
      rfl
    refine parse_read L hL acc i (by simpa using hi) _ (by simpa using hs) c _ hc hc35 x true (read_line ox) hacc r ?_
    rw [if_pos rfl]
    by_cases h40 : acc.length = 40
    · rw [if_pos h40]
      rw [if_pos (by simp; omega)] at hr
      rw [hr, h40]
    · rw [if_neg h40]
      refine parse_rules L hL xs (acc ++ [x]) (i + 1) (fun y hy => hok y (List.mem_cons_of_mem _ hy)) (by simp; omega) (fun j hj => ?_) r ?_
      · have := hL2 (j + 1) (by simpa using hj)
        rw [show i + 1 + j = i + (j + 1) by omega]
        simpa using this
      · have e1 : (acc ++ [x]).length + xs.length = acc.length + (x :: xs).length := by simp; omega
        rw [e1]
        by_cases hb : 40 < acc.length + (x :: xs).length
        · rw [if_pos hb] at hr ⊢
          rw [hr]
          simp only [List.length_append, List.length_cons, List.length_nil]
          rw [show i + 1 + (40 - (acc.length + (0 + 1))) + 1 = i + (40 - acc.length) + 1 by omega]
        · rw [if_neg hb] at hr ⊢
          rw [List.append_assoc, List.singleton_append, show i + 1 + xs.length = i + (x :: xs).length by simp; omega]
          exact hr

/-- The text of rules, and its lines. -/
def textL (l : List Pa.S45) : List UInt8 := l.flatMap fun x => lineL x ++ [10]
theorem print_text : ∀ l : List Pa.S45, (∀ x ∈ l, OkR x) → printL l = some (textL l)
  | [], _ => rfl
  | x :: xs, h => by
    rw [printL, line_f (h x List.mem_cons_self), Option.bind_some, print_text xs (fun y hy => h y (List.mem_cons_of_mem _ hy)), Option.bind_some]
    rfl
theorem text_parts : ∀ l : List Pa.S45, (∀ x ∈ l, OkR x) → ∀ r : List UInt8, partsAt 10 (textL l ++ r) = l.map lineL ++ partsAt 10 r
  | [], _, r => rfl
  | x :: xs, h, r => by
    show partsAt 10 ((lineL x ++ [10] ++ textL xs) ++ r) = _
    rw [List.append_assoc, List.append_assoc, List.singleton_append, partsAt_app _ _ _ (lineL_no10 (h x List.mem_cons_self)), text_parts xs (fun y hy => h y (List.mem_cons_of_mem _ hy)) r]
    rfl
theorem text_len : ∀ l : List Pa.S45, (∀ x ∈ l, OkR x) → (textL l).length ≤ 81 * l.length
  | [], _ => by simp [textL]
  | x :: xs, h => by
    have h1 := lineL_len (h x List.mem_cons_self)
    have h2 := text_len xs (fun y hy => h y (List.mem_cons_of_mem _ hy))
    show (lineL x ++ [10] ++ textL xs).length ≤ _
    simp only [List.length_append, List.length_cons, List.length_nil]
    omega
theorem print_f (l : List Pa.S45) (h : ∀ x ∈ l, OkR x) (hn : l.length ≤ 1000000) : acl_Print.f l = some ⟨(textL l).toArray⟩ := by
  unfold acl_Print.f
  have := text_len l h
  rw [print_text l h, Option.bind_some, if_pos (by omega)]
theorem same_ev (l : List Pa.S45) (hn : l.length ≤ 100000) (f : Nat → List Pa.S45 → List Pa.S45 → Int → Option Bool)
    (hf : ∀ (k : Nat) (i : Nat), f (k + 1) l l (i : Int) = if (i : Int) < (l.length : Int) then f k l l ((i + 1 : Nat) : Int) else some true) : Ev (fun k => f k l l 0) true := by
  have key : ∀ (d i : Nat), i + d = l.length → Ev (fun k => f k l l (i : Int)) true := by
    intro d
    induction d with
    | zero =>
      intro i hi
      refine Ev.step (f := fun _ => some true) (fun k => ?_) (Ev.now _)
      show f (k + 1) l l (i : Int) = _
      rw [hf, if_neg (by omega)]
    | succ d ih =>
      intro i hi
      refine Ev.step (f := fun k => f k l l ((i + 1 : Nat) : Int)) (fun k => ?_) (ih (i + 1) (by omega))
      show f (k + 1) l l (i : Int) = _
      rw [hf, if_pos (by omega)]
  exact key l.length 0 (by omega)
end Acl
end Go.Proofs.YthngjjeilcfhgaaGreatDoor

/- The document's own rules (escutcheonref14): its words, names, patterns, rules and lines, as plain functions. -/
set_option linter.unusedVariables false
namespace Go.Proofs.YthngjjeilcfhgaaGreatDoor
open Go.RowKit Go.Proofs.YthngjjeilcfhgaaGreatDoorW.PrintWords Go.Proofs.YthngjjeilcfhgaaGreatDoorW.PrintLast
namespace Ref
open Acl

/-- Words: what is there already, and the rest of the text parted at blanks. -/
def wordsR (init : List ByteArray) (cur : ByteArray) (rest : List UInt8) : List ByteArray := match partsAt 32 rest with
  | [] => init ++ [cur]
  | p :: ps => init ++ (⟨(cur.data.toList ++ p).toArray⟩ :: ps.map fun q => (⟨q.toArray⟩ : ByteArray))
theorem ext_byte (s : ByteArray) (i : Nat) (h : i < s.size) : (s.extract i (i + 1)).data.toList = [s.data.toList.getD i 0] := by
  have hl : i < s.data.toList.length := by rw [← Lib.size_eq]; exact h
  rw [Lib.extract_data]
  rw [List.getD_eq_getElem?_getD, List.getElem?_eq_getElem hl]
  rw [List.drop_eq_getElem_cons hl]
  simp
theorem wordsR_blank (init : List ByteArray) (cur : ByteArray) (r : List UInt8) : wordsR init cur (32 :: r) = wordsR (init ++ [cur]) ⟨#[]⟩ r := by
  obtain ⟨p, ps, e⟩ := partsAt_ne 32 r
  unfold wordsR
  rw [partsAt_hit, e]
  simp
theorem wordsR_byte (init : List ByteArray) (cur add : ByteArray) (c : UInt8) (hc : c ≠ 32) (ha : add.data.toList = [c]) (r : List UInt8) : wordsR init cur (c :: r) = wordsR init (cur ++ add) r := by
  obtain ⟨p, ps, e⟩ := partsAt_ne 32 r
  unfold wordsR
  rw [partsAt_miss hc e, e]
  have h : (cur ++ add).data.toList = cur.data.toList ++ [c] := by simp [ha]
  rw [h]
  simp
theorem words_loop (s : ByteArray) (hs : s.size ≤ 100000) : ∀ (d i : Nat) (init : List ByteArray) (cur : ByteArray), i + d = s.size → init.length ≤ i → cur.size ≤ i → Ev (fun k => Pl.escutcheonref14_words.l0 k s (init ++ [cur]) (i : Int)) (wordsR init cur (s.data.toList.drop i)) := by
  intro d
  induction d with
  | zero =>
    intro i init cur hi hil hic
    have : s.data.toList.drop i = [] := by rw [List.drop_eq_nil_iff, ← Lib.size_eq]; omega
    rw [this]
    refine Ev.step (f := fun _ => some (init ++ [cur])) (fun k => ?_) ?_
    · show Pl.escutcheonref14_words.l0 (k + 1) s (init ++ [cur]) (i : Int) = _
      rw [Pl.escutcheonref14_words.l0, if_neg (by omega)]
    · have e : wordsR init cur [] = init ++ [cur] := by simp [wordsR, partsAt]
      rw [e]
      exact Ev.now _
  | succ d ih =>
    intro i init cur hi hil hic
    have hlt : i < s.size := by omega
    have hll : i < s.data.toList.length := by rw [← Lib.size_eq]; exact hlt
    have hb := bt_get s i hlt
    have hext := ext_byte s i hlt
    rw [drop_cons _ _ hll]
    generalize s.data.toList.getD i 0 = c at hb hext
    by_cases hc : c = 32
    · subst hc
      rw [wordsR_blank]
      refine Ev.step (f := fun k => Pl.escutcheonref14_words.l0 k s ((init ++ [cur]) ++ [⟨#[]⟩]) ((i + 1 : Nat) : Int)) (fun k => ?_) (ih (i + 1) (init ++ [cur]) ⟨#[]⟩ (by omega) (by simp; omega) (Nat.zero_le _))
      show Pl.escutcheonref14_words.l0 (k + 1) s (init ++ [cur]) (i : Int) = _
      rw [Pl.escutcheonref14_words.l0, if_pos (by omega), if_pos (by omega), if_pos (by rw [hb]; decide), if_pos (by simp; omega), wrap1 i (by omega)]
    · rw [wordsR_byte init cur (s.extract i (i + 1)) c hc hext]
      have hne : ¬ bt s (i : Int) = 32 := by
        rw [hb]
        intro h
        exact hc (UInt8.toNat_inj.1 (by show _ = 32; omega))
      have hlen : ((init ++ [cur]).length : Int) = ((init.length + 1 : Nat) : Int) := by simp
      have hw : wrap64 (((init ++ [cur]).length : Int) - 1) = (init.length : Int) := by rw [hlen, show (((init.length + 1 : Nat) : Int) - 1) = (init.length : Int) by omega]; exact wrap_nat (by omega)
      have hrd : rdOf ByteArray.empty (init ++ [cur]) (init.length : Int) = cur := by simp [rdOf, List.getD]
      refine Ev.step (f := fun k => Pl.escutcheonref14_words.l0 k s (init ++ [cur ++ s.extract i (i + 1)]) ((i + 1 : Nat) : Int)) (fun k => ?_) (ih (i + 1) init (cur ++ s.extract i (i + 1)) (by omega) (by omega) (by rw [ByteArray.size_append, Lib.size_eq (s.extract i (i + 1)), hext]; simp; omega))
      show Pl.escutcheonref14_words.l0 (k + 1) s (init ++ [cur]) (i : Int) = _
      rw [Pl.escutcheonref14_words.l0, if_pos (by omega), if_pos (by omega), if_neg hne, hw, if_pos (by omega), if_pos (by rw [hlen]; omega), wrap1 i (by omega), if_pos (by omega), if_pos (by omega), hrd, if_pos (by omega)]
      simp
def wordsL (s : ByteArray) : List ByteArray := splitS s 32
theorem words_ev (s : ByteArray) (hs : s.size ≤ 100000) : Ev (fun k => Pl.escutcheonref14_words.f k s) (wordsL s) := by
  have h := words_loop s hs s.size 0 [] ⟨#[]⟩ (by omega) (by simp) (Nat.zero_le _)
  have e : wordsR [] ⟨#[]⟩ (s.data.toList.drop 0) = wordsL s := by
    obtain ⟨p, ps, e⟩ := partsAt_ne 32 s.data.toList
    unfold wordsR wordsL
    rw [List.drop_zero, splitS_is, e]
    rfl
  rw [e] at h
  exact h

theorem name_ev (u : ByteArray) (hs : u.size ≤ 100000) : Ev (fun k => Pl.escutcheonref14_Name.f k u) (userB u && decide (1 ≤ u.size) && decide (u.size ≤ 20)) := by
  have key : ∀ (d i : Nat), i + d = u.size → (∀ q, q < i → 33 ≤ (u.data.toList.getD q 0).toNat ∧ (u.data.toList.getD q 0).toNat ≤ 126) → Ev (fun k => Pl.escutcheonref14_Name.l0 k u (i : Int)) (userB u && decide (1 ≤ u.size) && decide (u.size ≤ 20)) := by
    intro d
    induction d with
    | zero =>
      intro i hi hq
      have hyes : userB u = true := by
        cases e : userB u with
        | true => rfl
        | false =>
          obtain ⟨q, hq1, hn⟩ := userB_not e
          exact absurd (hq q (by omega)) hn
      rw [hyes]
      refine Ev.step (f := fun _ => some (true && decide (1 ≤ u.size) && decide (u.size ≤ 20))) (fun k => ?_) (Ev.now _)
      show Pl.escutcheonref14_Name.l0 (k + 1) u (i : Int) = _
      rw [Pl.escutcheonref14_Name.l0, if_neg (by omega)]
      by_cases h1 : 1 ≤ u.size
      · rw [if_pos (by omega), decide_eq_true h1]
        simp only [Bool.true_and, Option.some.injEq, decide_eq_decide]
        omega
      · rw [if_neg (by omega), decide_eq_false h1]
        simp
    | succ d ih =>
      intro i hi hq
      have hlt : i < u.size := by omega
      have hb := bt_get u i hlt
      by_cases hok : 33 ≤ (u.data.toList.getD i 0).toNat ∧ (u.data.toList.getD i 0).toNat ≤ 126
      · refine Ev.step (f := fun k => Pl.escutcheonref14_Name.l0 k u ((i + 1 : Nat) : Int)) (fun k => ?_) (ih (i + 1) (by omega) (fun q hq' => ?_))
        · show Pl.escutcheonref14_Name.l0 (k + 1) u (i : Int) = _
          rw [Pl.escutcheonref14_Name.l0, if_pos (by omega), if_pos (by omega), hb, if_neg (by omega), if_neg (by omega), wrap1 i (by omega)]
        · by_cases e : q = i
          · subst e; exact hok
          · exact hq q (by omega)
      · have hno : userB u = false := by
          cases e : userB u with
          | false => rfl
          | true => exact absurd (userB_all e i hlt) hok
        rw [hno]
        refine Ev.step (f := fun _ => some false) (fun k => ?_) (Ev.now _)
        show Pl.escutcheonref14_Name.l0 (k + 1) u (i : Int) = _
        rw [Pl.escutcheonref14_Name.l0, if_pos (by omega), if_pos (by omega), hb]
        by_cases h1 : (u.data.toList.getD i 0).toNat < 33
        · rw [if_pos (by omega)]
        · rw [if_neg (by omega), if_pos (by omega)]
  exact key u.size 0 (by omega) (fun q hq => absurd hq (Nat.not_lt_zero q))

theorem glob_ev (p : ByteArray) (hs : p.size ≤ 100000) : Ev (fun k => Pl.escutcheonref14_Glob.f k p) (piecesB p).2 := by
  have e0 : (piecesB p).2 = ((piecesL p.data.toList).isSome && decide (p.size ≤ 40)) := by
    unfold piecesB
    by_cases h : 40 < p.size
    · rw [if_pos h, decide_eq_false (by omega), Bool.and_false]
    · rw [if_neg h, decide_eq_true (by omega), Bool.and_true]
      unfold piecesR
      cases piecesL p.data.toList <;> rfl
  rw [e0]
  have key : ∀ (d i : Nat), i + d = p.size → Ev (fun k => Pl.escutcheonref14_Glob.l0 k p (i : Int)) ((piecesL (p.data.toList.drop i)).isSome && decide (p.size ≤ 40)) := by
    intro d
    induction d using Nat.strongRecOn with
    | ind d ih =>
      intro i hi
      by_cases hd : d = 0
      · subst hd
        have : p.data.toList.drop i = [] := by rw [List.drop_eq_nil_iff, ← Lib.size_eq]; omega
        rw [this]
        refine Ev.step (f := fun _ => some (decide (p.size ≤ 40))) (fun k => ?_) ?_
        · show Pl.escutcheonref14_Glob.l0 (k + 1) p (i : Int) = _
          rw [Pl.escutcheonref14_Glob.l0, if_neg (by omega)]
          simp only [Option.some.injEq, decide_eq_decide]
          omega
        · simpa [piecesL] using Ev.now (decide (p.size ≤ 40))
      · have hlt : i < p.size := by omega
        have hll : i < p.data.toList.length := by rw [← Lib.size_eq]; exact hlt
        have hb := bt_get p i hlt
        rw [drop_cons _ _ hll]
        generalize p.data.toList.getD i 0 = c at hb
        have hw2 : wrap64 (((i + 1 : Nat) : Int) + 1) = ((i + 2 : Nat) : Int) := wrap1 (i + 1) (by omega)
        by_cases h92 : c.toNat = 92
        · by_cases hend : i + 1 = p.size
          · have : p.data.toList.drop (i + 1) = [] := by rw [List.drop_eq_nil_iff, ← Lib.size_eq]; omega
            rw [this, piecesL_end c h92]
            refine Ev.step (f := fun _ => some false) (fun k => ?_) (Ev.now _)
            show Pl.escutcheonref14_Glob.l0 (k + 1) p (i : Int) = _
            rw [Pl.escutcheonref14_Glob.l0, if_pos (by omega), if_pos (by omega), if_pos (by rw [hb, h92]; rfl), wrap1 i (by omega), if_pos (by omega)]
          · rw [drop_cons _ _ (show i + 1 < p.data.toList.length by rw [← Lib.size_eq]; omega), piecesL_quote _ _ _ h92]
            refine Ev.step (f := fun k => Pl.escutcheonref14_Glob.l0 k p ((i + 2 : Nat) : Int)) (fun k => ?_) ?_
            · show Pl.escutcheonref14_Glob.l0 (k + 1) p (i : Int) = _
              rw [Pl.escutcheonref14_Glob.l0, if_pos (by omega), if_pos (by omega), if_pos (by rw [hb, h92]; rfl), wrap1 i (by omega), if_neg (by omega), hw2]
            · have := ih (d - 2) (by omega) (i + 2) (by omega)
              rw [Option.isSome_map]
              exact this
        · have e1 : (piecesL (c :: p.data.toList.drop (i + 1))).isSome = (piecesL (p.data.toList.drop (i + 1))).isSome := by
            by_cases h : c.toNat = 42 ∨ c.toNat = 63
            · rw [piecesL_any _ _ h, Option.isSome_map]
            · rw [piecesL_plain _ _ h h92, Option.isSome_map]
          rw [e1]
          refine Ev.step (f := fun k => Pl.escutcheonref14_Glob.l0 k p ((i + 1 : Nat) : Int)) (fun k => ?_) (ih (d - 1) (by omega) (i + 1) (by omega))
          show Pl.escutcheonref14_Glob.l0 (k + 1) p (i : Int) = _
          rw [Pl.escutcheonref14_Glob.l0, if_pos (by omega), if_pos (by omega), if_neg (by rw [hb]; omega), wrap1 i (by omega)]
  have := key p.size 0 (by omega)
  rw [List.drop_zero] at this
  exact this

theorem rule_ev (x : Pa.S45) (h1 : x.f1.size ≤ 100000) (h3 : x.f3.size ≤ 100000) : Ev (fun k => Pl.escutcheonref14_Rule.f k x.f0 x.f1 x.f2 x.f3) (rightB x) := by
  have key : ∀ (d i : Nat), i + d = x.f3.size → noBl x.f3 i → Ev (fun k => Pl.escutcheonref14_Rule.l0 k (i : Int) x.f0 x.f1 x.f2 x.f3) (rightB x) := by
    intro d
    induction d with
    | zero =>
      intro i hi hq
      have hno : hasBlank x.f3 = false := hasBlank_no (by rw [← hi]; exact hq)
      refine Ev.step (f := fun k => (Pl.escutcheonref14_Name.f k x.f1).bind fun t109 => (if t109 = true then (if x.f2 ≥ 0 then (if x.f2 ≤ 3 then (if x.f3.toList = ([] : List UInt8) then (some false) else ((Pl.escutcheonref14_Glob.f k x.f3).bind fun t110 => (some t110))) else (some false)) else (some false)) else (some false))) (fun k => ?_) (Ev.bind (name_ev x.f1 h1) ?_)
      · show Pl.escutcheonref14_Rule.l0 (k + 1) (i : Int) x.f0 x.f1 x.f2 x.f3 = _
        rw [Pl.escutcheonref14_Rule.l0, if_neg (by omega)]
      · by_cases hn : (userB x.f1 && decide (1 ≤ x.f1.size) && decide (x.f1.size ≤ 20)) = true
        · have hn' := hn
          simp only [Bool.and_eq_true, decide_eq_true_eq] at hn'
          obtain ⟨⟨n1, n2⟩, n3⟩ := hn'
          by_cases c0 : 0 ≤ x.f2
          · by_cases c3 : x.f2 ≤ 3
            · by_cases hp : x.f3.toList = []
              · have e : rightB x = false := by
                  unfold rightB
                  rw [if_pos (.inr (.inr (ba_of (by rw [← Lib.toList_data]; exact hp))))]
                rw [e]
                exact Ev.congr (fun k => by rw [if_pos hn, if_pos c0, if_pos c3, if_pos hp]) (Ev.now _)
              · have e : rightB x = (piecesB x.f3).2 := by
                  unfold rightB
                  rw [if_neg, if_neg (by rw [hno]; decide), if_pos n1, if_pos ⟨c0, c3⟩]
                  rintro (h | h | h)
                  · omega
                  · omega
                  · exact hp (by rw [h, Lib.toList_data])
                rw [e]
                exact Ev.congr (fun k => by rw [if_pos hn, if_pos c0, if_pos c3, if_neg hp]) (Ev.bind (glob_ev x.f3 h3) (Ev.now _))
            · have e : rightB x = false := by
                cases er : rightB x with
                | false => rfl
                | true => exact absurd (ok_of er).c1 c3
              rw [e]
              exact Ev.congr (fun k => by rw [if_pos hn, if_pos c0, if_neg c3]) (Ev.now _)
          · have e : rightB x = false := by
              cases er : rightB x with
              | false => rfl
              | true => exact absurd (ok_of er).c0 c0
            rw [e]
            exact Ev.congr (fun k => by rw [if_pos hn, if_neg c0]) (Ev.now _)
        · have e : rightB x = false := by
            cases er : rightB x with
            | false => rfl
            | true =>
              have o := ok_of er
              exact absurd (by rw [o.ub, decide_eq_true o.u0, decide_eq_true o.u1]; rfl) hn
          rw [e]
          exact Ev.congr (fun k => by rw [if_neg hn]) (Ev.now _)
    | succ d ih =>
      intro i hi hq
      have hlt : i < x.f3.size := by omega
      have hb := bt_get x.f3 i hlt
      have hyes : (x.f3.data.toList.getD i 0 = 32 ∨ x.f3.data.toList.getD i 0 = 10) → rightB x = false := fun h => by
        cases er : rightB x with
        | false => rfl
        | true =>
          have := (ok_of er).pb
          rw [hasBlank_yes hlt (by rw [← getD_of x.f3 i hlt]; exact h)] at this
          cases this
      by_cases h32 : x.f3.data.toList.getD i 0 = 32
      · rw [hyes (.inl h32)]
        refine Ev.step (f := fun _ => some false) (fun k => ?_) (Ev.now _)
        show Pl.escutcheonref14_Rule.l0 (k + 1) (i : Int) x.f0 x.f1 x.f2 x.f3 = _
        rw [Pl.escutcheonref14_Rule.l0, if_pos (by omega), if_pos (by omega), hb, h32, if_pos (by decide)]
      · have n32 : ¬ (((x.f3.data.toList.getD i 0).toNat : Nat) : Int) = 32 := fun h => h32 (UInt8.toNat_inj.1 (by show _ = 32; omega))
        by_cases h10 : x.f3.data.toList.getD i 0 = 10
        · rw [hyes (.inr h10)]
          refine Ev.step (f := fun _ => some false) (fun k => ?_) (Ev.now _)
          show Pl.escutcheonref14_Rule.l0 (k + 1) (i : Int) x.f0 x.f1 x.f2 x.f3 = _
          rw [Pl.escutcheonref14_Rule.l0, if_pos (by omega), if_pos (by omega), hb, if_neg n32, h10, if_pos (by decide)]
        · have n10 : ¬ (((x.f3.data.toList.getD i 0).toNat : Nat) : Int) = 10 := fun h => h10 (UInt8.toNat_inj.1 (by show _ = 10; omega))
          refine Ev.step (f := fun k => Pl.escutcheonref14_Rule.l0 k ((i + 1 : Nat) : Int) x.f0 x.f1 x.f2 x.f3) (fun k => ?_) (ih (i + 1) (by omega) (fun q hq' => ?_))
          · show Pl.escutcheonref14_Rule.l0 (k + 1) (i : Int) x.f0 x.f1 x.f2 x.f3 = _
            rw [Pl.escutcheonref14_Rule.l0, if_pos (by omega), if_pos (by omega), hb, if_neg n32, if_neg n10, wrap1 i (by omega)]
          · by_cases e : q = i
            · subst e; exact ⟨h32, h10⟩
            · exact hq q (by omega)
  exact key x.f3.size 0 (by omega) (fun q hq => absurd hq (Nat.not_lt_zero q))
end Ref
end Go.Proofs.YthngjjeilcfhgaaGreatDoor

/- One line, by the document's own rules, and by the program's. -/
set_option linter.unusedVariables false
namespace Go.Proofs.YthngjjeilcfhgaaGreatDoor
open Go.RowKit Go.Proofs.YthngjjeilcfhgaaGreatDoorW.PrintWords Go.Proofs.YthngjjeilcfhgaaGreatDoorW.PrintLast
namespace Ref
open Acl

def names4 : List ByteArray := [⟨#[97, 110, 121]⟩, ⟨#[114, 101, 97, 100]⟩, ⟨#[119, 114, 105, 116, 101]⟩, ⟨#[97, 100, 109, 105, 110]⟩]
theorem names4_at : ∀ c : Int, 0 ≤ c → c ≤ 3 → rdOf ByteArray.empty names4 c = nameOf c := by
  intro c h0 h1
  have h : c = 0 ∨ c = 1 ∨ c = 2 ∨ c = 3 := by omega
  rcases h with rfl | rfl | rfl | rfl <;> decide +kernel
theorem cls_size : ∀ c : Int, 0 ≤ c → c ≤ 3 → (nameOf c).size ≤ 5 := by
  intro c h0 h1
  have := (cls_no c h0 h1).2.2
  rw [Lib.size_eq]
  exact this
theorem ref_line {x : Pa.S45} (h : OkR x) : Pl.escutcheonref14_Line.f x.f0 x.f1 x.f2 x.f3 = some ⟨(lineL x).toArray⟩ := by
  have h0 := h.c0
  have h1 := h.c1
  have hn := names4_at x.f2 h0 h1
  have hcs := cls_size x.f2 h0 h1
  have hu := h.u1
  have hp := h.size
  unfold Pl.escutcheonref14_Line.f
  cases hb : x.f0 with
  | true =>
    rw [if_pos rfl, if_pos (by omega), if_pos (by omega), Option.bind_some, if_pos h0]
    rw [show rdOf ByteArray.empty ([(⟨#[97, 110, 121]⟩ : ByteArray), (⟨#[114, 101, 97, 100]⟩ : ByteArray), (⟨#[119, 114, 105, 116, 101]⟩ : ByteArray), (⟨#[97, 100, 109, 105, 110]⟩ : ByteArray)] : List ByteArray) x.f2 = nameOf x.f2 from hn]
    rw [if_pos (by show x.f2 < 4; omega), if_pos (by omega), if_pos (by omega), if_pos (by omega)]
    congr 1
    refine ba_of ?_
    unfold lineL
    rw [hb]
    simp [whatL, clsOf]
  | false =>
    rw [if_neg (by decide), if_pos (by omega), if_pos (by omega), Option.bind_some, if_pos h0]
    rw [show rdOf ByteArray.empty ([(⟨#[97, 110, 121]⟩ : ByteArray), (⟨#[114, 101, 97, 100]⟩ : ByteArray), (⟨#[119, 114, 105, 116, 101]⟩ : ByteArray), (⟨#[97, 100, 109, 105, 110]⟩ : ByteArray)] : List ByteArray) x.f2 = nameOf x.f2 from hn]
    rw [if_pos (by show x.f2 < 4; omega), if_pos (by omega), if_pos (by omega), if_pos (by omega)]
    congr 1
    refine ba_of ?_
    unfold lineL
    rw [hb]
    simp [whatL, clsOf]

theorem idx_cls (w : ByteArray) : Lib.idxOfS clsL w = if w.toList = (nameOf 3).toList then 3 else if w.toList = (nameOf 2).toList then 2 else if w.toList = (nameOf 1).toList then 1 else if w.toList = (nameOf 0).toList then 0 else -1 := by
  have inj : ∀ a b : ByteArray, a.toList = b.toList → a = b := fun a b h => by
    rw [Lib.toList_data, Lib.toList_data] at h
    rw [ba_of h]
  have hc : clsL = [nameOf 0, nameOf 1, nameOf 2, nameOf 3] := by decide +kernel
  by_cases h3 : w.toList = (nameOf 3).toList
  · rw [if_pos h3, inj _ _ h3]
    decide +kernel
  · rw [if_neg h3]
    by_cases h2 : w.toList = (nameOf 2).toList
    · rw [if_pos h2, inj _ _ h2]
      decide +kernel
    · rw [if_neg h2]
      by_cases h1 : w.toList = (nameOf 1).toList
      · rw [if_pos h1, inj _ _ h1]
        decide +kernel
      · rw [if_neg h1]
        by_cases h0 : w.toList = (nameOf 0).toList
        · rw [if_pos h0, inj _ _ h0]
          decide +kernel
        · rw [if_neg h0, hc]
          have n : ∀ c : Int, w.toList ≠ (nameOf c).toList → ¬ nameOf c = w := fun c h e => h (by rw [e])
          simp only [Lib.idxOfS, Lib.idxFromS, if_neg (n 0 h0), if_neg (n 1 h1), if_neg (n 2 h2), if_neg (n 3 h3)]

/-- The rule that four words tell. -/
def ruleOf (s0 s1 s2 s3 : ByteArray) : Pa.S45 := ⟨s0.toList == [97, 108, 108, 111, 119], s1, Lib.idxOfS clsL s2, s3⟩
/-- Is a line a rule's? -/
def lineOk (s : ByteArray) : Bool := match splitS s 32 with
  | [s0, s1, s2, s3] => rightB (ruleOf s0 s1 s2 s3) && (lineL (ruleOf s0 s1 s2 s3) == s.data.toList)
  | _ => false

theorem iteCongr {α : Type} {c : Prop} [Decidable c] {a a' b b' : α} (h : a = a') (h' : b = b') : (if c then a else b) = (if c then a' else b') := by rw [h, h']
theorem lineOk_four {s s0 s1 s2 s3 : ByteArray} (h : splitS s 32 = [s0, s1, s2, s3]) : lineOk s = (rightB (ruleOf s0 s1 s2 s3) && (lineL (ruleOf s0 s1 s2 s3) == s.data.toList)) := by
  unfold lineOk
  rw [h]

theorem word_size (s w : ByteArray) (h : w ∈ splitS s 32) : w.size ≤ s.size := by
  rw [splitS_is] at h
  obtain ⟨l, hl, rfl⟩ := List.mem_map.1 h
  have := (partsAt_mem 32 _ l hl).2
  rw [ba_size, Lib.size_eq]
  exact this

theorem read_ev (s : ByteArray) (hs : s.size ≤ 1000) : ∃ x : Pa.S45, Ev (fun k => acl_read.f k s) (x.f0, x.f1, x.f2, x.f3, lineOk s) := by
  have hsp := split_f s 32 (by omega)
  match hw : splitS s 32 with
  | [s0, s1, s2, s3] =>
    have z3 := word_size s s3 (by rw [hw]; simp)
    refine ⟨ruleOf s0 s1 s2 s3, ?_⟩
    rw [lineOk_four hw]
    have hr := right_ev (ruleOf s0 s1 s2 s3) (by show s3.size ≤ _; omega)
    refine Ev.congr (f := fun k => (acl_Right.f k (ruleOf s0 s1 s2 s3).f0 (ruleOf s0 s1 s2 s3).f1 (ruleOf s0 s1 s2 s3).f2 (ruleOf s0 s1 s2 s3).f3).bind fun rr =>
      if rr = true then (Pa.acl_line.f (ruleOf s0 s1 s2 s3).f0 (ruleOf s0 s1 s2 s3).f1 (ruleOf s0 s1 s2 s3).f2 (ruleOf s0 s1 s2 s3).f3).bind fun ln => some ((ruleOf s0 s1 s2 s3).f0, (ruleOf s0 s1 s2 s3).f1, (ruleOf s0 s1 s2 s3).f2, (ruleOf s0 s1 s2 s3).f3, ln.toList == s.toList)
      else some ((ruleOf s0 s1 s2 s3).f0, (ruleOf s0 s1 s2 s3).f1, (ruleOf s0 s1 s2 s3).f2, (ruleOf s0 s1 s2 s3).f3, false)) (fun k => ?_) (Ev.bind hr ?_)
    · unfold acl_read.f
      rw [hsp, Option.bind_some, hw]
      rfl
    · by_cases h : rightB (ruleOf s0 s1 s2 s3) = true
      · refine Ev.congr (fun k => ?_) (Ev.now _)
        rw [if_pos h, line_f (ok_of h), Option.bind_some, Lib.toList_data, Lib.toList_data, h]
        simp
      · refine Ev.congr (fun k => ?_) (Ev.now _)
        rw [if_neg h]
        have : rightB (ruleOf s0 s1 s2 s3) = false := by simpa using h
        rw [this]
        rfl
  | [] =>
    refine ⟨Pa.z45, ?_⟩
    rw [show lineOk s = false by unfold lineOk; rw [hw]]
    exact Ev.congr (fun k => by unfold acl_read.f; rw [hsp, Option.bind_some, hw]; rfl) (Ev.now _)
  | [_] =>
    refine ⟨Pa.z45, ?_⟩
    rw [show lineOk s = false by unfold lineOk; rw [hw]]
    exact Ev.congr (fun k => by unfold acl_read.f; rw [hsp, Option.bind_some, hw]; rfl) (Ev.now _)
  | [_, _] =>
    refine ⟨Pa.z45, ?_⟩
    rw [show lineOk s = false by unfold lineOk; rw [hw]]
    exact Ev.congr (fun k => by unfold acl_read.f; rw [hsp, Option.bind_some, hw]; rfl) (Ev.now _)
  | [_, _, _] =>
    refine ⟨Pa.z45, ?_⟩
    rw [show lineOk s = false by unfold lineOk; rw [hw]]
    exact Ev.congr (fun k => by unfold acl_read.f; rw [hsp, Option.bind_some, hw]; rfl) (Ev.now _)
  | _ :: _ :: _ :: _ :: _ :: _ =>
    refine ⟨Pa.z45, ?_⟩
    rw [show lineOk s = false by unfold lineOk; rw [hw]]
    exact Ev.congr (fun k => by unfold acl_read.f; rw [hsp, Option.bind_some, hw]; rfl) (Ev.now _)

theorem rules_tail (s : ByteArray) (hs : s.size ≤ 1000) (w0 w1 w2 w3 : ByteArray) (hw : splitS s 32 = [w0, w1, w2, w3]) (z7 z8 : Int) (h8 : z8 = s.size) :
    Ev (fun k => Pl.escutcheonref14_Rules.l1 k s [] 1 z7 z8 s [w0, w1, w2, w3] 0 (w0.toList == [97, 108, 108, 111, 119]) w1 (-1) w3) (if lineOk s then ([ruleOf w0 w1 w2 w3], 0, true) else ([], 1, false)) := by
  have e1 := word_size s w1 (by rw [hw]; simp)
  have e3 := word_size s w3 (by rw [hw]; simp)
  have hstep : ∀ (j : Nat) (hj : j < 4) (c : Int) (r : List Pa.S45 × Int × Bool), Ev (fun k => Pl.escutcheonref14_Rules.l1 k s [] 1 z7 z8 s [w0, w1, w2, w3] ((j + 1 : Nat) : Int) (w0.toList == [97, 108, 108, 111, 119]) w1 (if w2.toList = (nameOf (j : Int)).toList then (j : Int) else c) w3) r →
      Ev (fun k => Pl.escutcheonref14_Rules.l1 k s [] 1 z7 z8 s [w0, w1, w2, w3] (j : Int) (w0.toList == [97, 108, 108, 111, 119]) w1 c w3) r := by
    intro j hj c r hr
    refine Ev.step (f := fun k => Pl.escutcheonref14_Rules.l1 k s [] 1 z7 z8 s [w0, w1, w2, w3] ((j + 1 : Nat) : Int) (w0.toList == [97, 108, 108, 111, 119]) w1 (if w2.toList = (nameOf (j : Int)).toList then (j : Int) else c) w3) (fun k => ?_) hr
    show Pl.escutcheonref14_Rules.l1 (k + 1) s [] 1 z7 z8 s [w0, w1, w2, w3] (j : Int) (w0.toList == [97, 108, 108, 111, 119]) w1 c w3 = _
    rw [Pl.escutcheonref14_Rules.l1, if_pos (by omega), if_pos (by show (2 : Int) < 4; decide), Option.bind_some, if_pos (by omega), if_pos (by show (j : Int) < 4; omega)]
    rw [show rdOf ByteArray.empty ([(⟨#[97, 110, 121]⟩ : ByteArray), (⟨#[114, 101, 97, 100]⟩ : ByteArray), (⟨#[119, 114, 105, 116, 101]⟩ : ByteArray), (⟨#[97, 100, 109, 105, 110]⟩ : ByteArray)] : List ByteArray) (j : Int) = nameOf (j : Int) from names4_at (j : Int) (by omega) (by omega)]
    rw [show rdOf ByteArray.empty [w0, w1, w2, w3] 2 = w2 from rfl, wrap1 j (by omega)]
    by_cases h : w2.toList = (nameOf (j : Int)).toList
    · rw [if_pos h, if_pos h]
    · rw [if_neg h, if_neg h]
  refine hstep 0 (by decide) _ _ (hstep 1 (by decide) _ _ (hstep 2 (by decide) _ _ (hstep 3 (by decide) _ _ ?_)))
  have hc : (if w2.toList = (nameOf ((3 : Nat) : Int)).toList then ((3 : Nat) : Int) else if w2.toList = (nameOf ((2 : Nat) : Int)).toList then ((2 : Nat) : Int) else if w2.toList = (nameOf ((1 : Nat) : Int)).toList then ((1 : Nat) : Int) else if w2.toList = (nameOf ((0 : Nat) : Int)).toList then ((0 : Nat) : Int) else -1) = Lib.idxOfS clsL w2 := (idx_cls w2).symm
  rw [hc]
  have hr := rule_ev (ruleOf w0 w1 w2 w3) (by show w1.size ≤ _; omega) (by show w3.size ≤ _; omega)
  refine Ev.step (f := fun k => (Pl.escutcheonref14_Rule.f k (ruleOf w0 w1 w2 w3).f0 (ruleOf w0 w1 w2 w3).f1 (ruleOf w0 w1 w2 w3).f2 (ruleOf w0 w1 w2 w3).f3).bind fun t140 => (if t140 = true then ((Pl.escutcheonref14_Line.f (ruleOf w0 w1 w2 w3).f0 (ruleOf w0 w1 w2 w3).f1 (ruleOf w0 w1 w2 w3).f2 (ruleOf w0 w1 w2 w3).f3).bind fun t141 => (if t141.toList = s.toList then (Pl.escutcheonref14_Rules.l0 k s [ruleOf w0 w1 w2 w3] 2 z7 (wrap64 (z8 + 1))) else (some (([] : List Pa.S45), 1, false)))) else (some (([] : List Pa.S45), 1, false)))) (fun k => ?_) (Ev.bind hr ?_)
  · show Pl.escutcheonref14_Rules.l1 (k + 1) s [] 1 z7 z8 s [w0, w1, w2, w3] ((3 + 1 : Nat) : Int) (w0.toList == [97, 108, 108, 111, 119]) w1 (Lib.idxOfS clsL w2) w3 = _
    rw [Pl.escutcheonref14_Rules.l1, if_neg (by decide)]
    refine congrArg (fun g => Option.bind _ g) (funext fun t140 => ?_)
    refine iteCongr ?_ rfl
    refine congrArg (fun g => Option.bind _ g) (funext fun t141 => ?_)
    refine iteCongr ?_ rfl
    rw [if_neg (by decide), if_pos (by decide), show wrap64 (1 + 1) = 2 from wrap1 1 (by omega)]
    rfl
  · rw [lineOk_four hw]
    by_cases h : rightB (ruleOf w0 w1 w2 w3) = true
    · rw [h, Bool.true_and]
      by_cases hl : lineL (ruleOf w0 w1 w2 w3) = s.data.toList
      · have hb : (lineL (ruleOf w0 w1 w2 w3) == s.data.toList) = true := beq_iff_eq.2 hl
        rw [hb, if_pos rfl]
        refine Ev.congr (f := fun k => Pl.escutcheonref14_Rules.l0 k s [ruleOf w0 w1 w2 w3] 2 z7 (wrap64 (z8 + 1))) (fun k => ?_) ?_
        · rw [if_pos rfl, ref_line (ok_of h), Option.bind_some, if_pos (by rw [Lib.toList_data, Lib.toList_data]; exact hl)]
        · refine Ev.step (f := fun _ => some ([ruleOf w0 w1 w2 w3], 0, true)) (fun k => ?_) (Ev.now _)
          show Pl.escutcheonref14_Rules.l0 (k + 1) s [ruleOf w0 w1 w2 w3] 2 z7 (wrap64 (z8 + 1)) = _
          rw [h8, wrap1 s.size (by omega), Pl.escutcheonref14_Rules.l0, if_neg (by omega)]
      · have hb : (lineL (ruleOf w0 w1 w2 w3) == s.data.toList) = false := beq_eq_false_iff_ne.2 hl
        rw [hb, if_neg (by decide)]
        refine Ev.congr (fun k => ?_) (Ev.now _)
        rw [if_pos rfl, ref_line (ok_of h), Option.bind_some, if_neg (by rw [Lib.toList_data, Lib.toList_data]; exact hl)]
    · have h' : rightB (ruleOf w0 w1 w2 w3) = false := by simpa using h
      rw [h', Bool.false_and, if_neg (by decide)]
      exact Ev.congr (fun k => by rw [if_neg (by decide)]) (Ev.now _)

theorem rules_line (s : ByteArray) (hs : s.size ≤ 1000) (c : UInt8) (q : List UInt8) (hc : s.data.toList = c :: q) (h35 : c ≠ 35) (h10 : (10 : UInt8) ∉ s.data.toList) : ∃ l n, Ev (fun k => Pl.escutcheonref14_Rules.f k s) (l, n, lineOk s) := by
  have hne : ∀ i, i < s.size → s.data.toList.getD i 0 ≠ 10 := fun i hi e => by
    have hl : i < s.data.toList.length := by rw [← Lib.size_eq]; exact hi
    rw [List.getD_eq_getElem?_getD, List.getElem?_eq_getElem hl] at e
    exact h10 (by rw [← e]; exact List.getElem_mem hl)
  have hsz : 0 < s.size := by rw [Lib.size_eq, hc]; simp
  have hfull : s.extract (0 : Int).toNat (s.size : Int).toNat = s := by
    have e : (s.extract 0 s.size).data.toList = s.data.toList := by
      rw [Lib.extract_data, List.drop_zero]
      exact List.take_of_length_le (by rw [Lib.size_eq]; exact Nat.le_of_eq (Nat.sub_zero _).symm)
    exact (ba_of e).trans (ba_of rfl).symm
  have hb0 : bt s 0 = (c.toNat : Int) := by
    have := bt_get s 0 hsz
    rw [hc] at this
    exact this
  have hfl : (bt s 0 != 35) = true := by
    rw [hb0]
    have : (((c.toNat : Nat) : Int) == 35) = false := beq_eq_false_iff_ne.2 fun h => h35 (UInt8.toNat_inj.1 (by show _ = 35; omega))
    show (!(_ == _)) = true
    rw [this]
    rfl
  obtain ⟨R, hR, hok⟩ : ∃ R : List Pa.S45 × Int × Bool, Ev (fun k => Pl.escutcheonref14_Rules.j2 k s [] 1 (wrap64 ((s.size : Int) + 1)) (s.size : Int) s true) R ∧ R.2.2 = lineOk s := by
    have hw := words_ev s (by omega)
    have hj : ∀ R, Ev (fun k => (fun t128 : List ByteArray => (if (t128.length : Int) = 4 then (if 0 < (t128.length : Int) then (if 1 < (t128.length : Int) then (if 3 < (t128.length : Int) then (Pl.escutcheonref14_Rules.l1 k s [] 1 (wrap64 ((s.size : Int) + 1)) (s.size : Int) s t128 0 ((rdOf ByteArray.empty t128 0).toList == ([97, 108, 108, 111, 119] : List UInt8)) (rdOf ByteArray.empty t128 1) (-1) (rdOf ByteArray.empty t128 3)) else (none)) else (none)) else (none)) else (some (([] : List Pa.S45), 1, false)))) (wordsL s)) R → Ev (fun k => Pl.escutcheonref14_Rules.j2 k s [] 1 (wrap64 ((s.size : Int) + 1)) (s.size : Int) s true) R := fun R h => by
      refine Ev.step (f := fun k => (Pl.escutcheonref14_words.f k s).bind fun t128 => (if (t128.length : Int) = 4 then (if 0 < (t128.length : Int) then (if 1 < (t128.length : Int) then (if 3 < (t128.length : Int) then (Pl.escutcheonref14_Rules.l1 k s [] 1 (wrap64 ((s.size : Int) + 1)) (s.size : Int) s t128 0 ((rdOf ByteArray.empty t128 0).toList == ([97, 108, 108, 111, 119] : List UInt8)) (rdOf ByteArray.empty t128 1) (-1) (rdOf ByteArray.empty t128 3)) else (none)) else (none)) else (none)) else (some (([] : List Pa.S45), 1, false)))) (fun k => ?_) (Ev.bind hw h)
      show Pl.escutcheonref14_Rules.j2 (k + 1) s [] 1 (wrap64 ((s.size : Int) + 1)) (s.size : Int) s true = _
      rw [Pl.escutcheonref14_Rules.j2, if_pos rfl]
    by_cases h4 : (wordsL s).length = 4
    · match hwl : wordsL s, h4 with
      | [w0, w1, w2, w3], _ =>
        refine ⟨_, hj _ (Ev.congr (fun k => ?_) (rules_tail s hs w0 w1 w2 w3 hwl (wrap64 ((s.size : Int) + 1)) (s.size : Int) rfl)), ?_⟩
        · rw [hwl]
          rfl
        · split <;> simp_all
    · refine ⟨_, hj _ (Ev.congr (fun k => ?_) (Ev.now (([] : List Pa.S45), 1, false))), ?_⟩
      · simp only
        rw [if_neg (by omega)]
      · unfold lineOk
        split
        · rename_i w0 w1 w2 w3 e
          exact absurd (by unfold wordsL; rw [e]; rfl) h4
        · rfl
  obtain ⟨l, n, ok⟩ := R
  simp only at hok
  subst hok
  refine ⟨l, n, ?_⟩
  unfold Pl.escutcheonref14_Rules.f
  refine Ev.congr (f := fun k => Pl.escutcheonref14_Rules.l0 k s [] 1 0 ((0 : Nat) : Int)) (fun k => by rw [if_neg (by omega)]; rfl) ?_
  have key : ∀ (d i : Nat), i + d = s.size → Ev (fun k => Pl.escutcheonref14_Rules.l0 k s [] 1 0 (i : Int)) (l, n, lineOk s) := by
    intro d
    induction d with
    | zero =>
      intro i hi
      obtain rfl : i = s.size := by omega
      refine Ev.step (f := fun k => Pl.escutcheonref14_Rules.j1 k s [] 1 0 (s.size : Int) false) (fun k => ?_) ?_
      · show Pl.escutcheonref14_Rules.l0 (k + 1) s [] 1 0 (s.size : Int) = _
        rw [Pl.escutcheonref14_Rules.l0, if_pos (by omega), if_neg (by omega)]
      · refine Ev.step (f := fun k => Pl.escutcheonref14_Rules.j2 k s [] 1 (wrap64 ((s.size : Int) + 1)) (s.size : Int) s true) (fun k => ?_) hR
        show Pl.escutcheonref14_Rules.j1 (k + 1) s [] 1 0 (s.size : Int) false = _
        rw [Pl.escutcheonref14_Rules.j1, if_neg (by decide), if_pos (by decide), if_pos (by omega), if_pos (by omega), hfull, if_neg (by rw [Lib.toList_data, hc]; simp), if_pos (by omega), hfl]
    | succ d ih =>
      intro i hi
      have hlt : i < s.size := by omega
      have hb := bt_get s i hlt
      have hbn : (bt s (i : Int) != 10) = true := by
        rw [hb]
        have : (((s.data.toList.getD i 0).toNat : Int) == 10) = false := beq_eq_false_iff_ne.2 fun h => hne i hlt (UInt8.toNat_inj.1 (by show _ = 10; omega))
        show (!(_ == _)) = true
        rw [this]
        rfl
      refine Ev.step (f := fun k => Pl.escutcheonref14_Rules.j1 k s [] 1 0 (i : Int) true) (fun k => ?_) ?_
      · show Pl.escutcheonref14_Rules.l0 (k + 1) s [] 1 0 (i : Int) = _
        rw [Pl.escutcheonref14_Rules.l0, if_pos (by omega), if_pos (by omega), if_pos (by omega), hbn]
      · refine Ev.step (f := fun k => Pl.escutcheonref14_Rules.l0 k s [] 1 0 ((i + 1 : Nat) : Int)) (fun k => ?_) (ih (i + 1) (by omega))
        show Pl.escutcheonref14_Rules.j1 (k + 1) s [] 1 0 (i : Int) true = _
        rw [Pl.escutcheonref14_Rules.j1, if_pos rfl, wrap1 i (by omega)]
  exact key s.size 0 (by omega)
end Ref
end Go.Proofs.YthngjjeilcfhgaaGreatDoor
