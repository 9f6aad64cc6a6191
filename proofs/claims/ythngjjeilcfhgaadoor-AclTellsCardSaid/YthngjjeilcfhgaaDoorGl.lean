/- Patterns: what the program's glob.pieces, glob.Match and acl.Fits, acl.Decide come to, as plain functions over lists. -/
import Derived.Test.YthngjjeilcfhgaaDoorPa
set_option linter.unusedVariables false
namespace Go.Proofs.YthngjjeilcfhgaaDoor
open Go.RowKit Go.Proofs.YthngjjeilcfhgaaDoorW.PrintWords Go.Proofs.YthngjjeilcfhgaaDoorW.PrintLast

theorem wrap_id {x : Int} (h0 : 0 ≤ x) (h1 : x ≤ 4611686018427387904) : wrap64 x = x := by unfold wrap64; omega
theorem wrap_nat {n : Nat} (h1 : n ≤ 4611686018427387904) : wrap64 (n : Int) = n := wrap_id (by omega) (by omega)
theorem bt_get (s : ByteArray) (i : Nat) (h : i < s.size) : bt s (i : Int) = ((s.data.toList.getD i 0).toNat : Int) := by
  have hl : i < s.data.toList.length := by rw [← Lib.size_eq]; exact h
  unfold bt
  rw [dif_pos (by simpa using h), List.getD_eq_getElem?_getD, List.getElem?_eq_getElem hl]
  rfl
theorem drop_cons (l : List UInt8) (i : Nat) (h : i < l.length) : l.drop i = l.getD i 0 :: l.drop (i + 1) := by
  rw [List.drop_eq_getElem_cons h, List.getD_eq_getElem?_getD, List.getElem?_eq_getElem h]
  rfl

/-- The parts of a pattern. -/
def piecesL : List UInt8 → Option (List Pa.S64)
  | [] => some []
  | c :: r => if c.toNat = 92 then (match r with
      | [] => none
      | d :: r' => (piecesL r').map (⟨92, d.toNat⟩ :: ·))
    else if c.toNat = 42 ∨ c.toNat = 63 then (piecesL r).map (⟨c.toNat, 0⟩ :: ·) else (piecesL r).map (⟨92, c.toNat⟩ :: ·)
theorem piecesL_any (c : UInt8) (r : List UInt8) (h : c.toNat = 42 ∨ c.toNat = 63) : piecesL (c :: r) = (piecesL r).map (⟨c.toNat, 0⟩ :: ·) := by
  have h92 : ¬ c.toNat = 92 := by omega
  cases r <;> (conv => lhs; rw [piecesL, if_neg h92, if_pos h])
theorem piecesL_plain (c : UInt8) (r : List UInt8) (h : ¬ (c.toNat = 42 ∨ c.toNat = 63)) (h92 : ¬ c.toNat = 92) : piecesL (c :: r) = (piecesL r).map (⟨92, c.toNat⟩ :: ·) := by
  cases r <;> (conv => lhs; rw [piecesL, if_neg h92, if_neg h])
theorem piecesL_quote (c d : UInt8) (r : List UInt8) (h92 : c.toNat = 92) : piecesL (c :: d :: r) = (piecesL r).map (⟨92, d.toNat⟩ :: ·) := by
  rw [piecesL, if_pos h92]
theorem piecesL_end (c : UInt8) (h92 : c.toNat = 92) : piecesL [c] = none := by
  rw [piecesL, if_pos h92]
def piecesR (l : List UInt8) (acc : List Pa.S64) : List Pa.S64 × Bool := match piecesL l with
  | some x => (acc ++ x, true)
  | none => ([], false)
theorem piecesR_cons {l l' : List UInt8} {acc : List Pa.S64} {x : Pa.S64} (h : piecesL l = (piecesL l').map (x :: ·)) : piecesR l acc = piecesR l' (acc ++ [x]) := by
  unfold piecesR
  rw [h]
  cases piecesL l' <;> simp

theorem pieces_loop (p : ByteArray) (hp : p.size ≤ 40) : ∀ (d i : Nat) (acc : List Pa.S64), i + d = p.size → acc.length ≤ i → Ev (fun k => Pa.glob_pieces.l0 k p acc i) (piecesR (p.data.toList.drop i) acc) := by
  intro d
  induction d using Nat.strongRecOn with
  | ind d ih =>
    intro i acc hi hacc
    by_cases hd : d = 0
    · subst hd
      refine Ev.step (f := fun _ => some (acc, true)) (fun k => ?_) ?_
      · show Pa.glob_pieces.l0 (k + 1) p acc i = _
        rw [Pa.glob_pieces.l0, if_neg (by omega)]
      · have : p.data.toList.drop i = [] := by rw [List.drop_eq_nil_iff, ← Lib.size_eq]; omega
        rw [this]
        simpa [piecesR, piecesL] using Ev.now (acc, true)
    · have hlt : i < p.size := by omega
      have hll : i < p.data.toList.length := by rw [← Lib.size_eq]; exact hlt
      have hb := bt_get p i hlt
      rw [drop_cons _ _ hll]
      generalize hc : p.data.toList.getD i 0 = c at hb
      have hw : wrap64 ((i : Int) + 1) = ((i + 1 : Nat) : Int) := by rw [show ((i : Int) + 1) = ((i + 1 : Nat) : Int) from rfl]; exact wrap_nat (by omega)
      have hw2 : wrap64 (((i + 1 : Nat) : Int) + 1) = ((i + 2 : Nat) : Int) := by rw [show (((i + 1 : Nat) : Int) + 1) = ((i + 2 : Nat) : Int) from rfl]; exact wrap_nat (by omega)
      have hal : acc.length < 70368744177664 := by omega
      by_cases h42 : c.toNat = 42
      · refine Ev.step (f := fun k => Pa.glob_pieces.j1 k p acc i (bt p i) (bt p i) (bt p i == 42)) (fun k => ?_) ?_
        · show Pa.glob_pieces.l0 (k + 1) p acc i = _
          rw [Pa.glob_pieces.l0, if_pos (by omega), if_pos (by omega), if_pos (by rw [hb, h42]; rfl)]
        · refine Ev.step (f := fun k => Pa.glob_pieces.l0 k p (acc ++ [⟨(c.toNat : Int), 0⟩]) ((i + 1 : Nat) : Int)) (fun k => ?_) ?_
          · show Pa.glob_pieces.j1 (k + 1) p acc i (bt p i) (bt p i) (bt p i == 42) = _
            rw [Pa.glob_pieces.j1, if_pos (by rw [hb, h42]; rfl), if_pos hal, hw, hb]
          · rw [piecesR_cons (l' := p.data.toList.drop (i + 1)) (x := ⟨(c.toNat : Int), 0⟩) (piecesL_any _ _ (.inl h42))]
            exact ih (d - 1) (by omega) (i + 1) _ (by omega) (by simp; omega)
      · by_cases h63 : c.toNat = 63
        · refine Ev.step (f := fun k => Pa.glob_pieces.j1 k p acc i (bt p i) (bt p i) (bt p i == 63)) (fun k => ?_) ?_
          · show Pa.glob_pieces.l0 (k + 1) p acc i = _
            rw [Pa.glob_pieces.l0, if_pos (by omega), if_pos (by omega), if_neg (by rw [hb]; omega)]
          · refine Ev.step (f := fun k => Pa.glob_pieces.l0 k p (acc ++ [⟨(c.toNat : Int), 0⟩]) ((i + 1 : Nat) : Int)) (fun k => ?_) ?_
            · show Pa.glob_pieces.j1 (k + 1) p acc i (bt p i) (bt p i) (bt p i == 63) = _
              rw [Pa.glob_pieces.j1, if_pos (by rw [hb, h63]; rfl), if_pos hal, hw, hb]
            · rw [piecesR_cons (l' := p.data.toList.drop (i + 1)) (x := ⟨(c.toNat : Int), 0⟩) (piecesL_any _ _ (.inr h63))]
              exact ih (d - 1) (by omega) (i + 1) _ (by omega) (by simp; omega)
        · refine Ev.step (f := fun k => Pa.glob_pieces.j1 k p acc i (bt p i) (bt p i) (bt p i == 63)) (fun k => ?_) ?_
          · show Pa.glob_pieces.l0 (k + 1) p acc i = _
            rw [Pa.glob_pieces.l0, if_pos (by omega), if_pos (by omega), if_neg (by rw [hb]; omega)]
          · have hne : ¬ (bt p i == 63) = true := by rw [hb]; intro h; have := beq_iff_eq.1 h; omega
            by_cases h92 : c.toNat = 92
            · by_cases hend : i + 1 = p.size
              · refine Ev.step (f := fun _ => some ([], false)) (fun k => ?_) ?_
                · show Pa.glob_pieces.j1 (k + 1) p acc i (bt p i) (bt p i) (bt p i == 63) = _
                  rw [Pa.glob_pieces.j1, if_neg hne, if_pos (by rw [hb, h92]; rfl), if_pos (by rw [hw]; omega)]
                · have : p.data.toList.drop (i + 1) = [] := by rw [List.drop_eq_nil_iff, ← Lib.size_eq]; omega
                  rw [this]
                  have e : piecesR [c] acc = ([], false) := by unfold piecesR; rw [piecesL_end c h92]
                  rw [e]
                  exact Ev.now _
              · have hlt2 : i + 1 < p.size := by omega
                have hb2 := bt_get p (i + 1) hlt2
                rw [drop_cons _ _ (by rw [← Lib.size_eq]; exact hlt2)]
                generalize hc2 : p.data.toList.getD (i + 1) 0 = c2 at hb2
                refine Ev.step (f := fun k => Pa.glob_pieces.l0 k p (acc ++ [⟨92, (c2.toNat : Int)⟩]) ((i + 2 : Nat) : Int)) (fun k => ?_) ?_
                · show Pa.glob_pieces.j1 (k + 1) p acc i (bt p i) (bt p i) (bt p i == 63) = _
                  rw [Pa.glob_pieces.j1, if_neg hne, if_pos (by rw [hb, h92]; rfl), hw, if_neg (by omega), if_pos (by omega), if_pos (by omega), if_pos hal, hw2, hb2]
                · rw [piecesR_cons (l' := p.data.toList.drop (i + 2)) (x := ⟨92, (c2.toNat : Int)⟩) (piecesL_quote _ _ _ h92)]
                  exact ih (d - 2) (by omega) (i + 2) _ (by omega) (by simp; omega)
            · refine Ev.step (f := fun k => Pa.glob_pieces.l0 k p (acc ++ [⟨92, (c.toNat : Int)⟩]) ((i + 1 : Nat) : Int)) (fun k => ?_) ?_
              · show Pa.glob_pieces.j1 (k + 1) p acc i (bt p i) (bt p i) (bt p i == 63) = _
                rw [Pa.glob_pieces.j1, if_neg hne, if_neg (by rw [hb]; omega), if_pos (by omega), if_pos (by omega), if_pos hal, hw, hb]
              · rw [piecesR_cons (l' := p.data.toList.drop (i + 1)) (x := ⟨92, (c.toNat : Int)⟩) (piecesL_plain _ _ (fun h => h.elim h42 h63) h92)]
                exact ih (d - 1) (by omega) (i + 1) _ (by omega) (by simp; omega)

/-- What glob.pieces answers. -/
def piecesB (p : ByteArray) : List Pa.S64 × Bool := if 40 < p.size then ([], false) else piecesR p.data.toList []
theorem pieces_ev (p : ByteArray) : Ev (fun k => Pa.glob_pieces.f k p) (piecesB p) := by
  unfold piecesB Pa.glob_pieces.f
  by_cases h : 40 < p.size
  · rw [if_pos h]
    refine Ev.congr (f := fun _ => some ([], false)) (fun k => ?_) (Ev.now _)
    rw [if_pos (by omega)]
  · rw [if_neg h]
    refine Ev.congr (f := fun k => Pa.glob_pieces.l0 k p [] (0 : Nat)) (fun k => ?_) ?_
    · rw [if_neg (by omega)]
      rfl
    · exact pieces_loop p (by omega) p.size 0 [] (by omega) (by simp)

/-- Which beginnings of the text the parts so far may be, one part more. -/
def nx42 (may : List Bool) : Nat → Bool
  | 0 => may.getD 0 false
  | i + 1 => may.getD (i + 1) false || nx42 may i
def nextAt (s : ByteArray) (may : List Bool) (kind c : Int) (i : Nat) : Bool :=
  if kind = 42 then nx42 may i
  else match i with
    | 0 => false
    | i + 1 => if kind = 63 then may.getD i false else may.getD i false && (bt s i == c)
def stepL (s : ByteArray) (may : List Bool) (kind c : Int) : List Bool := (List.range (s.size + 1)).map (nextAt s may kind c)
theorem stepL_length (s : ByteArray) (may : List Bool) (kind c : Int) : (stepL s may kind c).length = s.size + 1 := by simp [stepL]

theorem match_round (s : ByteArray) (hs : s.size ≤ 140737488351232) (may next : List Bool) (P : List Pa.S64) (m j : Int) (kind c : Int) (i : Nat) (hi : i < s.size + 1) (hm : may.length = s.size + 1) (hn : next.length = s.size + 1)
    (hx : ∀ q, q < i → next.getD q false = nextAt s may kind c q) (k : Nat) :
    Pa.glob_Match.l1 (k + 1) s may next P m j ((s.size + 1 : Nat) : Int) (i : Int) kind c = Pa.glob_Match.l1 k s may (next.set i (nextAt s may kind c i)) P m j ((s.size + 1 : Nat) : Int) ((i + 1 : Nat) : Int) kind c := by
  have hw : wrap64 ((i : Int) + 1) = ((i + 1 : Nat) : Int) := by rw [show ((i : Int) + 1) = ((i + 1 : Nat) : Int) from rfl]; exact wrap_nat (by omega)
  have h0 : (0 : Int) ≤ (i : Int) := by omega
  have hlm : (i : Int) < (may.length : Int) := by omega
  have hln : (i : Int) < (next.length : Int) := by omega
  have hrm : rdOf false may (i : Int) = may.getD i false := rfl
  rw [Pa.glob_Match.l1, if_pos (by omega)]
  by_cases h42 : kind = 42
  · subst h42
    rw [if_pos rfl, if_pos h0, if_pos hlm, hw, hrm]
    cases i with
    | zero =>
      have e : nextAt s may 42 c 0 = may.getD 0 false := rfl
      rw [e]
      cases hv : may.getD 0 false with
      | true => rw [if_pos rfl, if_pos hln]; rfl
      | false => rw [if_neg (by decide), if_neg (by omega), if_pos hln]; rfl
    | succ i =>
      have e : nextAt s may 42 c (i + 1) = (may.getD (i + 1) false || nx42 may i) := rfl
      have e2 : next.getD i false = nx42 may i := hx i (by omega)
      have hw1 : wrap64 (((i + 1 : Nat) : Int) - 1) = (i : Int) := by rw [show (((i + 1 : Nat) : Int) - 1) = (i : Int) by omega]; exact wrap_nat (by omega)
      rw [e]
      cases hv : may.getD (i + 1) false with
      | true => rw [if_pos rfl, if_pos hln]; rfl
      | false =>
        rw [if_neg (by decide), if_pos (by omega), hw1, if_pos (by omega), if_pos (by omega), if_pos hln, show rdOf false next (i : Int) = next.getD i false from rfl, e2, Bool.false_or]
        rfl
  · rw [if_neg h42]
    by_cases h63 : kind = 63
    · subst h63
      rw [if_pos rfl]
      cases i with
      | zero =>
        rw [if_neg (by omega), if_pos h0, if_pos hln, hw]
        rfl
      | succ i =>
        have hw1 : wrap64 (((i + 1 : Nat) : Int) - 1) = (i : Int) := by rw [show (((i + 1 : Nat) : Int) - 1) = (i : Int) by omega]; exact wrap_nat (by omega)
        rw [if_pos (by omega), hw1, if_pos (by omega), if_pos (by omega), if_pos h0, if_pos hln, hw]
        rfl
    · rw [if_neg h63]
      cases i with
      | zero =>
        have e : nextAt s may kind c 0 = false := by unfold nextAt; rw [if_neg h42]
        rw [if_neg (by omega), if_pos h0, if_pos hln, hw, e]
        rfl
      | succ i =>
        have hw1 : wrap64 (((i + 1 : Nat) : Int) - 1) = (i : Int) := by rw [show (((i + 1 : Nat) : Int) - 1) = (i : Int) by omega]; exact wrap_nat (by omega)
        have e : nextAt s may kind c (i + 1) = (may.getD i false && (bt s i == c)) := by unfold nextAt; rw [if_neg h42]; simp only; rw [if_neg h63]
        rw [if_pos (by omega), hw1, if_pos (by omega), if_pos (by omega), show rdOf false may (i : Int) = may.getD i false from rfl, e]
        cases hv : may.getD i false with
        | true => rw [if_pos rfl, if_pos (by omega), if_pos h0, if_pos hln, hw, Bool.true_and]; rfl
        | false => rw [if_neg (by decide), if_pos h0, if_pos hln, hw, Bool.false_and]; rfl

theorem match_inner (s : ByteArray) (hs : s.size ≤ 140737488351232) (may : List Bool) (P : List Pa.S64) (m j : Int) (kind c : Int) (hm : may.length = s.size + 1) (r : Bool)
    (hr : Ev (fun k => Pa.glob_Match.l0 k s (stepL s may kind c) P m (wrap64 (j + 1))) r) :
    ∀ (d i : Nat) (next : List Bool), i + d = s.size + 1 → next.length = s.size + 1 → (∀ q, q < i → next.getD q false = nextAt s may kind c q) →
      Ev (fun k => Pa.glob_Match.l1 k s may next P m j ((s.size + 1 : Nat) : Int) (i : Int) kind c) r := by
  intro d
  induction d with
  | zero =>
    intro i next hi hn hx
    have e : next = stepL s may kind c := by
      apply List.ext_getElem (by rw [hn, stepL_length])
      intro q h1 h2
      have := hx q (by omega)
      rw [List.getD_eq_getElem?_getD, List.getElem?_eq_getElem h1] at this
      simpa [stepL] using this
    refine Ev.step (f := fun k => Pa.glob_Match.l0 k s (stepL s may kind c) P m (wrap64 (j + 1))) (fun k => ?_) hr
    show Pa.glob_Match.l1 (k + 1) s may next P m j ((s.size + 1 : Nat) : Int) (i : Int) kind c = _
    rw [Pa.glob_Match.l1, if_neg (by omega), e]
  | succ d ih =>
    intro i next hi hn hx
    refine Ev.step (f := fun k => Pa.glob_Match.l1 k s may (next.set i (nextAt s may kind c i)) P m j ((s.size + 1 : Nat) : Int) ((i + 1 : Nat) : Int) kind c) (fun k => match_round s hs may next P m j kind c i (by omega) hm hn hx k) ?_
    refine ih (i + 1) _ (by omega) (by simpa using hn) (fun q hq => ?_)
    by_cases e : q = i
    · subst e
      simp [List.getD, hn, show q < s.size + 1 by omega]
    · have := hx q (by omega)
      simp only [List.getD_eq_getElem?_getD] at this ⊢
      rw [List.getElem?_set_ne (by omega)]
      exact this

/-- The parts, one by one. -/
def runP (s : ByteArray) (may : List Bool) (P : List Pa.S64) : List Bool := P.foldl (fun may x => stepL s may x.f0 x.f1) may
theorem match_outer (s : ByteArray) (hs : s.size ≤ 140737488351232) (P : List Pa.S64) (hP : P.length ≤ 140737488351232) : ∀ (d j : Nat) (may : List Bool), j + d = P.length → may.length = s.size + 1 →
    Ev (fun k => Pa.glob_Match.l0 k s may P (P.length : Int) (j : Int)) ((runP s may (P.drop j)).getD s.size false) := by
  intro d
  induction d with
  | zero =>
    intro j may hj hm
    refine Ev.step (f := fun _ => some (may.getD s.size false)) (fun k => ?_) ?_
    · show Pa.glob_Match.l0 (k + 1) s may P (P.length : Int) (j : Int) = _
      rw [Pa.glob_Match.l0, if_neg (by omega), if_pos (by omega), if_pos (by omega)]
      rfl
    · rw [List.drop_of_length_le (by omega)]
      exact Ev.now _
  | succ d ih =>
    intro j may hj hm
    have hlt : j < P.length := by omega
    have hw : wrap64 ((s.size : Int) + 1) = ((s.size + 1 : Nat) : Int) := by rw [show ((s.size : Int) + 1) = ((s.size + 1 : Nat) : Int) from rfl]; exact wrap_nat (by omega)
    have hwj : wrap64 ((j : Int) + 1) = ((j + 1 : Nat) : Int) := by rw [show ((j : Int) + 1) = ((j + 1 : Nat) : Int) from rfl]; exact wrap_nat (by omega)
    have hr : Pa.rd_T64 P (j : Int) = P[j] := by simp [Pa.rd_T64, List.getD, hlt]
    rw [List.drop_eq_getElem_cons hlt]
    refine Ev.step (f := fun k => Pa.glob_Match.l1 k s may (List.replicate (s.size + 1) false) P (P.length : Int) (j : Int) ((s.size + 1 : Nat) : Int) ((0 : Nat) : Int) P[j].f0 P[j].f1) (fun k => ?_) ?_
    · show Pa.glob_Match.l0 (k + 1) s may P (P.length : Int) (j : Int) = _
      rw [Pa.glob_Match.l0, if_pos (by omega), if_pos (by omega), if_pos (by omega), hw, if_pos (by omega), if_pos (by simp; omega), Option.bind_some, hr]
      simp
    · refine match_inner s hs may P _ _ P[j].f0 P[j].f1 hm _ ?_ (s.size + 1) 0 _ (by omega) (by simp) (fun q hq => absurd hq (Nat.not_lt_zero q))
      rw [hwj]
      exact ih (j + 1) _ (by omega) (stepL_length s may _ _)

def initB (s : ByteArray) : List Bool := (List.replicate (s.size + 1) false).set 0 true
/-- May the text be what the pattern says? -/
def globB (p s : ByteArray) : Bool := if (piecesB p).2 = true then (runP s (initB s) (piecesB p).1).getD s.size false else false
theorem piecesB_len (p : ByteArray) : (piecesB p).1.length ≤ 140737488351232 ∨ (piecesB p).2 = false := by
  have key : ∀ (n : Nat) (l : List UInt8), l.length ≤ n → ∀ x, piecesL l = some x → x.length ≤ l.length := by
    intro n
    induction n with
    | zero =>
      intro l hl x hx
      obtain rfl := List.eq_nil_of_length_eq_zero (Nat.le_zero.1 hl)
      obtain rfl := Option.some.inj (show some [] = some x from hx)
      exact Nat.le_refl _
    | succ n ih =>
      intro l hl x hx
      cases l with
      | nil =>
        obtain rfl := Option.some.inj (show some [] = some x from hx)
        exact Nat.le_refl _
      | cons c r =>
        by_cases h92 : c.toNat = 92
        · cases r with
          | nil => rw [piecesL_end c h92] at hx; cases hx
          | cons d r' =>
            rw [piecesL_quote c d r' h92] at hx
            obtain ⟨y, hy, rfl⟩ := Option.map_eq_some_iff.1 hx
            have := ih r' (by simp at hl; omega) y hy
            simp only [List.length_cons]
            omega
        · by_cases h : c.toNat = 42 ∨ c.toNat = 63
          · rw [piecesL_any c r h] at hx
            obtain ⟨y, hy, rfl⟩ := Option.map_eq_some_iff.1 hx
            have := ih r (by simpa using hl) y hy
            simpa using this
          · rw [piecesL_plain c r h h92] at hx
            obtain ⟨y, hy, rfl⟩ := Option.map_eq_some_iff.1 hx
            have := ih r (by simpa using hl) y hy
            simpa using this
  unfold piecesB
  by_cases h : 40 < p.size
  · rw [if_pos h]; exact .inr rfl
  · rw [if_neg h]
    unfold piecesR
    cases hx : piecesL p.data.toList with
    | none => exact .inr rfl
    | some x =>
      left
      have := key _ _ (Nat.le_refl _) x hx
      rw [← Lib.size_eq] at this
      simp only [List.nil_append]
      omega
theorem match_ev (p s : ByteArray) (hs : s.size ≤ 140737488351232) : Ev (fun k => Pa.glob_Match.f k p s) (globB p s) := by
  unfold Pa.glob_Match.f
  refine Ev.bind (pieces_ev p) ?_
  unfold globB
  by_cases h : (piecesB p).2 = true
  · have hw : wrap64 ((s.size : Int) + 1) = ((s.size + 1 : Nat) : Int) := by rw [show ((s.size : Int) + 1) = ((s.size + 1 : Nat) : Int) from rfl]; exact wrap_nat (by omega)
    have hP : (piecesB p).1.length ≤ 140737488351232 := by
      rcases piecesB_len p with h1 | h1
      · exact h1
      · rw [h] at h1; cases h1
    rw [if_pos h]
    refine Ev.congr (f := fun k => Pa.glob_Match.l0 k s (initB s) (piecesB p).1 ((piecesB p).1.length : Int) ((0 : Nat) : Int)) (fun k => ?_) ?_
    · rw [if_pos h, hw, if_pos (by omega), if_pos (by first | (simp; done) | (simp; omega)), Option.bind_some, if_pos (by first | (simp; done) | (simp; omega))]
      rfl
    · have := match_outer s hs (piecesB p).1 hP (piecesB p).1.length 0 (initB s) (by omega) (by simp [initB])
      rw [List.drop_zero] at this
      exact this
  · rw [if_neg h]
    refine Ev.congr (f := fun _ => some false) (fun k => ?_) (Ev.now _)
    rw [if_neg h]

/-- Is a rule about something? -/
def fitsB (x : Pa.S25) (user : ByteArray) (cl : Int) (key : ByteArray) : Bool := if (x.f1.toList = user.toList ∨ x.f1.toList = [42]) ∧ (x.f2 = cl ∨ x.f2 = 0) then globB x.f3 key else false
theorem fits_ev (x : Pa.S25) (user : ByteArray) (cl : Int) (key : ByteArray) (hs : key.size ≤ 140737488351232) : Ev (fun k => Pa.acl_Fits.f k x.f0 x.f1 x.f2 x.f3 user cl key) (fitsB x user cl key) := by
  have hm := match_ev x.f3 key hs
  have hm2 : Ev (fun k => (Pa.glob_Match.f k x.f3 key).bind fun t => some t) (globB x.f3 key) := Ev.bind hm (Ev.now _)
  unfold Pa.acl_Fits.f fitsB
  by_cases h1 : x.f1.toList = user.toList
  · by_cases h2 : x.f2 = cl
    · rw [if_pos ⟨.inl h1, .inl h2⟩]
      exact Ev.congr (fun k => by rw [if_pos h1, if_pos h2]) hm2
    · by_cases h3 : x.f2 = 0
      · rw [if_pos ⟨.inl h1, .inr h3⟩]
        exact Ev.congr (fun k => by rw [if_pos h1, if_neg h2, if_pos h3]) hm2
      · rw [if_neg (fun h => h.2.elim h2 h3)]
        exact Ev.congr (fun k => by rw [if_pos h1, if_neg h2, if_neg h3]) (Ev.now _)
  · by_cases h4 : x.f1.toList = [42]
    · by_cases h2 : x.f2 = cl
      · rw [if_pos ⟨.inr h4, .inl h2⟩]
        exact Ev.congr (fun k => by rw [if_neg h1, if_pos h4, if_pos h2]) hm2
      · by_cases h3 : x.f2 = 0
        · rw [if_pos ⟨.inr h4, .inr h3⟩]
          exact Ev.congr (fun k => by rw [if_neg h1, if_pos h4, if_neg h2, if_pos h3]) hm2
        · rw [if_neg (fun h => h.2.elim h2 h3)]
          exact Ev.congr (fun k => by rw [if_neg h1, if_pos h4, if_neg h2, if_neg h3]) (Ev.now _)
    · rw [if_neg (fun h => h.1.elim h1 h4)]
      exact Ev.congr (fun k => by rw [if_neg h1, if_neg h4]) (Ev.now _)

/-- The first rule that fits, from place i on. -/
def decideL (user : ByteArray) (cl : Int) (key : ByteArray) : List Pa.S25 → Nat → Bool × Int
  | [], _ => (false, -1)
  | x :: xs, i => if fitsB x user cl key = true then (x.f0, (i : Int)) else decideL user cl key xs (i + 1)
theorem decide_loop (l : List Pa.S25) (hl : l.length ≤ 4611686018427387904) (user : ByteArray) (cl : Int) (key : ByteArray) (hs : key.size ≤ 140737488351232) : ∀ (d j : Nat), j + d = l.length →
    Ev (fun k => Pa.acl_Decide.l0 k user cl key l (l.length : Int) (j : Int)) (decideL user cl key (l.drop j) j) := by
  intro d
  induction d with
  | zero =>
    intro j hj
    rw [List.drop_of_length_le (by omega)]
    refine Ev.step (f := fun _ => some (false, (-1 : Int))) (fun k => ?_) (Ev.now _)
    show Pa.acl_Decide.l0 (k + 1) user cl key l (l.length : Int) (j : Int) = _
    rw [Pa.acl_Decide.l0, if_neg (by omega)]
  | succ d ih =>
    intro j hj
    have hlt : j < l.length := by omega
    have hr : Pa.rd_T25 l (j : Int) = l[j] := by simp [Pa.rd_T25, List.getD, hlt]
    have hwj : wrap64 ((j : Int) + 1) = ((j + 1 : Nat) : Int) := by rw [show ((j : Int) + 1) = ((j + 1 : Nat) : Int) from rfl]; exact wrap_nat (by omega)
    rw [List.drop_eq_getElem_cons hlt]
    refine Ev.step (f := fun k => (Pa.acl_Fits.f k l[j].f0 l[j].f1 l[j].f2 l[j].f3 user cl key).bind fun t => (if t = true then (some (l[j].f0, (j : Int))) else (Pa.acl_Decide.l0 k user cl key l (l.length : Int) ((j + 1 : Nat) : Int)))) (fun k => ?_) ?_
    · show Pa.acl_Decide.l0 (k + 1) user cl key l (l.length : Int) (j : Int) = _
      rw [Pa.acl_Decide.l0, if_pos (by omega), if_pos (by omega), if_pos (by omega), hr, hwj]
    · refine Ev.bind (fits_ev l[j] user cl key hs) ?_
      rw [decideL]
      by_cases h : fitsB l[j] user cl key = true
      · rw [if_pos h]
        exact Ev.congr (fun k => by rw [if_pos h]) (Ev.now _)
      · rw [if_neg h]
        exact Ev.congr (fun k => by rw [if_neg h]) (ih (j + 1) (by omega))
theorem decide_ev (l : List Pa.S25) (hl : l.length ≤ 4611686018427387904) (user : ByteArray) (cl : Int) (key : ByteArray) (hs : key.size ≤ 140737488351232) : Ev (fun k => Pa.acl_Decide.f k l user cl key) (decideL user cl key l 0) :=
  decide_loop l hl user cl key hs l.length 0 (by omega)

theorem nx42_all (may : List Bool) (h : may.getD 0 false = true) : ∀ i, nx42 may i = true
  | 0 => h
  | i + 1 => by rw [nx42, nx42_all may h i, Bool.or_true]
/-- The pattern '*' fits all. -/
theorem globB_star (s : ByteArray) : globB ⟨#[42]⟩ s = true := by
  have e : piecesB ⟨#[42]⟩ = ([⟨42, 0⟩], true) := by kernel_rfl
  unfold globB
  rw [e, if_pos rfl]
  show (stepL s (initB s) 42 0).getD s.size false = true
  have h := nx42_all (initB s) (by simp [initB, List.getD]) s.size
  simp [stepL, List.getD, nextAt, h]
end Go.Proofs.YthngjjeilcfhgaaDoor
