/- The document's own way to match a pattern (escutcheonref14.Match), as a plain function: it answers as the program's does. -/
import Derived.Test.YthngjjeilcfhgaaDoorPt2
import Derived.Test.YthngjjeilcfhgaaDoorRefA
set_option linter.unusedVariables false
namespace Go.Proofs.YthngjjeilcfhgaaDoor
open Go.RowKit Go.Proofs.YthngjjeilcfhgaaDoorW.PrintWords Go.Proofs.YthngjjeilcfhgaaDoorW.PrintLast
namespace RefA
open Acl

theorem wrapS (i : Nat) (h : i ≤ 4611686018427387000) : wrap64 ((i : Int) + 1) = ((i + 1 : Nat) : Int) := by
  rw [show ((i : Int) + 1) = ((i + 1 : Nat) : Int) from rfl]
  exact wrap_nat (by omega)
/-- From a place j that may be, does a part of the pattern lead to the place q? -/
def hit (s : ByteArray) (kind c : Int) (j q : Nat) : Prop := if kind = 42 then j ≤ q else q = j + 1 ∧ (kind = 63 ∨ bt s (j : Int) = c)
def upTo (s : ByteArray) (may : List Bool) (kind c : Int) (k q : Nat) : Prop := ∃ j, j < k ∧ may.getD j false = true ∧ hit s kind c j q
theorem upTo_zero (s : ByteArray) (may : List Bool) (kind c : Int) (q : Nat) : ¬ upTo s may kind c 0 q := fun ⟨j, h, _⟩ => absurd h (Nat.not_lt_zero j)
theorem upTo_succ (s : ByteArray) (may : List Bool) (kind c : Int) (k q : Nat) : upTo s may kind c (k + 1) q ↔ upTo s may kind c k q ∨ (may.getD k false = true ∧ hit s kind c k q) := by
  constructor
  · rintro ⟨j, hj, h1, h2⟩
    by_cases e : j = k
    · subst e; exact .inr ⟨h1, h2⟩
    · exact .inl ⟨j, by omega, h1, h2⟩
  · rintro (⟨j, hj, h1, h2⟩ | ⟨h1, h2⟩)
    · exact ⟨j, by omega, h1, h2⟩
    · exact ⟨k, by omega, h1, h2⟩
theorem nx42_iff (may : List Bool) : ∀ q, nx42 may q = true ↔ ∃ j, j ≤ q ∧ may.getD j false = true
  | 0 => by
    rw [nx42]
    constructor
    · intro h; exact ⟨0, Nat.le_refl _, h⟩
    · rintro ⟨j, hj, h⟩
      obtain rfl : j = 0 := by omega
      exact h
  | q + 1 => by
    rw [nx42, Bool.or_eq_true, nx42_iff may q]
    constructor
    · rintro (h | ⟨j, hj, h⟩)
      · exact ⟨q + 1, Nat.le_refl _, h⟩
      · exact ⟨j, by omega, h⟩
    · rintro ⟨j, hj, h⟩
      by_cases e : j = q + 1
      · subst e; exact .inl h
      · exact .inr ⟨j, by omega, h⟩
theorem nextAt_iff (s : ByteArray) (may : List Bool) (kind c : Int) (q : Nat) (hq : q ≤ s.size) : nextAt s may kind c q = true ↔ upTo s may kind c (s.size + 1) q := by
  unfold nextAt upTo hit
  by_cases h42 : kind = 42
  · rw [if_pos h42, nx42_iff]
    simp only [if_pos h42]
    constructor
    · rintro ⟨j, hj, h⟩; exact ⟨j, by omega, h, hj⟩
    · rintro ⟨j, _, h, hj⟩; exact ⟨j, hj, h⟩
  · rw [if_neg h42]
    simp only [if_neg h42]
    cases q with
    | zero =>
      constructor
      · intro h; cases h
      · rintro ⟨j, _, _, h, _⟩; omega
    | succ i =>
      by_cases h63 : kind = 63
      · simp only [if_pos h63]
        constructor
        · intro h; exact ⟨i, by omega, h, rfl, .inl h63⟩
        · rintro ⟨j, _, h, e, _⟩
          obtain rfl : i = j := by omega
          exact h
      · simp only [if_neg h63, Bool.and_eq_true, beq_iff_eq]
        constructor
        · rintro ⟨h, hc⟩; exact ⟨i, by omega, h, rfl, .inr hc⟩
        · rintro ⟨j, _, h, e, hc⟩
          obtain rfl : i = j := by omega
          exact ⟨h, hc.resolve_left h63⟩
theorem stepL_any (s : ByteArray) (may : List Bool) (kind c : Int) (h : kind = 42 ∨ kind = 63) : stepL s may kind c = stepL s may kind 0 := by
  unfold stepL
  refine congrArg (fun f => (List.range (s.size + 1)).map f) (funext fun q => ?_)
  unfold nextAt
  by_cases h42 : kind = 42
  · rw [if_pos h42, if_pos h42]
  · rw [if_neg h42, if_neg h42]
    cases q with
    | zero => rfl
    | succ i => simp only [if_pos (h.resolve_left h42)]
theorem stepL_of (s : ByteArray) (may next : List Bool) (kind c : Int) (hn : next.length = s.size + 1) (hx : ∀ q, q ≤ s.size → (next.getD q false = true ↔ upTo s may kind c (s.size + 1) q)) : next = stepL s may kind c := by
  refine List.ext_getElem (by rw [hn, stepL_length]) fun q h1 h2 => ?_
  have hq : q ≤ s.size := by omega
  have a := hx q hq
  have b := nextAt_iff s may kind c q hq
  rw [List.getD_eq_getElem?_getD, List.getElem?_eq_getElem h1] at a
  simp only [stepL, List.getElem_map, List.getElem_range]
  rw [Bool.eq_iff_iff]
  exact a.trans b.symm
theorem set_iff (next : List Bool) (m q : Nat) (hm : m < next.length) : ((next.set m true).getD q false = true ↔ next.getD q false = true ∨ q = m) := by
  rw [List.getD_eq_getElem?_getD, List.getD_eq_getElem?_getD]
  by_cases e : q = m
  · subst e
    rw [List.getElem?_set_self hm]
    simp
  · rw [List.getElem?_set_ne (by omega)]
    simp [e]

/-- A star: all from a place on. -/
theorem rm_star (p s : ByteArray) (hs : s.size ≤ 140737488351232) (may : List Bool) (i c : Int) (pl : Bool) (kind : Int) (h42 : kind = 42) (kk : Nat) (hk : kk ≤ s.size) (hat : may.getD kk false = true) (r : Bool)
    (hr : ∀ next : List Bool, next.length = s.size + 1 → (∀ q, q ≤ s.size → (next.getD q false = true ↔ upTo s may kind c (kk + 1) q)) → Ev (fun k => Pt.escutcheonref14_Match.l1 k p s may i next c pl ((kk + 1 : Nat) : Int)) r) :
    ∀ (d j : Nat) (next : List Bool), j + d = s.size + 1 → kk ≤ j → next.length = s.size + 1 → (∀ q, q ≤ s.size → (next.getD q false = true ↔ upTo s may kind c kk q ∨ (kk ≤ q ∧ q < j))) → Ev (fun k => Pt.escutcheonref14_Match.l2 k p s may i next c pl (kk : Int) (j : Int)) r := by
  intro d
  induction d with
  | zero =>
    intro j next hj hkj hn hx
    refine Ev.step (f := fun k => Pt.escutcheonref14_Match.l1 k p s may i next c pl ((kk + 1 : Nat) : Int)) (fun k => ?_) (hr next hn fun q hq => ?_)
    · show Pt.escutcheonref14_Match.l2 (k + 1) p s may i next c pl (kk : Int) (j : Int) = _
      rw [Pt.escutcheonref14_Match.l2, if_neg (by omega), wrapS kk (by omega)]
    · rw [hx q hq, upTo_succ]
      refine or_congr Iff.rfl ?_
      unfold hit
      rw [if_pos h42]
      exact ⟨fun h => ⟨hat, h.1⟩, fun h => ⟨h.2, by omega⟩⟩
  | succ d ih =>
    intro j next hj hkj hn hx
    refine Ev.step (f := fun k => Pt.escutcheonref14_Match.l2 k p s may i (next.set j true) c pl (kk : Int) ((j + 1 : Nat) : Int)) (fun k => ?_) (ih (j + 1) _ (by omega) (by omega) (by rw [List.length_set, hn]) fun q hq => ?_)
    · show Pt.escutcheonref14_Match.l2 (k + 1) p s may i next c pl (kk : Int) (j : Int) = _
      rw [Pt.escutcheonref14_Match.l2, if_pos (by omega), if_pos (by omega), if_pos (by omega), wrapS j (by omega), Int.toNat_natCast]
    · rw [set_iff next j q (by omega), hx q hq, or_assoc]
      refine or_congr Iff.rfl ?_
      omega

theorem rm_inner (p s : ByteArray) (hs : s.size ≤ 140737488351232) (may : List Bool) (hm : may.length = s.size + 1) (i c : Int) (pl : Bool) (kind : Int)
    (h42 : kind = 42 ↔ c = 42 ∧ pl = false) (h63 : kind = 63 ↔ c = 63 ∧ pl = false) (r : Bool)
    (hr : Ev (fun k => Pt.escutcheonref14_Match.l0 k p s (stepL s may kind c) (wrap64 (i + 1))) r) :
    ∀ (d kk : Nat) (next : List Bool), kk + d = s.size + 1 → next.length = s.size + 1 → (∀ q, q ≤ s.size → (next.getD q false = true ↔ upTo s may kind c kk q)) → Ev (fun k => Pt.escutcheonref14_Match.l1 k p s may i next c pl (kk : Int)) r := by
  intro d
  induction d with
  | zero =>
    intro kk next hkk hn hx
    obtain rfl : kk = s.size + 1 := by omega
    refine Ev.step (f := fun k => Pt.escutcheonref14_Match.l0 k p s (stepL s may kind c) (wrap64 (i + 1))) (fun k => ?_) hr
    show Pt.escutcheonref14_Match.l1 (k + 1) p s may i next c pl ((s.size + 1 : Nat) : Int) = _
    rw [Pt.escutcheonref14_Match.l1, if_neg (by omega), ← stepL_of s may next kind c hn hx]
  | succ d ih =>
    intro kk next hkk hn hx
    have hle : kk ≤ s.size := by omega
    have hw := wrapS kk (by omega)
    have hrd : rdOf false may (kk : Int) = may.getD kk false := rfl
    -- a step that sets nothing
    have stay : (∀ q, q ≤ s.size → ¬ (may.getD kk false = true ∧ hit s kind c kk q)) → Ev (fun k => Pt.escutcheonref14_Match.l1 k p s may i next c pl ((kk + 1 : Nat) : Int)) r := fun h =>
      ih (kk + 1) next (by omega) hn fun q hq => by
        rw [hx q hq, upTo_succ]
        exact ⟨fun a => .inl a, fun a => a.resolve_right (h q hq)⟩
    by_cases hat : may.getD kk false = true
    · by_cases hstar : c = 42 ∧ pl = false
      · -- a star
        have hk42 := h42.2 hstar
        refine Ev.step (f := fun k => Pt.escutcheonref14_Match.j3 k p s may i next c pl (kk : Int) true) (fun k => ?_) ?_
        · show Pt.escutcheonref14_Match.l1 (k + 1) p s may i next c pl (kk : Int) = _
          rw [Pt.escutcheonref14_Match.l1, if_pos (by omega), if_pos (by omega), if_pos (by omega), hrd, if_pos hat, if_pos hstar.1, hstar.2]
          rfl
        refine Ev.step (f := fun k => Pt.escutcheonref14_Match.l2 k p s may i next c pl (kk : Int) (kk : Int)) (fun k => ?_) ?_
        · show Pt.escutcheonref14_Match.j3 (k + 1) p s may i next c pl (kk : Int) true = _
          rw [Pt.escutcheonref14_Match.j3, if_pos rfl]
        refine rm_star p s hs may i c pl kind hk42 kk hle hat r (fun n h1 h2 => ih (kk + 1) n (by omega) h1 h2) (s.size + 1 - kk) kk next (by omega) (Nat.le_refl _) hn fun q hq => ?_
        rw [hx q hq]
        exact ⟨fun a => .inl a, fun a => a.resolve_right (by omega)⟩
      · have hk42 : ¬ kind = 42 := fun h => hstar (h42.1 h)
        have hj : Ev (fun k => Pt.escutcheonref14_Match.j3 k p s may i next c pl (kk : Int) false) r := by
          by_cases hlt : kk < s.size
          · have hset : (kind = 63 ∨ bt s (kk : Int) = c) → Ev (fun k => Pt.escutcheonref14_Match.l1 k p s may i (next.set (kk + 1) true) c pl ((kk + 1 : Nat) : Int)) r := fun hcond =>
              ih (kk + 1) _ (by omega) (by rw [List.length_set, hn]) fun q hq => by
                rw [set_iff next (kk + 1) q (by omega), hx q hq, upTo_succ]
                refine or_congr Iff.rfl ?_
                unfold hit
                rw [if_neg hk42]
                exact ⟨fun h => ⟨hat, h, hcond⟩, fun h => h.2.1⟩
            have hno : ¬ (kind = 63 ∨ bt s (kk : Int) = c) → Ev (fun k => Pt.escutcheonref14_Match.l1 k p s may i next c pl ((kk + 1 : Nat) : Int)) r := fun hcond =>
              stay fun q hq h => by
                have h2 := h.2
                unfold hit at h2
                rw [if_neg hk42] at h2
                exact hcond h2.2
            by_cases hq : c = 63 ∧ pl = false
            · refine Ev.step (fun k => ?_) (hset (.inl (h63.2 hq)))
              show Pt.escutcheonref14_Match.j3 (k + 1) p s may i next c pl (kk : Int) false = _
              rw [Pt.escutcheonref14_Match.j3, if_neg (by decide), if_pos (by omega), if_pos hq.1, hq.2, if_neg (by decide), hw, if_pos (by omega), if_pos (by omega), Int.toNat_natCast]
            · have hk63 : ¬ kind = 63 := fun h => hq (h63.1 h)
              by_cases hb : bt s (kk : Int) = c
              · refine Ev.step (fun k => ?_) (hset (.inr hb))
                show Pt.escutcheonref14_Match.j3 (k + 1) p s may i next c pl (kk : Int) false = _
                rw [Pt.escutcheonref14_Match.j3, if_neg (by decide), if_pos (by omega)]
                by_cases h : c = 63
                · have hp : pl = true := by
                    cases pl with
                    | true => rfl
                    | false => exact absurd ⟨h, rfl⟩ hq
                  rw [if_pos h, if_pos hp, if_pos (by omega), if_pos hb, hw, if_pos (by omega), if_pos (by omega), Int.toNat_natCast]
                · rw [if_neg h, if_pos (by omega), if_pos hb, hw, if_pos (by omega), if_pos (by omega), Int.toNat_natCast]
              · refine Ev.step (fun k => ?_) (hno (fun h => h.elim hk63 hb))
                show Pt.escutcheonref14_Match.j3 (k + 1) p s may i next c pl (kk : Int) false = _
                rw [Pt.escutcheonref14_Match.j3, if_neg (by decide), if_pos (by omega)]
                by_cases h : c = 63
                · have hp : pl = true := by
                    cases pl with
                    | true => rfl
                    | false => exact absurd ⟨h, rfl⟩ hq
                  rw [if_pos h, if_pos hp, if_pos (by omega), if_neg hb, hw]
                · rw [if_neg h, if_pos (by omega), if_neg hb, hw]
          · refine Ev.step (fun k => ?_) (stay fun q hq h => ?_)
            · show Pt.escutcheonref14_Match.j3 (k + 1) p s may i next c pl (kk : Int) false = _
              rw [Pt.escutcheonref14_Match.j3, if_neg (by decide), if_neg (by omega), hw]
            · have h2 := h.2
              unfold hit at h2
              rw [if_neg hk42] at h2
              omega
        refine Ev.step (fun k => ?_) hj
        show Pt.escutcheonref14_Match.l1 (k + 1) p s may i next c pl (kk : Int) = _
        rw [Pt.escutcheonref14_Match.l1, if_pos (by omega), if_pos (by omega), if_pos (by omega), hrd, if_pos hat]
        by_cases h : c = 42
        · have hp : pl = true := by
            cases pl with
            | true => rfl
            | false => exact absurd ⟨h, rfl⟩ hstar
          rw [if_pos h, hp]
          rfl
        · rw [if_neg h]
    · refine Ev.step (fun k => ?_) (stay fun q hq h => hat h.1)
      show Pt.escutcheonref14_Match.l1 (k + 1) p s may i next c pl (kk : Int) = _
      rw [Pt.escutcheonref14_Match.l1, if_pos (by omega), if_pos (by omega), if_pos (by omega), hrd, if_neg hat, hw]

set_option maxHeartbeats 2000000 in
theorem rm_outer (p s : ByteArray) (hp : p.size ≤ 100000) (hs : s.size ≤ 140737488351232) : ∀ (d i : Nat) (may : List Bool) (x : List Pa.S64), i + d = p.size → may.length = s.size + 1 → piecesL (p.data.toList.drop i) = some x →
    Ev (fun k => Pt.escutcheonref14_Match.l0 k p s may (i : Int)) ((runP s may x).getD s.size false) := by
  intro d
  induction d using Nat.strongRecOn with
  | ind d ih =>
    intro i may x hi hm hx
    have hws := wrapS s.size (by omega)
    by_cases hd : d = 0
    · subst hd
      have he : p.data.toList.drop i = [] := by rw [List.drop_eq_nil_iff, ← Lib.size_eq]; omega
      rw [he] at hx
      obtain rfl := Option.some.inj (show some [] = some x from hx)
      refine Ev.step (f := fun _ => some (may.getD s.size false)) (fun k => ?_) (Ev.now _)
      show Pt.escutcheonref14_Match.l0 (k + 1) p s may (i : Int) = _
      rw [Pt.escutcheonref14_Match.l0, if_neg (by omega), if_pos (by omega), if_pos (by omega)]
      rfl
    · have hlt : i < p.size := by omega
      have hll : i < p.data.toList.length := by rw [← Lib.size_eq]; exact hlt
      have hb := bt_get p i hlt
      rw [drop_cons _ _ hll] at hx
      generalize hc : p.data.toList.getD i 0 = c at hb hx
      have zero : ∀ kind cc : Int, ∀ q, q ≤ s.size → ((List.replicate (s.size + 1) false).getD q false = true ↔ upTo s may kind cc 0 q) := fun kind cc q hq => by
        have e : (List.replicate (s.size + 1) false).getD q false = false := by
          rw [List.getD_eq_getElem?_getD, List.getElem?_replicate]
          split <;> rfl
        rw [e]
        exact ⟨fun h => (by cases h), fun h => absurd h (upTo_zero s may kind cc q)⟩
      by_cases h92 : c.toNat = 92
      · by_cases hend : i + 1 < p.size
        · have hll2 : i + 1 < p.data.toList.length := by rw [← Lib.size_eq]; exact hend
          have a1 : (i : Int) < (p.size : Int) := by omega
          have a2 : (0 : Int) ≤ ((s.size + 1 : Nat) : Int) := by omega
          have a3 : (0 : Int) ≤ (i : Int) := by omega
          have a4 : ((c.toNat : Nat) : Int) = 92 := by omega
          have a5 : (0 : Int) ≤ ((i + 1 : Nat) : Int) := by omega
          have a6 : ((i + 1 : Nat) : Int) < (p.size : Int) := by omega
          have a7 : s.size + 1 ≤ 281474976710656 := by omega
          rw [drop_cons _ _ hll2] at hx
          generalize hc2 : p.data.toList.getD (i + 1) 0 = c2 at hx
          rw [piecesL_quote c c2 _ h92] at hx
          obtain ⟨y, hy, rfl⟩ := Option.map_eq_some_iff.1 hx
          have hw1 := wrapS i (by omega)
          have hw2 := wrapS (i + 1) (by omega)
          refine Ev.step (f := fun k => Pt.escutcheonref14_Match.j1 k p s may ((i + 1 : Nat) : Int) (List.replicate (s.size + 1) false) (c2.toNat : Int) true) (fun k => ?_) ?_
          · show Pt.escutcheonref14_Match.l0 (k + 1) p s may (i : Int) = _
            have hb2 := bt_get p (i + 1) hend
            rw [hc2] at hb2
            rw [Pt.escutcheonref14_Match.l0, if_pos a1, hws, if_pos a2, Int.toNat_natCast, if_pos a7, Option.bind_some, if_pos a3, hb, if_pos a4, hw1, if_pos a5, if_pos a6, hb2]
          refine Ev.step (f := fun k => Pt.escutcheonref14_Match.l1 k p s may ((i + 1 : Nat) : Int) (List.replicate (s.size + 1) false) (c2.toNat : Int) true ((0 : Nat) : Int)) (fun k => ?_) ?_
          · show Pt.escutcheonref14_Match.j1 (k + 1) p s may _ _ _ true = _
            rw [Pt.escutcheonref14_Match.j1]
            rfl
          refine rm_inner p s hs may hm _ _ true 92 (by constructor <;> (intro h; simp at h)) (by constructor <;> (intro h; simp at h)) _ ?_ (s.size + 1) 0 _ (by omega) (by simp) (zero 92 _)
          rw [hw2]
          exact ih (d - 2) (by omega) (i + 1 + 1) _ y (by omega) (stepL_length _ _ _ _) hy
        · have he : p.data.toList.drop (i + 1) = [] := by rw [List.drop_eq_nil_iff, ← Lib.size_eq]; omega
          rw [he, piecesL_end c h92] at hx
          cases hx
      · have hgo : ∀ (kind : Int), (kind = 42 ↔ (c.toNat : Int) = 42 ∧ false = false) → (kind = 63 ↔ (c.toNat : Int) = 63 ∧ false = false) → ∀ y, piecesL (p.data.toList.drop (i + 1)) = some y → Ev (fun k => Pt.escutcheonref14_Match.l0 k p s may (i : Int)) ((runP s (stepL s may kind (c.toNat : Int)) y).getD s.size false) := by
          intro kind k1 k2 y hy
          have hw1 := wrapS i (by omega)
          refine Ev.step (f := fun k => Pt.escutcheonref14_Match.j1 k p s may (i : Int) (List.replicate (s.size + 1) false) (c.toNat : Int) false) (fun k => ?_) ?_
          · show Pt.escutcheonref14_Match.l0 (k + 1) p s may (i : Int) = _
            rw [Pt.escutcheonref14_Match.l0, if_pos (by omega), hws, if_pos (by omega), if_pos (by first | (simp; done) | (simp; omega)), Option.bind_some, if_pos (by omega), hb, if_neg (by omega), Int.toNat_natCast]
          refine Ev.step (f := fun k => Pt.escutcheonref14_Match.l1 k p s may (i : Int) (List.replicate (s.size + 1) false) (c.toNat : Int) false ((0 : Nat) : Int)) (fun k => ?_) ?_
          · show Pt.escutcheonref14_Match.j1 (k + 1) p s may _ _ _ false = _
            rw [Pt.escutcheonref14_Match.j1]
            rfl
          refine rm_inner p s hs may hm _ _ false kind k1 k2 _ ?_ (s.size + 1) 0 _ (by omega) (by simp) (zero kind _)
          rw [hw1]
          exact ih (d - 1) (by omega) (i + 1) _ y (by omega) (stepL_length _ _ _ _) hy
        by_cases h : c.toNat = 42 ∨ c.toNat = 63
        · rw [piecesL_any c _ h] at hx
          obtain ⟨y, hy, rfl⟩ := Option.map_eq_some_iff.1 hx
          have := hgo (c.toNat : Int) (by simp) (by simp) y hy
          rw [stepL_any s may _ _ (by omega)] at this
          exact this
        · rw [piecesL_plain c _ h h92] at hx
          obtain ⟨y, hy, rfl⟩ := Option.map_eq_some_iff.1 hx
          exact hgo 92 ⟨fun h => by simp at h, fun h' => absurd (show c.toNat = 42 by omega) (fun e => h (.inl e))⟩ ⟨fun h => by simp at h, fun h' => absurd (show c.toNat = 63 by omega) (fun e => h (.inr e))⟩ y hy

theorem rmatch_ev (p s : ByteArray) (hs : s.size ≤ 140737488351232) (hg : (piecesB p).2 = true) : Ev (fun k => Pt.escutcheonref14_Match.f k p s) (globB p s) := by
  have hws := wrapS s.size (by omega)
  unfold globB
  rw [if_pos hg]
  unfold piecesB at hg ⊢
  by_cases h : 40 < p.size
  · rw [if_pos h] at hg
    cases hg
  · rw [if_neg h] at hg ⊢
    unfold piecesR at hg ⊢
    cases hx : piecesL p.data.toList with
    | none => rw [hx] at hg; cases hg
    | some x =>
      simp only [List.nil_append]
      unfold Pt.escutcheonref14_Match.f
      refine Ev.congr (f := fun k => Pt.escutcheonref14_Match.l0 k p s (initB s) ((0 : Nat) : Int)) (fun k => ?_) (rm_outer p s (by omega) hs p.size 0 (initB s) x (by omega) (by simp [initB]) (by rw [List.drop_zero]; exact hx))
      rw [hws, if_pos (by omega), if_pos (by first | (simp; done) | (simp; omega)), Option.bind_some, if_pos (by first | (simp; done) | (simp; omega))]
      rfl
end RefA
end Go.Proofs.YthngjjeilcfhgaaDoor
