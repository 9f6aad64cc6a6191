/- Rules and their lines: what acl.Right, acl.line, acl.read and acl.Parse come to, as plain functions over lists. -/
import Derived.Test.YthngjjeilcfhgaaDoorPb
import Derived.Test.YthngjjeilcfhgaaDoorGl
set_option linter.unusedVariables false
namespace Go.Proofs.YthngjjeilcfhgaaDoor
open Go.RowKit Go.Proofs.YthngjjeilcfhgaaDoorW.PrintWords Go.Proofs.YthngjjeilcfhgaaDoorW.PrintLast
namespace Acl

/-- May a rule be? -/
def rightB (x : Pa.S25) : Bool := if x.f1.size < 1 ∨ 20 < x.f1.size ∨ x.f3 = ⟨#[]⟩ then false else if hasBlank x.f3 = true then false else if userB x.f1 = true then (if 0 ≤ x.f2 ∧ x.f2 ≤ 3 then (piecesB x.f3).2 else false) else false
theorem right_ev (x : Pa.S25) (h : x.f3.size ≤ 9223372036854775807) : Ev (fun k => acl_Right.f k x.f0 x.f1 x.f2 x.f3) (rightB x) := by
  unfold acl_Right.f rightB
  by_cases h1 : x.f1.size < 1 ∨ 20 < x.f1.size ∨ x.f3 = ⟨#[]⟩
  · rw [if_pos h1]
    exact Ev.congr (fun k => by rw [if_pos h1]) (Ev.now _)
  · rw [if_neg h1]
    have hc : strings_ContainsAny.f x.f3 ⟨#[32, 10]⟩ = some (hasBlank x.f3) := by unfold strings_ContainsAny.f; rw [if_pos ⟨h, rfl⟩]
    by_cases h2 : hasBlank x.f3 = true
    · rw [if_pos h2]
      exact Ev.congr (fun k => by rw [if_neg h1, hc, Option.bind_some, if_pos h2]) (Ev.now _)
    · rw [if_neg h2]
      by_cases h3 : userB x.f1 = true
      · rw [if_pos h3]
        by_cases h4 : 0 ≤ x.f2 ∧ x.f2 ≤ 3
        · rw [if_pos h4]
          refine Ev.congr (f := fun k => Pa.glob_Right.f k x.f3) (fun k => by rw [if_neg h1, hc, Option.bind_some, if_neg h2, if_pos h3, if_pos h4]) ?_
          unfold Pa.glob_Right.f
          exact Ev.bind (pieces_ev x.f3) (Ev.now _)
        · rw [if_neg h4]
          exact Ev.congr (fun k => by rw [if_neg h1, hc, Option.bind_some, if_neg h2, if_pos h3, if_neg h4]) (Ev.now _)
      · rw [if_neg h3]
        exact Ev.congr (fun k => by rw [if_neg h1, hc, Option.bind_some, if_neg h2, if_neg h3]) (Ev.now _)

structure OkR (x : Pa.S25) : Prop where
  u0 : 1 ≤ x.f1.size
  u1 : x.f1.size ≤ 20
  p0 : x.f3 ≠ ⟨#[]⟩
  pb : hasBlank x.f3 = false
  ub : userB x.f1 = true
  c0 : 0 ≤ x.f2
  c1 : x.f2 ≤ 3
  pp : (piecesB x.f3).2 = true
theorem ok_of {x : Pa.S25} (h : rightB x = true) : OkR x := by
  unfold rightB at h
  split at h
  · cases h
  · rename_i h1
    split at h
    · cases h
    · rename_i h2
      split at h
      · rename_i h3
        split at h
        · rename_i h4
          exact ⟨by omega, by omega, fun e => h1 (.inr (.inr e)), by simpa using h2, h3, h4.1, h4.2, h⟩
        · cases h
      · cases h
theorem right_of {x : Pa.S25} (h : OkR x) : rightB x = true := by
  unfold rightB
  rw [if_neg, if_neg (by rw [h.pb]; decide), if_pos h.ub, if_pos ⟨h.c0, h.c1⟩]
  · exact h.pp
  · rintro (e | e | e)
    · have := h.u0; omega
    · have := h.u1; omega
    · exact h.p0 e
theorem OkR.size {x : Pa.S25} (h : OkR x) : x.f3.size ≤ 40 := by
  have := h.pp
  unfold piecesB at this
  split at this
  · cases this
  · omega
theorem no_of_hasBlank {s : ByteArray} (h : hasBlank s = false) : (32 : UInt8) ∉ s.data.toList ∧ (10 : UInt8) ∉ s.data.toList := by
  unfold hasBlank at h
  rw [List.any_eq_false] at h
  constructor
  · intro hm; exact absurd (h _ hm) (by decide)
  · intro hm; exact absurd (h _ hm) (by decide)
theorem no_of_user {s : ByteArray} (h : userB s = true) : (32 : UInt8) ∉ s.data.toList ∧ (10 : UInt8) ∉ s.data.toList := by
  have h' := List.all_eq_true.1 h
  constructor
  · intro hm; exact absurd (h' _ hm) (by decide)
  · intro hm; exact absurd (h' _ hm) (by decide)

def clsOf (c : Int) : List UInt8 := (nameOf c).data.toList
theorem cls_no : ∀ c : Int, 0 ≤ c → c ≤ 3 → (32 : UInt8) ∉ clsOf c ∧ (10 : UInt8) ∉ clsOf c ∧ (clsOf c).length ≤ 5 := by
  intro c h0 h1
  have h : c = 0 ∨ c = 1 ∨ c = 2 ∨ c = 3 := by omega
  rcases h with rfl | rfl | rfl | rfl <;> decide +kernel
theorem cls_idx : ∀ c : Int, 0 ≤ c → c ≤ 3 → Lib.idxOfS clsL (nameOf c) = c := by
  intro c h0 h1
  have h : c = 0 ∨ c = 1 ∨ c = 2 ∨ c = 3 := by omega
  rcases h with rfl | rfl | rfl | rfl <;> decide +kernel
def whatL (b : Bool) : List UInt8 := if b then [97, 108, 108, 111, 119] else [100, 101, 110, 121]
theorem what_no (b : Bool) : (32 : UInt8) ∉ whatL b ∧ (10 : UInt8) ∉ whatL b ∧ (whatL b).length ≤ 5 ∧ ∃ c r, whatL b = c :: r ∧ c ≠ 35 := by
  cases b
  · exact ⟨by decide, by decide, by decide, 100, _, rfl, by decide⟩
  · exact ⟨by decide, by decide, by decide, 97, _, rfl, by decide⟩
/-- A rule as a line. -/
def lineL (x : Pa.S25) : List UInt8 := whatL x.f0 ++ 32 :: (x.f1.data.toList ++ 32 :: (clsOf x.f2 ++ 32 :: x.f3.data.toList))
theorem join_four (a b c d : List UInt8) : Lib.join [a, b, c, d] [32] = a ++ 32 :: (b ++ 32 :: (c ++ 32 :: d)) := by
  rw [Lib.join_cons]
  simp [Lib.joinTail]
theorem lineL_len {x : Pa.S25} (h : OkR x) : (lineL x).length ≤ 80 := by
  have h1 := (what_no x.f0).2.2.1
  have h2 := (cls_no x.f2 h.c0 h.c1).2.2
  have h3 := h.u1
  have h4 := h.size
  unfold lineL
  simp only [List.length_append, List.length_cons]
  rw [← Lib.size_eq, ← Lib.size_eq]
  omega
theorem line_f {x : Pa.S25} (h : OkR x) : Pa.acl_line.f x.f0 x.f1 x.f2 x.f3 = some ⟨(lineL x).toArray⟩ := by
  have hc : acl_class.f x.f2 = some (nameOf x.f2) := by
    unfold acl_class.f
    rw [if_pos ⟨h.c0, by have := h.c1; omega⟩]
  have hlen := lineL_len h
  have hj : ∀ w : ByteArray, w.data.toList = whatL x.f0 → strings_Join.f [w, x.f1, nameOf x.f2, x.f3] ⟨#[32]⟩ = some ⟨(lineL x).toArray⟩ := by
    intro w hw
    have e : Lib.join ([w, x.f1, nameOf x.f2, x.f3].map (·.data.toList)) (⟨#[32]⟩ : ByteArray).data.toList = lineL x := by
      show Lib.join [w.data.toList, x.f1.data.toList, (nameOf x.f2).data.toList, x.f3.data.toList] [32] = _
      rw [join_four, hw]
      rfl
    unfold strings_Join.f
    rw [e, if_pos ⟨by simp, by simp, by omega⟩]
  unfold Pa.acl_line.f
  cases hb : x.f0 with
  | true => rw [if_pos rfl, hc, Option.bind_some, hj _ (by rw [hb]; rfl), Option.bind_some]
  | false => rw [if_neg (by decide), hc, Option.bind_some, hj _ (by rw [hb]; rfl), Option.bind_some]
theorem lineL_no10 {x : Pa.S25} (h : OkR x) : (10 : UInt8) ∉ lineL x := by
  have h1 := (what_no x.f0).2.1
  have h2 := (cls_no x.f2 h.c0 h.c1).2.1
  have h3 := (no_of_user h.ub).2
  have h4 := (no_of_hasBlank h.pb).2
  unfold lineL
  simp only [List.mem_append, List.mem_cons, not_or]
  exact ⟨h1, by decide, h3, by decide, h2, by decide, h4⟩
theorem lineL_split {x : Pa.S25} (h : OkR x) : splitS ⟨(lineL x).toArray⟩ 32 = [⟨(whatL x.f0).toArray⟩, x.f1, nameOf x.f2, x.f3] := by
  rw [splitS_is]
  show (partsAt 32 (lineL x)).map _ = _
  unfold lineL
  rw [partsAt_app _ _ _ (what_no x.f0).1, partsAt_app _ _ _ (no_of_user h.ub).1, partsAt_app _ _ _ (cls_no x.f2 h.c0 h.c1).1, partsAt_no _ _ (no_of_hasBlank h.pb).1]
  rfl
theorem split_f (s : ByteArray) (c : UInt8) (h : s.size < 4294967281) : strings_Split.f s ⟨#[c]⟩ = some (splitS s c) := by
  unfold strings_Split.f
  rw [if_pos ⟨h, Nat.le_refl 1⟩]
  rfl
theorem ba_size (l : List UInt8) : (⟨l.toArray⟩ : ByteArray).size = l.length := by rw [Lib.size_eq]
/-- A rule's line is read as the rule. -/
theorem read_line {x : Pa.S25} (h : OkR x) : Ev (fun k => acl_read.f k ⟨(lineL x).toArray⟩) (x.f0, x.f1, x.f2, x.f3, true) := by
  have hs : strings_Split.f ⟨(lineL x).toArray⟩ ⟨#[32]⟩ = some [⟨(whatL x.f0).toArray⟩, x.f1, nameOf x.f2, x.f3] := by
    rw [split_f _ _ (by rw [ba_size]; have := lineL_len h; omega), lineL_split h]
  have hb : ((⟨(whatL x.f0).toArray⟩ : ByteArray).toList == [97, 108, 108, 111, 119]) = x.f0 := by
    rw [Lib.toList_data]
    cases x.f0 <;> rfl
  have hi := cls_idx x.f2 h.c0 h.c1
  have hr := right_ev x (by have := h.size; omega)
  rw [right_of h] at hr
  unfold acl_read.f
  refine Ev.congr (f := fun k => (acl_Right.f k x.f0 x.f1 x.f2 x.f3).bind fun rr => if rr = true then (Pa.acl_line.f x.f0 x.f1 x.f2 x.f3).bind fun ln => some (x.f0, x.f1, x.f2, x.f3, ln.toList == (⟨(lineL x).toArray⟩ : ByteArray).toList) else some (x.f0, x.f1, x.f2, x.f3, false)) (fun k => ?_) ?_
  · rw [hs, Option.bind_some]
    simp only [hb, hi]
  · refine Ev.bind hr ?_
    refine Ev.congr (fun k => ?_) (Ev.now _)
    rw [if_pos rfl, line_f h, Option.bind_some]
    simp

theorem wrap1 (i : Nat) (h : i ≤ 100000) : wrap64 ((i : Int) + 1) = ((i + 1 : Nat) : Int) := by rw [show ((i : Int) + 1) = ((i + 1 : Nat) : Int) from rfl]; exact wrap_nat (by omega)
theorem rd_line (L : List ByteArray) (i : Nat) (h : i < L.length) : rdOf ByteArray.empty L (i : Int) = L[i] := by simp [rdOf, List.getD, h]
theorem parse_j (L : List ByteArray) (acc : List Pa.S25) (i : Nat) (hi : i < L.length) (s : ByteArray) (hs : L[i] = s) (fl : Bool) (hfl : (s.data.toList = [] ∧ fl = true) ∨ ∃ c r, s.data.toList = c :: r ∧ fl = (c == 35)) (r : List Pa.S25 × Int × Bool)
    (hj : Ev (fun k => Pb.acl_Parse.j1 k acc (i : Int) s L (L.length : Int) (i : Int) fl) r) : Ev (fun k => Pb.acl_Parse.l0 k acc L (L.length : Int) (i : Int)) r := by
  refine Ev.step (f := fun k => Pb.acl_Parse.j1 k acc (i : Int) s L (L.length : Int) (i : Int) fl) (fun k => ?_) hj
  show Pb.acl_Parse.l0 (k + 1) acc L (L.length : Int) (i : Int) = _
  rw [Pb.acl_Parse.l0, if_pos (by omega), if_pos (by omega), if_pos (by omega), rd_line L i hi, hs]
  rcases hfl with ⟨h1, rfl⟩ | ⟨c, rest, h1, rfl⟩
  · rw [if_pos (by rw [Lib.toList_data]; exact h1)]
  · have hsz : 0 < s.size := by rw [Lib.size_eq, h1]; simp
    have hb : bt s 0 = (c.toNat : Int) := by
      have := bt_get s 0 hsz
      rw [h1] at this
      exact this
    rw [if_neg (by rw [Lib.toList_data, h1]; simp), if_pos (by omega), hb]
    have e : (((c.toNat : Nat) : Int) == 35) = (c == 35) := by
      by_cases hc : c = 35
      · subst hc; rfl
      · have h2 : (c == 35) = false := beq_eq_false_iff_ne.2 hc
        rw [h2]
        refine beq_eq_false_iff_ne.2 fun h3 => hc ?_
        have h4 : c.toNat = 35 := by omega
        exact UInt8.toNat_inj.1 h4
    rw [e]
theorem parse_end (L : List ByteArray) (acc : List Pa.S25) (i : Nat) (hi : i = L.length) : Ev (fun k => Pb.acl_Parse.l0 k acc L (L.length : Int) (i : Int)) (acc, 0, true) := by
  refine Ev.step (f := fun _ => some (acc, 0, true)) (fun k => ?_) (Ev.now _)
  show Pb.acl_Parse.l0 (k + 1) acc L (L.length : Int) (i : Int) = _
  rw [Pb.acl_Parse.l0, if_neg (by omega)]
theorem parse_skip (L : List ByteArray) (hL : L.length ≤ 6000) (acc : List Pa.S25) (i : Nat) (hi : i < L.length) (s : ByteArray) (hs : L[i] = s) (hk : s.data.toList = [] ∨ ∃ r, s.data.toList = 35 :: r) (r : List Pa.S25 × Int × Bool)
    (hr : Ev (fun k => Pb.acl_Parse.l0 k acc L (L.length : Int) ((i + 1 : Nat) : Int)) r) : Ev (fun k => Pb.acl_Parse.l0 k acc L (L.length : Int) (i : Int)) r := by
  refine parse_j L acc i hi s hs true ?_ r ?_
  · rcases hk with h | ⟨q, h⟩
    · exact .inl ⟨h, rfl⟩
    · exact .inr ⟨35, q, h, rfl⟩
  · refine Ev.step (f := fun k => Pb.acl_Parse.l0 k acc L (L.length : Int) ((i + 1 : Nat) : Int)) (fun k => ?_) hr
    show Pb.acl_Parse.j1 (k + 1) acc (i : Int) s L (L.length : Int) (i : Int) true = _
    rw [Pb.acl_Parse.j1, if_pos rfl, wrap1 i (by omega)]
theorem parse_read (L : List ByteArray) (hL : L.length ≤ 6000) (acc : List Pa.S25) (i : Nat) (hi : i < L.length) (s : ByteArray) (hs : L[i] = s) (c : UInt8) (q : List UInt8) (hc : s.data.toList = c :: q) (hne : c ≠ 35) (x : Pa.S25) (ok : Bool)
    (hread : Ev (fun k => acl_read.f k s) (x.f0, x.f1, x.f2, x.f3, ok)) (hacc : acc.length ≤ 40) (r : List Pa.S25 × Int × Bool)
    (hr : if ok = true then (if acc.length = 40 then r = ([], ((i + 1 : Nat) : Int), false) else Ev (fun k => Pb.acl_Parse.l0 k (acc ++ [x]) L (L.length : Int) ((i + 1 : Nat) : Int)) r) else r = ([], ((i + 1 : Nat) : Int), false)) :
    Ev (fun k => Pb.acl_Parse.l0 k acc L (L.length : Int) (i : Int)) r := by
  refine parse_j L acc i hi s hs false (.inr ⟨c, q, hc, (beq_eq_false_iff_ne.2 hne).symm⟩) r ?_
  refine Ev.step (f := fun k => (acl_read.f k s).bind fun bt106 => (if bt106.2.2.2.2 = true then (if (acc.length : Int) = 40 then (some (([] : List (Pa.S25)), ((i + 1 : Nat) : Int), false)) else (if acc.length < 2932031007402 then (Pb.acl_Parse.l0 k (acc ++ [(⟨bt106.1, bt106.2.1, bt106.2.2.1, bt106.2.2.2.1⟩ : Pa.S25)]) L (L.length : Int) ((i + 1 : Nat) : Int)) else (none))) else (some (([] : List (Pa.S25)), ((i + 1 : Nat) : Int), false)))) (fun k => ?_) ?_
  · show Pb.acl_Parse.j1 (k + 1) acc (i : Int) s L (L.length : Int) (i : Int) false = _
    rw [Pb.acl_Parse.j1, if_neg (by decide), wrap1 i (by omega)]
  · refine Ev.bind hread ?_
    cases ok with
    | false =>
      rw [if_neg (by decide)] at hr
      subst hr
      exact Ev.congr (fun k => by rw [if_neg (show ¬ (false = true) by decide)]) (Ev.now _)
    | true =>
      rw [if_pos rfl] at hr
      by_cases h40 : acc.length = 40
      · rw [if_pos h40] at hr
        subst hr
        exact Ev.congr (fun k => by rw [if_pos rfl, if_pos (by omega)]) (Ev.now _)
      · rw [if_neg h40] at hr
        exact Ev.congr (fun k => by rw [if_pos rfl, if_neg (by omega), if_pos (by omega)]) hr

/-- Rules' lines, from line i on: read one by one; at the forty-first it is over. -/
theorem parse_rules (L : List ByteArray) (hL : L.length ≤ 6000) : ∀ (l : List Pa.S25) (acc : List Pa.S25) (i : Nat), (∀ x ∈ l, OkR x) → acc.length ≤ 40 → (∀ j (h : j < l.length), L[i + j]? = some ⟨(lineL l[j]).toArray⟩) → ∀ r : List Pa.S25 × Int × Bool,
    (if 40 < acc.length + l.length then r = ([], ((i + (40 - acc.length) + 1 : Nat) : Int), false) else Ev (fun k => Pb.acl_Parse.l0 k (acc ++ l) L (L.length : Int) ((i + l.length : Nat) : Int)) r) →
    Ev (fun k => Pb.acl_Parse.l0 k acc L (L.length : Int) (i : Int)) r
  | [], acc, i, _, hacc, _, r, hr => by
    rw [if_neg (by simp; omega)] at hr
    simpa using hr
  | x :: xs, acc, i, hok, hacc, hL2, r, hr => by
    have h0 := hL2 0 (by simp)
    obtain ⟨hi, hs⟩ := List.getElem?_eq_some_iff.1 h0
    have ox := hok x List.mem_cons_self
    obtain ⟨c, q, hw, hc35⟩ := (what_no x.f0).2.2.2
    have hc : (⟨(lineL x).toArray⟩ : ByteArray).data.toList = c :: (q ++ 32 :: (x.f1.data.toList ++ 32 :: (clsOf x.f2 ++ 32 :: x.f3.data.toList))) := by
      show lineL x = _
      unfold lineL
      rw [hw]
      rfl
    refine parse_read L hL acc i (by simpa using hi) _ (by simpa using hs) c _ hc hc35 x true (read_line ox) hacc r ?_
    rw [if_pos rfl]
    by_cases h40 : acc.length = 40
    · rw [if_pos h40]
      rw [if_pos (by simp; omega)] at hr
      rw [hr, h40]
    · rw [if_neg h40]
      refine parse_rules L hL xs (acc ++ [x]) (i + 1) (fun y hy => hok y (List.mem_cons_of_mem _ hy)) (by simp; omega) (fun j hj => ?_) r ?_
      · have := hL2 (j + 1) (by simpa using hj)
        rw [show i + 1 + j = i + (j + 1) by omega]
        simpa using this
      · have e1 : (acc ++ [x]).length + xs.length = acc.length + (x :: xs).length := by simp; omega
        rw [e1]
        by_cases hb : 40 < acc.length + (x :: xs).length
        · rw [if_pos hb] at hr ⊢
          rw [hr]
          simp only [List.length_append, List.length_cons, List.length_nil]
          rw [show i + 1 + (40 - (acc.length + (0 + 1))) + 1 = i + (40 - acc.length) + 1 by omega]
        · rw [if_neg hb] at hr ⊢
          rw [List.append_assoc, List.singleton_append, show i + 1 + xs.length = i + (x :: xs).length by simp; omega]
          exact hr

/-- The text of rules, and its lines. -/
def textL (l : List Pa.S25) : List UInt8 := l.flatMap fun x => lineL x ++ [10]
theorem print_text : ∀ l : List Pa.S25, (∀ x ∈ l, OkR x) → printL l = some (textL l)
  | [], _ => rfl
  | x :: xs, h => by
    rw [printL, line_f (h x List.mem_cons_self), Option.bind_some, print_text xs (fun y hy => h y (List.mem_cons_of_mem _ hy)), Option.bind_some]
    rfl
theorem text_parts : ∀ l : List Pa.S25, (∀ x ∈ l, OkR x) → ∀ r : List UInt8, partsAt 10 (textL l ++ r) = l.map lineL ++ partsAt 10 r
  | [], _, r => rfl
  | x :: xs, h, r => by
    show partsAt 10 ((lineL x ++ [10] ++ textL xs) ++ r) = _
    rw [List.append_assoc, List.append_assoc, List.singleton_append, partsAt_app _ _ _ (lineL_no10 (h x List.mem_cons_self)), text_parts xs (fun y hy => h y (List.mem_cons_of_mem _ hy)) r]
    rfl
theorem text_len : ∀ l : List Pa.S25, (∀ x ∈ l, OkR x) → (textL l).length ≤ 81 * l.length
  | [], _ => by simp [textL]
  | x :: xs, h => by
    have h1 := lineL_len (h x List.mem_cons_self)
    have h2 := text_len xs (fun y hy => h y (List.mem_cons_of_mem _ hy))
    show (lineL x ++ [10] ++ textL xs).length ≤ _
    simp only [List.length_append, List.length_cons, List.length_nil]
    omega
theorem print_f (l : List Pa.S25) (h : ∀ x ∈ l, OkR x) (hn : l.length ≤ 1000000) : acl_Print.f l = some ⟨(textL l).toArray⟩ := by
  unfold acl_Print.f
  have := text_len l h
  rw [print_text l h, Option.bind_some, if_pos (by omega)]
theorem same_ev (l : List Pa.S25) (hn : l.length ≤ 100000) (f : Nat → List Pa.S25 → List Pa.S25 → Int → Option Bool)
    (hf : ∀ (k : Nat) (i : Nat), f (k + 1) l l (i : Int) = if (i : Int) < (l.length : Int) then f k l l ((i + 1 : Nat) : Int) else some true) : Ev (fun k => f k l l 0) true := by
  have key : ∀ (d i : Nat), i + d = l.length → Ev (fun k => f k l l (i : Int)) true := by
    intro d
    induction d with
    | zero =>
      intro i hi
      refine Ev.step (f := fun _ => some true) (fun k => ?_) (Ev.now _)
      show f (k + 1) l l (i : Int) = _
      rw [hf, if_neg (by omega)]
    | succ d ih =>
      intro i hi
      refine Ev.step (f := fun k => f k l l ((i + 1 : Nat) : Int)) (fun k => ?_) (ih (i + 1) (by omega))
      show f (k + 1) l l (i : Int) = _
      rw [hf, if_pos (by omega)]
  exact key l.length 0 (by omega)
end Acl
end Go.Proofs.YthngjjeilcfhgaaDoor
