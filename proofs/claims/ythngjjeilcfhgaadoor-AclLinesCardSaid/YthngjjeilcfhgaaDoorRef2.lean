/- One line, by the document's own rules, and by the program's. -/
import Derived.Test.YthngjjeilcfhgaaDoorRef
set_option linter.unusedVariables false
namespace Go.Proofs.YthngjjeilcfhgaaDoor
open Go.RowKit Go.Proofs.YthngjjeilcfhgaaDoorW.PrintWords Go.Proofs.YthngjjeilcfhgaaDoorW.PrintLast
namespace Ref
open Acl

def names4 : List ByteArray := [⟨#[97, 110, 121]⟩, ⟨#[114, 101, 97, 100]⟩, ⟨#[119, 114, 105, 116, 101]⟩, ⟨#[97, 100, 109, 105, 110]⟩]
theorem names4_at : ∀ c : Int, 0 ≤ c → c ≤ 3 → rdOf ByteArray.empty names4 c = nameOf c := by
  intro c h0 h1
  have h : c = 0 ∨ c = 1 ∨ c = 2 ∨ c = 3 := by omega
  rcases h with rfl | rfl | rfl | rfl <;> decide +kernel
theorem cls_size : ∀ c : Int, 0 ≤ c → c ≤ 3 → (nameOf c).size ≤ 5 := by
  intro c h0 h1
  have := (cls_no c h0 h1).2.2
  rw [Lib.size_eq]
  exact this
theorem ref_line {x : Pa.S25} (h : OkR x) : Pl.escutcheonref14_Line.f x.f0 x.f1 x.f2 x.f3 = some ⟨(lineL x).toArray⟩ := by
  have h0 := h.c0
  have h1 := h.c1
  have hn := names4_at x.f2 h0 h1
  have hcs := cls_size x.f2 h0 h1
  have hu := h.u1
  have hp := h.size
  unfold Pl.escutcheonref14_Line.f
  cases hb : x.f0 with
  | true =>
    rw [if_pos rfl, if_pos (by omega), if_pos (by omega), Option.bind_some, if_pos h0]
    rw [show rdOf ByteArray.empty ([(⟨#[97, 110, 121]⟩ : ByteArray), (⟨#[114, 101, 97, 100]⟩ : ByteArray), (⟨#[119, 114, 105, 116, 101]⟩ : ByteArray), (⟨#[97, 100, 109, 105, 110]⟩ : ByteArray)] : List ByteArray) x.f2 = nameOf x.f2 from hn]
    rw [if_pos (by show x.f2 < 4; omega), if_pos (by omega), if_pos (by omega), if_pos (by omega)]
    congr 1
    refine ba_of ?_
    unfold lineL
    rw [hb]
    simp [whatL, clsOf]
  | false =>
    rw [if_neg (by decide), if_pos (by omega), if_pos (by omega), Option.bind_some, if_pos h0]
    rw [show rdOf ByteArray.empty ([(⟨#[97, 110, 121]⟩ : ByteArray), (⟨#[114, 101, 97, 100]⟩ : ByteArray), (⟨#[119, 114, 105, 116, 101]⟩ : ByteArray), (⟨#[97, 100, 109, 105, 110]⟩ : ByteArray)] : List ByteArray) x.f2 = nameOf x.f2 from hn]
    rw [if_pos (by show x.f2 < 4; omega), if_pos (by omega), if_pos (by omega), if_pos (by omega)]
    congr 1
    refine ba_of ?_
    unfold lineL
    rw [hb]
    simp [whatL, clsOf]

theorem idx_cls (w : ByteArray) : Lib.idxOfS clsL w = if w.toList = (nameOf 3).toList then 3 else if w.toList = (nameOf 2).toList then 2 else if w.toList = (nameOf 1).toList then 1 else if w.toList = (nameOf 0).toList then 0 else -1 := by
  have inj : ∀ a b : ByteArray, a.toList = b.toList → a = b := fun a b h => by
    rw [Lib.toList_data, Lib.toList_data] at h
    rw [ba_of h]
  have hc : clsL = [nameOf 0, nameOf 1, nameOf 2, nameOf 3] := by decide +kernel
  by_cases h3 : w.toList = (nameOf 3).toList
  · rw [if_pos h3, inj _ _ h3]
    decide +kernel
  · rw [if_neg h3]
    by_cases h2 : w.toList = (nameOf 2).toList
    · rw [if_pos h2, inj _ _ h2]
      decide +kernel
    · rw [if_neg h2]
      by_cases h1 : w.toList = (nameOf 1).toList
      · rw [if_pos h1, inj _ _ h1]
        decide +kernel
      · rw [if_neg h1]
        by_cases h0 : w.toList = (nameOf 0).toList
        · rw [if_pos h0, inj _ _ h0]
          decide +kernel
        · rw [if_neg h0, hc]
          have n : ∀ c : Int, w.toList ≠ (nameOf c).toList → ¬ nameOf c = w := fun c h e => h (by rw [e])
          simp only [Lib.idxOfS, Lib.idxFromS, if_neg (n 0 h0), if_neg (n 1 h1), if_neg (n 2 h2), if_neg (n 3 h3)]

/-- The rule that four words tell. -/
def ruleOf (s0 s1 s2 s3 : ByteArray) : Pa.S25 := ⟨s0.toList == [97, 108, 108, 111, 119], s1, Lib.idxOfS clsL s2, s3⟩
/-- Is a line a rule's? -/
def lineOk (s : ByteArray) : Bool := match splitS s 32 with
  | [s0, s1, s2, s3] => rightB (ruleOf s0 s1 s2 s3) && (lineL (ruleOf s0 s1 s2 s3) == s.data.toList)
  | _ => false

theorem iteCongr {α : Type} {c : Prop} [Decidable c] {a a' b b' : α} (h : a = a') (h' : b = b') : (if c then a else b) = (if c then a' else b') := by rw [h, h']
theorem lineOk_four {s s0 s1 s2 s3 : ByteArray} (h : splitS s 32 = [s0, s1, s2, s3]) : lineOk s = (rightB (ruleOf s0 s1 s2 s3) && (lineL (ruleOf s0 s1 s2 s3) == s.data.toList)) := by
  unfold lineOk
  rw [h]

theorem word_size (s w : ByteArray) (h : w ∈ splitS s 32) : w.size ≤ s.size := by
  rw [splitS_is] at h
  obtain ⟨l, hl, rfl⟩ := List.mem_map.1 h
  have := (partsAt_mem 32 _ l hl).2
  rw [ba_size, Lib.size_eq]
  exact this

theorem read_ev (s : ByteArray) (hs : s.size ≤ 1000) : ∃ x : Pa.S25, Ev (fun k => acl_read.f k s) (x.f0, x.f1, x.f2, x.f3, lineOk s) := by
  have hsp := split_f s 32 (by omega)
  match hw : splitS s 32 with
  | [s0, s1, s2, s3] =>
    have z3 := word_size s s3 (by rw [hw]; simp)
    refine ⟨ruleOf s0 s1 s2 s3, ?_⟩
    rw [lineOk_four hw]
    have hr := right_ev (ruleOf s0 s1 s2 s3) (by show s3.size ≤ _; omega)
    refine Ev.congr (f := fun k => (acl_Right.f k (ruleOf s0 s1 s2 s3).f0 (ruleOf s0 s1 s2 s3).f1 (ruleOf s0 s1 s2 s3).f2 (ruleOf s0 s1 s2 s3).f3).bind fun rr =>
      if rr = true then (Pa.acl_line.f (ruleOf s0 s1 s2 s3).f0 (ruleOf s0 s1 s2 s3).f1 (ruleOf s0 s1 s2 s3).f2 (ruleOf s0 s1 s2 s3).f3).bind fun ln => some ((ruleOf s0 s1 s2 s3).f0, (ruleOf s0 s1 s2 s3).f1, (ruleOf s0 s1 s2 s3).f2, (ruleOf s0 s1 s2 s3).f3, ln.toList == s.toList)
      else some ((ruleOf s0 s1 s2 s3).f0, (ruleOf s0 s1 s2 s3).f1, (ruleOf s0 s1 s2 s3).f2, (ruleOf s0 s1 s2 s3).f3, false)) (fun k => ?_) (Ev.bind hr ?_)
    · unfold acl_read.f
      rw [hsp, Option.bind_some, hw]
      rfl
    · by_cases h : rightB (ruleOf s0 s1 s2 s3) = true
      · refine Ev.congr (fun k => ?_) (Ev.now _)
        rw [if_pos h, line_f (ok_of h), Option.bind_some, Lib.toList_data, Lib.toList_data, h]
        simp
      · refine Ev.congr (fun k => ?_) (Ev.now _)
        rw [if_neg h]
        have : rightB (ruleOf s0 s1 s2 s3) = false := by simpa using h
        rw [this]
        rfl
  | [] =>
    refine ⟨Pa.z25, ?_⟩
    rw [show lineOk s = false by unfold lineOk; rw [hw]]
    exact Ev.congr (fun k => by unfold acl_read.f; rw [hsp, Option.bind_some, hw]; rfl) (Ev.now _)
  | [_] =>
    refine ⟨Pa.z25, ?_⟩
    rw [show lineOk s = false by unfold lineOk; rw [hw]]
    exact Ev.congr (fun k => by unfold acl_read.f; rw [hsp, Option.bind_some, hw]; rfl) (Ev.now _)
  | [_, _] =>
    refine ⟨Pa.z25, ?_⟩
    rw [show lineOk s = false by unfold lineOk; rw [hw]]
    exact Ev.congr (fun k => by unfold acl_read.f; rw [hsp, Option.bind_some, hw]; rfl) (Ev.now _)
  | [_, _, _] =>
    refine ⟨Pa.z25, ?_⟩
    rw [show lineOk s = false by unfold lineOk; rw [hw]]
    exact Ev.congr (fun k => by unfold acl_read.f; rw [hsp, Option.bind_some, hw]; rfl) (Ev.now _)
  | _ :: _ :: _ :: _ :: _ :: _ =>
    refine ⟨Pa.z25, ?_⟩
    rw [show lineOk s = false by unfold lineOk; rw [hw]]
    exact Ev.congr (fun k => by unfold acl_read.f; rw [hsp, Option.bind_some, hw]; rfl) (Ev.now _)

theorem rules_tail (s : ByteArray) (hs : s.size ≤ 1000) (w0 w1 w2 w3 : ByteArray) (hw : splitS s 32 = [w0, w1, w2, w3]) (z7 z8 : Int) (h8 : z8 = s.size) :
    Ev (fun k => Pl.escutcheonref14_Rules.l1 k s [] 1 z7 z8 s [w0, w1, w2, w3] 0 (w0.toList == [97, 108, 108, 111, 119]) w1 (-1) w3) (if lineOk s then ([ruleOf w0 w1 w2 w3], 0, true) else ([], 1, false)) := by
  have e1 := word_size s w1 (by rw [hw]; simp)
  have e3 := word_size s w3 (by rw [hw]; simp)
  have hstep : ∀ (j : Nat) (hj : j < 4) (c : Int) (r : List Pa.S25 × Int × Bool), Ev (fun k => Pl.escutcheonref14_Rules.l1 k s [] 1 z7 z8 s [w0, w1, w2, w3] ((j + 1 : Nat) : Int) (w0.toList == [97, 108, 108, 111, 119]) w1 (if w2.toList = (nameOf (j : Int)).toList then (j : Int) else c) w3) r →
      Ev (fun k => Pl.escutcheonref14_Rules.l1 k s [] 1 z7 z8 s [w0, w1, w2, w3] (j : Int) (w0.toList == [97, 108, 108, 111, 119]) w1 c w3) r := by
    intro j hj c r hr
    refine Ev.step (f := fun k => Pl.escutcheonref14_Rules.l1 k s [] 1 z7 z8 s [w0, w1, w2, w3] ((j + 1 : Nat) : Int) (w0.toList == [97, 108, 108, 111, 119]) w1 (if w2.toList = (nameOf (j : Int)).toList then (j : Int) else c) w3) (fun k => ?_) hr
    show Pl.escutcheonref14_Rules.l1 (k + 1) s [] 1 z7 z8 s [w0, w1, w2, w3] (j : Int) (w0.toList == [97, 108, 108, 111, 119]) w1 c w3 = _
    rw [Pl.escutcheonref14_Rules.l1, if_pos (by omega), if_pos (by show (2 : Int) < 4; decide), Option.bind_some, if_pos (by omega), if_pos (by show (j : Int) < 4; omega)]
    rw [show rdOf ByteArray.empty ([(⟨#[97, 110, 121]⟩ : ByteArray), (⟨#[114, 101, 97, 100]⟩ : ByteArray), (⟨#[119, 114, 105, 116, 101]⟩ : ByteArray), (⟨#[97, 100, 109, 105, 110]⟩ : ByteArray)] : List ByteArray) (j : Int) = nameOf (j : Int) from names4_at (j : Int) (by omega) (by omega)]
    rw [show rdOf ByteArray.empty [w0, w1, w2, w3] 2 = w2 from rfl, wrap1 j (by omega)]
    by_cases h : w2.toList = (nameOf (j : Int)).toList
    · rw [if_pos h, if_pos h]
    · rw [if_neg h, if_neg h]
  refine hstep 0 (by decide) _ _ (hstep 1 (by decide) _ _ (hstep 2 (by decide) _ _ (hstep 3 (by decide) _ _ ?_)))
  have hc : (if w2.toList = (nameOf ((3 : Nat) : Int)).toList then ((3 : Nat) : Int) else if w2.toList = (nameOf ((2 : Nat) : Int)).toList then ((2 : Nat) : Int) else if w2.toList = (nameOf ((1 : Nat) : Int)).toList then ((1 : Nat) : Int) else if w2.toList = (nameOf ((0 : Nat) : Int)).toList then ((0 : Nat) : Int) else -1) = Lib.idxOfS clsL w2 := (idx_cls w2).symm
  rw [hc]
  have hr := rule_ev (ruleOf w0 w1 w2 w3) (by show w1.size ≤ _; omega) (by show w3.size ≤ _; omega)
  refine Ev.step (f := fun k => (Pl.escutcheonref14_Rule.f k (ruleOf w0 w1 w2 w3).f0 (ruleOf w0 w1 w2 w3).f1 (ruleOf w0 w1 w2 w3).f2 (ruleOf w0 w1 w2 w3).f3).bind fun t140 => (if t140 = true then ((Pl.escutcheonref14_Line.f (ruleOf w0 w1 w2 w3).f0 (ruleOf w0 w1 w2 w3).f1 (ruleOf w0 w1 w2 w3).f2 (ruleOf w0 w1 w2 w3).f3).bind fun t141 => (if t141.toList = s.toList then (Pl.escutcheonref14_Rules.l0 k s [ruleOf w0 w1 w2 w3] 2 z7 (wrap64 (z8 + 1))) else (some (([] : List Pa.S25), 1, false)))) else (some (([] : List Pa.S25), 1, false)))) (fun k => ?_) (Ev.bind hr ?_)
  · show Pl.escutcheonref14_Rules.l1 (k + 1) s [] 1 z7 z8 s [w0, w1, w2, w3] ((3 + 1 : Nat) : Int) (w0.toList == [97, 108, 108, 111, 119]) w1 (Lib.idxOfS clsL w2) w3 = _
    rw [Pl.escutcheonref14_Rules.l1, if_neg (by decide)]
    refine congrArg (fun g => Option.bind _ g) (funext fun t140 => ?_)
    refine iteCongr ?_ rfl
    refine congrArg (fun g => Option.bind _ g) (funext fun t141 => ?_)
    refine iteCongr ?_ rfl
    rw [if_neg (by decide), if_pos (by decide), show wrap64 (1 + 1) = 2 from wrap1 1 (by omega)]
    rfl
  · rw [lineOk_four hw]
    by_cases h : rightB (ruleOf w0 w1 w2 w3) = true
    · rw [h, Bool.true_and]
      by_cases hl : lineL (ruleOf w0 w1 w2 w3) = s.data.toList
      · have hb : (lineL (ruleOf w0 w1 w2 w3) == s.data.toList) = true := beq_iff_eq.2 hl
        rw [hb, if_pos rfl]
        refine Ev.congr (f := fun k => Pl.escutcheonref14_Rules.l0 k s [ruleOf w0 w1 w2 w3] 2 z7 (wrap64 (z8 + 1))) (fun k => ?_) ?_
        · rw [if_pos rfl, ref_line (ok_of h), Option.bind_some, if_pos (by rw [Lib.toList_data, Lib.toList_data]; exact hl)]
        · refine Ev.step (f := fun _ => some ([ruleOf w0 w1 w2 w3], 0, true)) (fun k => ?_) (Ev.now _)
          show Pl.escutcheonref14_Rules.l0 (k + 1) s [ruleOf w0 w1 w2 w3] 2 z7 (wrap64 (z8 + 1)) = _
          rw [h8, wrap1 s.size (by omega), Pl.escutcheonref14_Rules.l0, if_neg (by omega)]
      · have hb : (lineL (ruleOf w0 w1 w2 w3) == s.data.toList) = false := beq_eq_false_iff_ne.2 hl
        rw [hb, if_neg (by decide)]
        refine Ev.congr (fun k => ?_) (Ev.now _)
        rw [if_pos rfl, ref_line (ok_of h), Option.bind_some, if_neg (by rw [Lib.toList_data, Lib.toList_data]; exact hl)]
    · have h' : rightB (ruleOf w0 w1 w2 w3) = false := by simpa using h
      rw [h', Bool.false_and, if_neg (by decide)]
      exact Ev.congr (fun k => by rw [if_neg (by decide)]) (Ev.now _)

theorem rules_line (s : ByteArray) (hs : s.size ≤ 1000) (c : UInt8) (q : List UInt8) (hc : s.data.toList = c :: q) (h35 : c ≠ 35) (h10 : (10 : UInt8) ∉ s.data.toList) : ∃ l n, Ev (fun k => Pl.escutcheonref14_Rules.f k s) (l, n, lineOk s) := by
  have hne : ∀ i, i < s.size → s.data.toList.getD i 0 ≠ 10 := fun i hi e => by
    have hl : i < s.data.toList.length := by rw [← Lib.size_eq]; exact hi
    rw [List.getD_eq_getElem?_getD, List.getElem?_eq_getElem hl] at e
    exact h10 (by rw [← e]; exact List.getElem_mem hl)
  have hsz : 0 < s.size := by rw [Lib.size_eq, hc]; simp
  have hfull : s.extract (0 : Int).toNat (s.size : Int).toNat = s := by
    have e : (s.extract 0 s.size).data.toList = s.data.toList := by
      rw [Lib.extract_data, List.drop_zero]
      exact List.take_of_length_le (by rw [Lib.size_eq]; exact Nat.le_of_eq (Nat.sub_zero _).symm)
    exact (ba_of e).trans (ba_of rfl).symm
  have hb0 : bt s 0 = (c.toNat : Int) := by
    have := bt_get s 0 hsz
    rw [hc] at this
    exact this
  have hfl : (bt s 0 != 35) = true := by
    rw [hb0]
    have : (((c.toNat : Nat) : Int) == 35) = false := beq_eq_false_iff_ne.2 fun h => h35 (UInt8.toNat_inj.1 (by show _ = 35; omega))
    show (!(_ == _)) = true
    rw [this]
    rfl
  obtain ⟨R, hR, hok⟩ : ∃ R : List Pa.S25 × Int × Bool, Ev (fun k => Pl.escutcheonref14_Rules.j2 k s [] 1 (wrap64 ((s.size : Int) + 1)) (s.size : Int) s true) R ∧ R.2.2 = lineOk s := by
    have hw := words_ev s (by omega)
    have hj : ∀ R, Ev (fun k => (fun t128 : List ByteArray => (if (t128.length : Int) = 4 then (if 0 < (t128.length : Int) then (if 1 < (t128.length : Int) then (if 3 < (t128.length : Int) then (Pl.escutcheonref14_Rules.l1 k s [] 1 (wrap64 ((s.size : Int) + 1)) (s.size : Int) s t128 0 ((rdOf ByteArray.empty t128 0).toList == ([97, 108, 108, 111, 119] : List UInt8)) (rdOf ByteArray.empty t128 1) (-1) (rdOf ByteArray.empty t128 3)) else (none)) else (none)) else (none)) else (some (([] : List Pa.S25), 1, false)))) (wordsL s)) R → Ev (fun k => Pl.escutcheonref14_Rules.j2 k s [] 1 (wrap64 ((s.size : Int) + 1)) (s.size : Int) s true) R := fun R h => by
      refine Ev.step (f := fun k => (Pl.escutcheonref14_words.f k s).bind fun t128 => (if (t128.length : Int) = 4 then (if 0 < (t128.length : Int) then (if 1 < (t128.length : Int) then (if 3 < (t128.length : Int) then (Pl.escutcheonref14_Rules.l1 k s [] 1 (wrap64 ((s.size : Int) + 1)) (s.size : Int) s t128 0 ((rdOf ByteArray.empty t128 0).toList == ([97, 108, 108, 111, 119] : List UInt8)) (rdOf ByteArray.empty t128 1) (-1) (rdOf ByteArray.empty t128 3)) else (none)) else (none)) else (none)) else (some (([] : List Pa.S25), 1, false)))) (fun k => ?_) (Ev.bind hw h)
      show Pl.escutcheonref14_Rules.j2 (k + 1) s [] 1 (wrap64 ((s.size : Int) + 1)) (s.size : Int) s true = _
      rw [Pl.escutcheonref14_Rules.j2, if_pos rfl]
    by_cases h4 : (wordsL s).length = 4
    · match hwl : wordsL s, h4 with
      | [w0, w1, w2, w3], _ =>
        refine ⟨_, hj _ (Ev.congr (fun k => ?_) (rules_tail s hs w0 w1 w2 w3 hwl (wrap64 ((s.size : Int) + 1)) (s.size : Int) rfl)), ?_⟩
        · rw [hwl]
          rfl
        · split <;> simp_all
    · refine ⟨_, hj _ (Ev.congr (fun k => ?_) (Ev.now (([] : List Pa.S25), 1, false))), ?_⟩
      · simp only
        rw [if_neg (by omega)]
      · unfold lineOk
        split
        · rename_i w0 w1 w2 w3 e
          exact absurd (by unfold wordsL; rw [e]; rfl) h4
        · rfl
  obtain ⟨l, n, ok⟩ := R
  simp only at hok
  subst hok
  refine ⟨l, n, ?_⟩
  unfold Pl.escutcheonref14_Rules.f
  refine Ev.congr (f := fun k => Pl.escutcheonref14_Rules.l0 k s [] 1 0 ((0 : Nat) : Int)) (fun k => by rw [if_neg (by omega)]; rfl) ?_
  have key : ∀ (d i : Nat), i + d = s.size → Ev (fun k => Pl.escutcheonref14_Rules.l0 k s [] 1 0 (i : Int)) (l, n, lineOk s) := by
    intro d
    induction d with
    | zero =>
      intro i hi
      obtain rfl : i = s.size := by omega
      refine Ev.step (f := fun k => Pl.escutcheonref14_Rules.j1 k s [] 1 0 (s.size : Int) false) (fun k => ?_) ?_
      · show Pl.escutcheonref14_Rules.l0 (k + 1) s [] 1 0 (s.size : Int) = _
        rw [Pl.escutcheonref14_Rules.l0, if_pos (by omega), if_neg (by omega)]
      · refine Ev.step (f := fun k => Pl.escutcheonref14_Rules.j2 k s [] 1 (wrap64 ((s.size : Int) + 1)) (s.size : Int) s true) (fun k => ?_) hR
        show Pl.escutcheonref14_Rules.j1 (k + 1) s [] 1 0 (s.size : Int) false = _
        rw [Pl.escutcheonref14_Rules.j1, if_neg (by decide), if_pos (by decide), if_pos (by omega), if_pos (by omega), hfull, if_neg (by rw [Lib.toList_data, hc]; simp), if_pos (by omega), hfl]
    | succ d ih =>
      intro i hi
      have hlt : i < s.size := by omega
      have hb := bt_get s i hlt
      have hbn : (bt s (i : Int) != 10) = true := by
        rw [hb]
        have : (((s.data.toList.getD i 0).toNat : Int) == 10) = false := beq_eq_false_iff_ne.2 fun h => hne i hlt (UInt8.toNat_inj.1 (by show _ = 10; omega))
        show (!(_ == _)) = true
        rw [this]
        rfl
      refine Ev.step (f := fun k => Pl.escutcheonref14_Rules.j1 k s [] 1 0 (i : Int) true) (fun k => ?_) ?_
      · show Pl.escutcheonref14_Rules.l0 (k + 1) s [] 1 0 (i : Int) = _
        rw [Pl.escutcheonref14_Rules.l0, if_pos (by omega), if_pos (by omega), if_pos (by omega), hbn]
      · refine Ev.step (f := fun k => Pl.escutcheonref14_Rules.l0 k s [] 1 0 ((i + 1 : Nat) : Int)) (fun k => ?_) (ih (i + 1) (by omega))
        show Pl.escutcheonref14_Rules.j1 (k + 1) s [] 1 0 (i : Int) true = _
        rw [Pl.escutcheonref14_Rules.j1, if_pos rfl, wrap1 i (by omega)]
  exact key s.size 0 (by omega)
end Ref
end Go.Proofs.YthngjjeilcfhgaaDoor
