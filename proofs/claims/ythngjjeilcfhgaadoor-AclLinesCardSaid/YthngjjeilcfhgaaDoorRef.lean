/- The document's own rules (escutcheonref14): its words, names, patterns, rules and lines, as plain functions. -/
import Derived.Test.YthngjjeilcfhgaaDoorPl
import Derived.Test.YthngjjeilcfhgaaDoorAc
set_option linter.unusedVariables false
namespace Go.Proofs.YthngjjeilcfhgaaDoor
open Go.RowKit Go.Proofs.YthngjjeilcfhgaaDoorW.PrintWords Go.Proofs.YthngjjeilcfhgaaDoorW.PrintLast
namespace Ref
open Acl

/-- Words: what is there already, and the rest of the text parted at blanks. -/
def wordsR (init : List ByteArray) (cur : ByteArray) (rest : List UInt8) : List ByteArray := match partsAt 32 rest with
  | [] => init ++ [cur]
  | p :: ps => init ++ (⟨(cur.data.toList ++ p).toArray⟩ :: ps.map fun q => (⟨q.toArray⟩ : ByteArray))
theorem ext_byte (s : ByteArray) (i : Nat) (h : i < s.size) : (s.extract i (i + 1)).data.toList = [s.data.toList.getD i 0] := by
  have hl : i < s.data.toList.length := by rw [← Lib.size_eq]; exact h
  rw [Lib.extract_data]
  rw [List.getD_eq_getElem?_getD, List.getElem?_eq_getElem hl]
  rw [List.drop_eq_getElem_cons hl]
  simp
theorem wordsR_blank (init : List ByteArray) (cur : ByteArray) (r : List UInt8) : wordsR init cur (32 :: r) = wordsR (init ++ [cur]) ⟨#[]⟩ r := by
  obtain ⟨p, ps, e⟩ := partsAt_ne 32 r
  unfold wordsR
  rw [partsAt_hit, e]
  simp
theorem wordsR_byte (init : List ByteArray) (cur add : ByteArray) (c : UInt8) (hc : c ≠ 32) (ha : add.data.toList = [c]) (r : List UInt8) : wordsR init cur (c :: r) = wordsR init (cur ++ add) r := by
  obtain ⟨p, ps, e⟩ := partsAt_ne 32 r
  unfold wordsR
  rw [partsAt_miss hc e, e]
  have h : (cur ++ add).data.toList = cur.data.toList ++ [c] := by simp [ha]
  rw [h]
  simp
theorem words_loop (s : ByteArray) (hs : s.size ≤ 100000) : ∀ (d i : Nat) (init : List ByteArray) (cur : ByteArray), i + d = s.size → init.length ≤ i → cur.size ≤ i → Ev (fun k => Pl.escutcheonref14_words.l0 k s (init ++ [cur]) (i : Int)) (wordsR init cur (s.data.toList.drop i)) := by
  intro d
  induction d with
  | zero =>
    intro i init cur hi hil hic
    have : s.data.toList.drop i = [] := by rw [List.drop_eq_nil_iff, ← Lib.size_eq]; omega
    rw [this]
    refine Ev.step (f := fun _ => some (init ++ [cur])) (fun k => ?_) ?_
    · show Pl.escutcheonref14_words.l0 (k + 1) s (init ++ [cur]) (i : Int) = _
      rw [Pl.escutcheonref14_words.l0, if_neg (by omega)]
    · have e : wordsR init cur [] = init ++ [cur] := by simp [wordsR, partsAt]
      rw [e]
      exact Ev.now _
  | succ d ih =>
    intro i init cur hi hil hic
    have hlt : i < s.size := by omega
    have hll : i < s.data.toList.length := by rw [← Lib.size_eq]; exact hlt
    have hb := bt_get s i hlt
    have hext := ext_byte s i hlt
    rw [drop_cons _ _ hll]
    generalize s.data.toList.getD i 0 = c at hb hext
    by_cases hc : c = 32
    · subst hc
      rw [wordsR_blank]
      refine Ev.step (f := fun k => Pl.escutcheonref14_words.l0 k s ((init ++ [cur]) ++ [⟨#[]⟩]) ((i + 1 : Nat) : Int)) (fun k => ?_) (ih (i + 1) (init ++ [cur]) ⟨#[]⟩ (by omega) (by simp; omega) (Nat.zero_le _))
      show Pl.escutcheonref14_words.l0 (k + 1) s (init ++ [cur]) (i : Int) = _
      rw [Pl.escutcheonref14_words.l0, if_pos (by omega), if_pos (by omega), if_pos (by rw [hb]; decide), if_pos (by simp; omega), wrap1 i (by omega)]
    · rw [wordsR_byte init cur (s.extract i (i + 1)) c hc hext]
      have hne : ¬ bt s (i : Int) = 32 := by
        rw [hb]
        intro h
        exact hc (UInt8.toNat_inj.1 (by show _ = 32; omega))
      have hlen : ((init ++ [cur]).length : Int) = ((init.length + 1 : Nat) : Int) := by simp
      have hw : wrap64 (((init ++ [cur]).length : Int) - 1) = (init.length : Int) := by rw [hlen, show (((init.length + 1 : Nat) : Int) - 1) = (init.length : Int) by omega]; exact wrap_nat (by omega)
      have hrd : rdOf ByteArray.empty (init ++ [cur]) (init.length : Int) = cur := by simp [rdOf, List.getD]
      refine Ev.step (f := fun k => Pl.escutcheonref14_words.l0 k s (init ++ [cur ++ s.extract i (i + 1)]) ((i + 1 : Nat) : Int)) (fun k => ?_) (ih (i + 1) init (cur ++ s.extract i (i + 1)) (by omega) (by omega) (by rw [ByteArray.size_append, Lib.size_eq (s.extract i (i + 1)), hext]; simp; omega))
      show Pl.escutcheonref14_words.l0 (k + 1) s (init ++ [cur]) (i : Int) = _
      rw [Pl.escutcheonref14_words.l0, if_pos (by omega), if_pos (by omega), if_neg hne, hw, if_pos (by omega), if_pos (by rw [hlen]; omega), wrap1 i (by omega), if_pos (by omega), if_pos (by omega), hrd, if_pos (by omega)]
      simp
def wordsL (s : ByteArray) : List ByteArray := splitS s 32
theorem words_ev (s : ByteArray) (hs : s.size ≤ 100000) : Ev (fun k => Pl.escutcheonref14_words.f k s) (wordsL s) := by
  have h := words_loop s hs s.size 0 [] ⟨#[]⟩ (by omega) (by simp) (Nat.zero_le _)
  have e : wordsR [] ⟨#[]⟩ (s.data.toList.drop 0) = wordsL s := by
    obtain ⟨p, ps, e⟩ := partsAt_ne 32 s.data.toList
    unfold wordsR wordsL
    rw [List.drop_zero, splitS_is, e]
    rfl
  rw [e] at h
  exact h

theorem name_ev (u : ByteArray) (hs : u.size ≤ 100000) : Ev (fun k => Pl.escutcheonref14_Name.f k u) (userB u && decide (1 ≤ u.size) && decide (u.size ≤ 20)) := by
  have key : ∀ (d i : Nat), i + d = u.size → (∀ q, q < i → 33 ≤ (u.data.toList.getD q 0).toNat ∧ (u.data.toList.getD q 0).toNat ≤ 126) → Ev (fun k => Pl.escutcheonref14_Name.l0 k u (i : Int)) (userB u && decide (1 ≤ u.size) && decide (u.size ≤ 20)) := by
    intro d
    induction d with
    | zero =>
      intro i hi hq
      have hyes : userB u = true := by
        cases e : userB u with
        | true => rfl
        | false =>
          obtain ⟨q, hq1, hn⟩ := userB_not e
          exact absurd (hq q (by omega)) hn
      rw [hyes]
      refine Ev.step (f := fun _ => some (true && decide (1 ≤ u.size) && decide (u.size ≤ 20))) (fun k => ?_) (Ev.now _)
      show Pl.escutcheonref14_Name.l0 (k + 1) u (i : Int) = _
      rw [Pl.escutcheonref14_Name.l0, if_neg (by omega)]
      by_cases h1 : 1 ≤ u.size
      · rw [if_pos (by omega), decide_eq_true h1]
        simp only [Bool.true_and, Option.some.injEq, decide_eq_decide]
        omega
      · rw [if_neg (by omega), decide_eq_false h1]
        simp
    | succ d ih =>
      intro i hi hq
      have hlt : i < u.size := by omega
      have hb := bt_get u i hlt
      by_cases hok : 33 ≤ (u.data.toList.getD i 0).toNat ∧ (u.data.toList.getD i 0).toNat ≤ 126
      · refine Ev.step (f := fun k => Pl.escutcheonref14_Name.l0 k u ((i + 1 : Nat) : Int)) (fun k => ?_) (ih (i + 1) (by omega) (fun q hq' => ?_))
        · show Pl.escutcheonref14_Name.l0 (k + 1) u (i : Int) = _
          rw [Pl.escutcheonref14_Name.l0, if_pos (by omega), if_pos (by omega), hb, if_neg (by omega), if_neg (by omega), wrap1 i (by omega)]
        · by_cases e : q = i
          · subst e; exact hok
          · exact hq q (by omega)
      · have hno : userB u = false := by
          cases e : userB u with
          | false => rfl
          | true => exact absurd (userB_all e i hlt) hok
        rw [hno]
        refine Ev.step (f := fun _ => some false) (fun k => ?_) (Ev.now _)
        show Pl.escutcheonref14_Name.l0 (k + 1) u (i : Int) = _
        rw [Pl.escutcheonref14_Name.l0, if_pos (by omega), if_pos (by omega), hb]
        by_cases h1 : (u.data.toList.getD i 0).toNat < 33
        · rw [if_pos (by omega)]
        · rw [if_neg (by omega), if_pos (by omega)]
  exact key u.size 0 (by omega) (fun q hq => absurd hq (Nat.not_lt_zero q))

theorem glob_ev (p : ByteArray) (hs : p.size ≤ 100000) : Ev (fun k => Pl.escutcheonref14_Glob.f k p) (piecesB p).2 := by
  have e0 : (piecesB p).2 = ((piecesL p.data.toList).isSome && decide (p.size ≤ 40)) := by
    unfold piecesB
    by_cases h : 40 < p.size
    · rw [if_pos h, decide_eq_false (by omega), Bool.and_false]
    · rw [if_neg h, decide_eq_true (by omega), Bool.and_true]
      unfold piecesR
      cases piecesL p.data.toList <;> rfl
  rw [e0]
  have key : ∀ (d i : Nat), i + d = p.size → Ev (fun k => Pl.escutcheonref14_Glob.l0 k p (i : Int)) ((piecesL (p.data.toList.drop i)).isSome && decide (p.size ≤ 40)) := by
    intro d
    induction d using Nat.strongRecOn with
    | ind d ih =>
      intro i hi
      by_cases hd : d = 0
      · subst hd
        have : p.data.toList.drop i = [] := by rw [List.drop_eq_nil_iff, ← Lib.size_eq]; omega
        rw [this]
        refine Ev.step (f := fun _ => some (decide (p.size ≤ 40))) (fun k => ?_) ?_
        · show Pl.escutcheonref14_Glob.l0 (k + 1) p (i : Int) = _
          rw [Pl.escutcheonref14_Glob.l0, if_neg (by omega)]
          simp only [Option.some.injEq, decide_eq_decide]
          omega
        · simpa [piecesL] using Ev.now (decide (p.size ≤ 40))
      · have hlt : i < p.size := by omega
        have hll : i < p.data.toList.length := by rw [← Lib.size_eq]; exact hlt
        have hb := bt_get p i hlt
        rw [drop_cons _ _ hll]
        generalize p.data.toList.getD i 0 = c at hb
        have hw2 : wrap64 (((i + 1 : Nat) : Int) + 1) = ((i + 2 : Nat) : Int) := wrap1 (i + 1) (by omega)
        by_cases h92 : c.toNat = 92
        · by_cases hend : i + 1 = p.size
          · have : p.data.toList.drop (i + 1) = [] := by rw [List.drop_eq_nil_iff, ← Lib.size_eq]; omega
            rw [this, piecesL_end c h92]
            refine Ev.step (f := fun _ => some false) (fun k => ?_) (Ev.now _)
            show Pl.escutcheonref14_Glob.l0 (k + 1) p (i : Int) = _
            rw [Pl.escutcheonref14_Glob.l0, if_pos (by omega), if_pos (by omega), if_pos (by rw [hb, h92]; rfl), wrap1 i (by omega), if_pos (by omega)]
          · rw [drop_cons _ _ (show i + 1 < p.data.toList.length by rw [← Lib.size_eq]; omega), piecesL_quote _ _ _ h92]
            refine Ev.step (f := fun k => Pl.escutcheonref14_Glob.l0 k p ((i + 2 : Nat) : Int)) (fun k => ?_) ?_
            · show Pl.escutcheonref14_Glob.l0 (k + 1) p (i : Int) = _
              rw [Pl.escutcheonref14_Glob.l0, if_pos (by omega), if_pos (by omega), if_pos (by rw [hb, h92]; rfl), wrap1 i (by omega), if_neg (by omega), hw2]
            · have := ih (d - 2) (by omega) (i + 2) (by omega)
              rw [Option.isSome_map]
              exact this
        · have e1 : (piecesL (c :: p.data.toList.drop (i + 1))).isSome = (piecesL (p.data.toList.drop (i + 1))).isSome := by
            by_cases h : c.toNat = 42 ∨ c.toNat = 63
            · rw [piecesL_any _ _ h, Option.isSome_map]
            · rw [piecesL_plain _ _ h h92, Option.isSome_map]
          rw [e1]
          refine Ev.step (f := fun k => Pl.escutcheonref14_Glob.l0 k p ((i + 1 : Nat) : Int)) (fun k => ?_) (ih (d - 1) (by omega) (i + 1) (by omega))
          show Pl.escutcheonref14_Glob.l0 (k + 1) p (i : Int) = _
          rw [Pl.escutcheonref14_Glob.l0, if_pos (by omega), if_pos (by omega), if_neg (by rw [hb]; omega), wrap1 i (by omega)]
  have := key p.size 0 (by omega)
  rw [List.drop_zero] at this
  exact this

theorem rule_ev (x : Pa.S25) (h1 : x.f1.size ≤ 100000) (h3 : x.f3.size ≤ 100000) : Ev (fun k => Pl.escutcheonref14_Rule.f k x.f0 x.f1 x.f2 x.f3) (rightB x) := by
  have key : ∀ (d i : Nat), i + d = x.f3.size → noBl x.f3 i → Ev (fun k => Pl.escutcheonref14_Rule.l0 k (i : Int) x.f0 x.f1 x.f2 x.f3) (rightB x) := by
    intro d
    induction d with
    | zero =>
      intro i hi hq
      have hno : hasBlank x.f3 = false := hasBlank_no (by rw [← hi]; exact hq)
      refine Ev.step (f := fun k => (Pl.escutcheonref14_Name.f k x.f1).bind fun t109 => (if t109 = true then (if x.f2 ≥ 0 then (if x.f2 ≤ 3 then (if x.f3.toList = ([] : List UInt8) then (some false) else ((Pl.escutcheonref14_Glob.f k x.f3).bind fun t110 => (some t110))) else (some false)) else (some false)) else (some false))) (fun k => ?_) (Ev.bind (name_ev x.f1 h1) ?_)
      · show Pl.escutcheonref14_Rule.l0 (k + 1) (i : Int) x.f0 x.f1 x.f2 x.f3 = _
        rw [Pl.escutcheonref14_Rule.l0, if_neg (by omega)]
      · by_cases hn : (userB x.f1 && decide (1 ≤ x.f1.size) && decide (x.f1.size ≤ 20)) = true
        · have hn' := hn
          simp only [Bool.and_eq_true, decide_eq_true_eq] at hn'
          obtain ⟨⟨n1, n2⟩, n3⟩ := hn'
          by_cases c0 : 0 ≤ x.f2
          · by_cases c3 : x.f2 ≤ 3
            · by_cases hp : x.f3.toList = []
              · have e : rightB x = false := by
                  unfold rightB
                  rw [if_pos (.inr (.inr (ba_of (by rw [← Lib.toList_data]; exact hp))))]
                rw [e]
                exact Ev.congr (fun k => by rw [if_pos hn, if_pos c0, if_pos c3, if_pos hp]) (Ev.now _)
              · have e : rightB x = (piecesB x.f3).2 := by
                  unfold rightB
                  rw [if_neg, if_neg (by rw [hno]; decide), if_pos n1, if_pos ⟨c0, c3⟩]
                  rintro (h | h | h)
                  · omega
                  · omega
                  · exact hp (by rw [h, Lib.toList_data])
                rw [e]
                exact Ev.congr (fun k => by rw [if_pos hn, if_pos c0, if_pos c3, if_neg hp]) (Ev.bind (glob_ev x.f3 h3) (Ev.now _))
            · have e : rightB x = false := by
                cases er : rightB x with
                | false => rfl
                | true => exact absurd (ok_of er).c1 c3
              rw [e]
              exact Ev.congr (fun k => by rw [if_pos hn, if_pos c0, if_neg c3]) (Ev.now _)
          · have e : rightB x = false := by
              cases er : rightB x with
              | false => rfl
              | true => exact absurd (ok_of er).c0 c0
            rw [e]
            exact Ev.congr (fun k => by rw [if_pos hn, if_neg c0]) (Ev.now _)
        · have e : rightB x = false := by
            cases er : rightB x with
            | false => rfl
            | true =>
              have o := ok_of er
              exact absurd (by rw [o.ub, decide_eq_true o.u0, decide_eq_true o.u1]; rfl) hn
          rw [e]
          exact Ev.congr (fun k => by rw [if_neg hn]) (Ev.now _)
    | succ d ih =>
      intro i hi hq
      have hlt : i < x.f3.size := by omega
      have hb := bt_get x.f3 i hlt
      have hyes : (x.f3.data.toList.getD i 0 = 32 ∨ x.f3.data.toList.getD i 0 = 10) → rightB x = false := fun h => by
        cases er : rightB x with
        | false => rfl
        | true =>
          have := (ok_of er).pb
          rw [hasBlank_yes hlt (by rw [← getD_of x.f3 i hlt]; exact h)] at this
          cases this
      by_cases h32 : x.f3.data.toList.getD i 0 = 32
      · rw [hyes (.inl h32)]
        refine Ev.step (f := fun _ => some false) (fun k => ?_) (Ev.now _)
        show Pl.escutcheonref14_Rule.l0 (k + 1) (i : Int) x.f0 x.f1 x.f2 x.f3 = _
        rw [Pl.escutcheonref14_Rule.l0, if_pos (by omega), if_pos (by omega), hb, h32, if_pos (by decide)]
      · have n32 : ¬ (((x.f3.data.toList.getD i 0).toNat : Nat) : Int) = 32 := fun h => h32 (UInt8.toNat_inj.1 (by show _ = 32; omega))
        by_cases h10 : x.f3.data.toList.getD i 0 = 10
        · rw [hyes (.inr h10)]
          refine Ev.step (f := fun _ => some false) (fun k => ?_) (Ev.now _)
          show Pl.escutcheonref14_Rule.l0 (k + 1) (i : Int) x.f0 x.f1 x.f2 x.f3 = _
          rw [Pl.escutcheonref14_Rule.l0, if_pos (by omega), if_pos (by omega), hb, if_neg n32, h10, if_pos (by decide)]
        · have n10 : ¬ (((x.f3.data.toList.getD i 0).toNat : Nat) : Int) = 10 := fun h => h10 (UInt8.toNat_inj.1 (by show _ = 10; omega))
          refine Ev.step (f := fun k => Pl.escutcheonref14_Rule.l0 k ((i + 1 : Nat) : Int) x.f0 x.f1 x.f2 x.f3) (fun k => ?_) (ih (i + 1) (by omega) (fun q hq' => ?_))
          · show Pl.escutcheonref14_Rule.l0 (k + 1) (i : Int) x.f0 x.f1 x.f2 x.f3 = _
            rw [Pl.escutcheonref14_Rule.l0, if_pos (by omega), if_pos (by omega), hb, if_neg n32, if_neg n10, wrap1 i (by omega)]
          · by_cases e : q = i
            · subst e; exact ⟨h32, h10⟩
            · exact hq q (by omega)
  exact key x.f3.size 0 (by omega) (fun q hq => absurd hq (Nat.not_lt_zero q))
end Ref
end Go.Proofs.YthngjjeilcfhgaaDoor
