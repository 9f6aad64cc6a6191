/- The document's own rules (escutcheonref14): its names, patterns and rules, as plain functions. -/
import Derived.Test.YthngjjeilcfhgaaDoorPl2
import Derived.Test.YthngjjeilcfhgaaDoorAc
set_option linter.unusedVariables false
namespace Go.Proofs.YthngjjeilcfhgaaDoor
open Go.RowKit Go.Proofs.YthngjjeilcfhgaaDoorW.PrintWords Go.Proofs.YthngjjeilcfhgaaDoorW.PrintLast
namespace RefA
open Acl

/-- Words: what is there already, and the rest of the text parted at blanks. -/
theorem name_ev (u : ByteArray) (hs : u.size ≤ 100000) : Ev (fun k => Pl.escutcheonref14_Name.f k u) (userB u && decide (1 ≤ u.size) && decide (u.size ≤ 20)) := by
  have key : ∀ (d i : Nat), i + d = u.size → (∀ q, q < i → 33 ≤ (u.data.toList.getD q 0).toNat ∧ (u.data.toList.getD q 0).toNat ≤ 126) → Ev (fun k => Pl.escutcheonref14_Name.l0 k u (i : Int)) (userB u && decide (1 ≤ u.size) && decide (u.size ≤ 20)) := by
    intro d
    induction d with
    | zero =>
      intro i hi hq
      have hyes : userB u = true := by
        cases e : userB u with
        | true => rfl
        | false =>
          obtain ⟨q, hq1, hn⟩ := userB_not e
          exact absurd (hq q (by omega)) hn
      rw [hyes]
      refine Ev.step (f := fun _ => some (true && decide (1 ≤ u.size) && decide (u.size ≤ 20))) (fun k => ?_) (Ev.now _)
      show Pl.escutcheonref14_Name.l0 (k + 1) u (i : Int) = _
      rw [Pl.escutcheonref14_Name.l0, if_neg (by omega)]
      by_cases h1 : 1 ≤ u.size
      · rw [if_pos (by omega), decide_eq_true h1]
        simp only [Bool.true_and, Option.some.injEq, decide_eq_decide]
        omega
      · rw [if_neg (by omega), decide_eq_false h1]
        simp
    | succ d ih =>
      intro i hi hq
      have hlt : i < u.size := by omega
      have hb := bt_get u i hlt
      by_cases hok : 33 ≤ (u.data.toList.getD i 0).toNat ∧ (u.data.toList.getD i 0).toNat ≤ 126
      · refine Ev.step (f := fun k => Pl.escutcheonref14_Name.l0 k u ((i + 1 : Nat) : Int)) (fun k => ?_) (ih (i + 1) (by omega) (fun q hq' => ?_))
        · show Pl.escutcheonref14_Name.l0 (k + 1) u (i : Int) = _
          rw [Pl.escutcheonref14_Name.l0, if_pos (by omega), if_pos (by omega), hb, if_neg (by omega), if_neg (by omega), wrap1 i (by omega)]
        · by_cases e : q = i
          · subst e; exact hok
          · exact hq q (by omega)
      · have hno : userB u = false := by
          cases e : userB u with
          | false => rfl
          | true => exact absurd (userB_all e i hlt) hok
        rw [hno]
        refine Ev.step (f := fun _ => some false) (fun k => ?_) (Ev.now _)
        show Pl.escutcheonref14_Name.l0 (k + 1) u (i : Int) = _
        rw [Pl.escutcheonref14_Name.l0, if_pos (by omega), if_pos (by omega), hb]
        by_cases h1 : (u.data.toList.getD i 0).toNat < 33
        · rw [if_pos (by omega)]
        · rw [if_neg (by omega), if_pos (by omega)]
  exact key u.size 0 (by omega) (fun q hq => absurd hq (Nat.not_lt_zero q))

theorem glob_ev (p : ByteArray) (hs : p.size ≤ 100000) : Ev (fun k => Pl.escutcheonref14_Glob.f k p) (piecesB p).2 := by
  have e0 : (piecesB p).2 = ((piecesL p.data.toList).isSome && decide (p.size ≤ 40)) := by
    unfold piecesB
    by_cases h : 40 < p.size
    · rw [if_pos h, decide_eq_false (by omega), Bool.and_false]
    · rw [if_neg h, decide_eq_true (by omega), Bool.and_true]
      unfold piecesR
      cases piecesL p.data.toList <;> rfl
  rw [e0]
  have key : ∀ (d i : Nat), i + d = p.size → Ev (fun k => Pl.escutcheonref14_Glob.l0 k p (i : Int)) ((piecesL (p.data.toList.drop i)).isSome && decide (p.size ≤ 40)) := by
    intro d
    induction d using Nat.strongRecOn with
    | ind d ih =>
      intro i hi
      by_cases hd : d = 0
      · subst hd
        have : p.data.toList.drop i = [] := by rw [List.drop_eq_nil_iff, ← Lib.size_eq]; omega
        rw [this]
        refine Ev.step (f := fun _ => some (decide (p.size ≤ 40))) (fun k => ?_) ?_
        · show Pl.escutcheonref14_Glob.l0 (k + 1) p (i : Int) = _
          rw [Pl.escutcheonref14_Glob.l0, if_neg (by omega)]
          simp only [Option.some.injEq, decide_eq_decide]
          omega
        · simpa [piecesL] using Ev.now (decide (p.size ≤ 40))
      · have hlt : i < p.size := by omega
        have hll : i < p.data.toList.length := by rw [← Lib.size_eq]; exact hlt
        have hb := bt_get p i hlt
        rw [drop_cons _ _ hll]
        generalize p.data.toList.getD i 0 = c at hb
        have hw2 : wrap64 (((i + 1 : Nat) : Int) + 1) = ((i + 2 : Nat) : Int) := wrap1 (i + 1) (by omega)
        by_cases h92 : c.toNat = 92
        · by_cases hend : i + 1 = p.size
          · have : p.data.toList.drop (i + 1) = [] := by rw [List.drop_eq_nil_iff, ← Lib.size_eq]; omega
            rw [this, piecesL_end c h92]
            refine Ev.step (f := fun _ => some false) (fun k => ?_) (Ev.now _)
            show Pl.escutcheonref14_Glob.l0 (k + 1) p (i : Int) = _
            rw [Pl.escutcheonref14_Glob.l0, if_pos (by omega), if_pos (by omega), if_pos (by rw [hb, h92]; rfl), wrap1 i (by omega), if_pos (by omega)]
          · rw [drop_cons _ _ (show i + 1 < p.data.toList.length by rw [← Lib.size_eq]; omega), piecesL_quote _ _ _ h92]
            refine Ev.step (f := fun k => Pl.escutcheonref14_Glob.l0 k p ((i + 2 : Nat) : Int)) (fun k => ?_) ?_
            · show Pl.escutcheonref14_Glob.l0 (k + 1) p (i : Int) = _
              rw [Pl.escutcheonref14_Glob.l0, if_pos (by omega), if_pos (by omega), if_pos (by rw [hb, h92]; rfl), wrap1 i (by omega), if_neg (by omega), hw2]
            · have := ih (d - 2) (by omega) (i + 2) (by omega)
              rw [Option.isSome_map]
              exact this
        · have e1 : (piecesL (c :: p.data.toList.drop (i + 1))).isSome = (piecesL (p.data.toList.drop (i + 1))).isSome := by
            by_cases h : c.toNat = 42 ∨ c.toNat = 63
            · rw [piecesL_any _ _ h, Option.isSome_map]
            · rw [piecesL_plain _ _ h h92, Option.isSome_map]
          rw [e1]
          refine Ev.step (f := fun k => Pl.escutcheonref14_Glob.l0 k p ((i + 1 : Nat) : Int)) (fun k => ?_) (ih (d - 1) (by omega) (i + 1) (by omega))
          show Pl.escutcheonref14_Glob.l0 (k + 1) p (i : Int) = _
          rw [Pl.escutcheonref14_Glob.l0, if_pos (by omega), if_pos (by omega), if_neg (by rw [hb]; omega), wrap1 i (by omega)]
  have := key p.size 0 (by omega)
  rw [List.drop_zero] at this
  exact this

theorem rule_ev (x : Pa.S25) (h1 : x.f1.size ≤ 100000) (h3 : x.f3.size ≤ 100000) : Ev (fun k => Pl.escutcheonref14_Rule.f k x.f0 x.f1 x.f2 x.f3) (rightB x) := by
  have key : ∀ (d i : Nat), i + d = x.f3.size → noBl x.f3 i → Ev (fun k => Pl.escutcheonref14_Rule.l0 k (i : Int) x.f0 x.f1 x.f2 x.f3) (rightB x) := by
    intro d
    induction d with
    | zero =>
      intro i hi hq
      have hno : hasBlank x.f3 = false := hasBlank_no (by rw [← hi]; exact hq)
      refine Ev.step (f := fun k => (Pl.escutcheonref14_Name.f k x.f1).bind fun t109 => (if t109 = true then (if x.f2 ≥ 0 then (if x.f2 ≤ 3 then (if x.f3.toList = ([] : List UInt8) then (some false) else ((Pl.escutcheonref14_Glob.f k x.f3).bind fun t110 => (some t110))) else (some false)) else (some false)) else (some false))) (fun k => ?_) (Ev.bind (name_ev x.f1 h1) ?_)
      · show Pl.escutcheonref14_Rule.l0 (k + 1) (i : Int) x.f0 x.f1 x.f2 x.f3 = _
        rw [Pl.escutcheonref14_Rule.l0, if_neg (by omega)]
      · by_cases hn : (userB x.f1 && decide (1 ≤ x.f1.size) && decide (x.f1.size ≤ 20)) = true
        · have hn' := hn
          simp only [Bool.and_eq_true, decide_eq_true_eq] at hn'
          obtain ⟨⟨n1, n2⟩, n3⟩ := hn'
          by_cases c0 : 0 ≤ x.f2
          · by_cases c3 : x.f2 ≤ 3
            · by_cases hp : x.f3.toList = []
              · have e : rightB x = false := by
                  unfold rightB
                  rw [if_pos (.inr (.inr (ba_of (by rw [← Lib.toList_data]; exact hp))))]
                rw [e]
                exact Ev.congr (fun k => by rw [if_pos hn, if_pos c0, if_pos c3, if_pos hp]) (Ev.now _)
              · have e : rightB x = (piecesB x.f3).2 := by
                  unfold rightB
                  rw [if_neg, if_neg (by rw [hno]; decide), if_pos n1, if_pos ⟨c0, c3⟩]
                  rintro (h | h | h)
                  · omega
                  · omega
                  · exact hp (by rw [h, Lib.toList_data])
                rw [e]
                exact Ev.congr (fun k => by rw [if_pos hn, if_pos c0, if_pos c3, if_neg hp]) (Ev.bind (glob_ev x.f3 h3) (Ev.now _))
            · have e : rightB x = false := by
                cases er : rightB x with
                | false => rfl
                | true => exact absurd (ok_of er).c1 c3
              rw [e]
              exact Ev.congr (fun k => by rw [if_pos hn, if_pos c0, if_neg c3]) (Ev.now _)
          · have e : rightB x = false := by
              cases er : rightB x with
              | false => rfl
              | true => exact absurd (ok_of er).c0 c0
            rw [e]
            exact Ev.congr (fun k => by rw [if_pos hn, if_neg c0]) (Ev.now _)
        · have e : rightB x = false := by
            cases er : rightB x with
            | false => rfl
            | true =>
              have o := ok_of er
              exact absurd (by rw [o.ub, decide_eq_true o.u0, decide_eq_true o.u1]; rfl) hn
          rw [e]
          exact Ev.congr (fun k => by rw [if_neg hn]) (Ev.now _)
    | succ d ih =>
      intro i hi hq
      have hlt : i < x.f3.size := by omega
      have hb := bt_get x.f3 i hlt
      have hyes : (x.f3.data.toList.getD i 0 = 32 ∨ x.f3.data.toList.getD i 0 = 10) → rightB x = false := fun h => by
        cases er : rightB x with
        | false => rfl
        | true =>
          have := (ok_of er).pb
          rw [hasBlank_yes hlt (by rw [← getD_of x.f3 i hlt]; exact h)] at this
          cases this
      by_cases h32 : x.f3.data.toList.getD i 0 = 32
      · rw [hyes (.inl h32)]
        refine Ev.step (f := fun _ => some false) (fun k => ?_) (Ev.now _)
        show Pl.escutcheonref14_Rule.l0 (k + 1) (i : Int) x.f0 x.f1 x.f2 x.f3 = _
        rw [Pl.escutcheonref14_Rule.l0, if_pos (by omega), if_pos (by omega), hb, h32, if_pos (by decide)]
      · have n32 : ¬ (((x.f3.data.toList.getD i 0).toNat : Nat) : Int) = 32 := fun h => h32 (UInt8.toNat_inj.1 (by show _ = 32; omega))
        by_cases h10 : x.f3.data.toList.getD i 0 = 10
        · rw [hyes (.inr h10)]
          refine Ev.step (f := fun _ => some false) (fun k => ?_) (Ev.now _)
          show Pl.escutcheonref14_Rule.l0 (k + 1) (i : Int) x.f0 x.f1 x.f2 x.f3 = _
          rw [Pl.escutcheonref14_Rule.l0, if_pos (by omega), if_pos (by omega), hb, if_neg n32, h10, if_pos (by decide)]
        · have n10 : ¬ (((x.f3.data.toList.getD i 0).toNat : Nat) : Int) = 10 := fun h => h10 (UInt8.toNat_inj.1 (by show _ = 10; omega))
          refine Ev.step (f := fun k => Pl.escutcheonref14_Rule.l0 k ((i + 1 : Nat) : Int) x.f0 x.f1 x.f2 x.f3) (fun k => ?_) (ih (i + 1) (by omega) (fun q hq' => ?_))
          · show Pl.escutcheonref14_Rule.l0 (k + 1) (i : Int) x.f0 x.f1 x.f2 x.f3 = _
            rw [Pl.escutcheonref14_Rule.l0, if_pos (by omega), if_pos (by omega), hb, if_neg n32, if_neg n10, wrap1 i (by omega)]
          · by_cases e : q = i
            · subst e; exact ⟨h32, h10⟩
            · exact hq q (by omega)
  exact key x.f3.size 0 (by omega) (fun q hq => absurd hq (Nat.not_lt_zero q))
end RefA
end Go.Proofs.YthngjjeilcfhgaaDoor
