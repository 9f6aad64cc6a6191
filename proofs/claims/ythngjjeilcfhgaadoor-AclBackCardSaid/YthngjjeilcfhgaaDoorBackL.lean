/- AclBack: the plain law. -/
import Derived.Test.YthngjjeilcfhgaaDoorPq
import Derived.Test.YthngjjeilcfhgaaDoorAl
import Derived.Test.YthngjjeilcfhgaaDoorAc
set_option linter.unusedVariables false
namespace Go.Proofs.YthngjjeilcfhgaaDoor
open Go.RowKit Go.Proofs.YthngjjeilcfhgaaDoorW.PrintWords Go.Proofs.YthngjjeilcfhgaaDoorW.PrintLast
namespace Bck
open Acl
theorem alive_ev : Ev (fun k => Pb.escutcheonlaw18_alive.f k) true := Ev.of (fun k => Pb.escutcheonlaw18_alive.mono k) alive_true

theorem same_rules (l : List Pa.S25) (hn : l.length ≤ 100000) : Ev (fun k => Pq.escutcheonbook_SameRules.f k l l) true := by
  unfold Pq.escutcheonbook_SameRules.f
  refine Ev.congr (f := fun k => Pq.escutcheonbook_SameRules.l0 k l l 0) (fun k => by rw [if_pos rfl]) ?_
  refine same_ev l hn Pq.escutcheonbook_SameRules.l0 fun k i => ?_
  rw [Pq.escutcheonbook_SameRules.l0]
  by_cases h : (i : Int) < (l.length : Int)
  · rw [if_pos h, if_pos (by omega), if_pos h, if_pos (by simp), wrap1 i (by omega), if_pos h]
  · rw [if_neg h, if_neg h]

/-- The text of the law: a note, an empty line, the rules. -/
theorem back_lines (note : ByteArray) (l : List Pa.S25) (hl : ∀ x ∈ l, OkR x) (hn : (10 : UInt8) ∉ note.data.toList) :
    splitS (((⟨#[35]⟩ ++ note) ++ ⟨#[10, 10]⟩) ++ ⟨(textL l).toArray⟩) 10 = (⟨(35 :: note.data.toList).toArray⟩ :: ⟨#[]⟩ :: (l.map fun x => (⟨(lineL x).toArray⟩ : ByteArray))) ++ [⟨#[]⟩] := by
  rw [splitS_is]
  have e : ((((⟨#[35]⟩ : ByteArray) ++ note) ++ ⟨#[10, 10]⟩) ++ ⟨(textL l).toArray⟩).data.toList = (35 :: note.data.toList) ++ 10 :: ([] ++ 10 :: (textL l ++ [])) := by simp
  rw [e, partsAt_app _ _ _ (by
    intro h
    rcases List.mem_cons.1 h with h | h
    · exact absurd h (by decide)
    · exact hn h), partsAt_app _ _ _ (by simp), text_parts l hl]
  simp [partsAt]

theorem back_parse (note : ByteArray) (l : List Pa.S25) (hl : ∀ x ∈ l, OkR x) (hn : (10 : UInt8) ∉ note.data.toList) (h45 : l.length ≤ 45) (hsz : note.size ≤ 60) (ht : (textL l).length ≤ 4900) :
    Ev (fun k => Pb.acl_Parse.f k (((⟨#[35]⟩ ++ note) ++ ⟨#[10, 10]⟩) ++ ⟨(textL l).toArray⟩)) (if l.length ≤ 40 then (l, 0, true) else ([], 43, false)) := by
  have hsize : ((((⟨#[35]⟩ : ByteArray) ++ note) ++ ⟨#[10, 10]⟩) ++ ⟨(textL l).toArray⟩).size = note.size + 3 + (textL l).length := by
    rw [ByteArray.size_append, ByteArray.size_append, ByteArray.size_append, ba_size (textL l)]
    have e1 : (⟨#[35]⟩ : ByteArray).size = 1 := rfl
    have e2 : (⟨#[10, 10]⟩ : ByteArray).size = 2 := rfl
    omega
  unfold Pb.acl_Parse.f
  by_cases h5 : note.size + 3 + (textL l).length > 5000
  · omega
  refine Ev.congr (f := fun k => Pb.acl_Parse.l0 k [] (splitS (((⟨#[35]⟩ ++ note) ++ ⟨#[10, 10]⟩) ++ ⟨(textL l).toArray⟩) 10) ((splitS (((⟨#[35]⟩ ++ note) ++ ⟨#[10, 10]⟩) ++ ⟨(textL l).toArray⟩) 10).length : Int) ((0 : Nat) : Int)) (fun k => ?_) ?_
  · rw [if_neg (by omega), split_f _ _ (by omega), Option.bind_some]
    rfl
  rw [back_lines note l hl hn]
  generalize hL : (⟨(35 :: note.data.toList).toArray⟩ :: ⟨#[]⟩ :: (l.map fun x => (⟨(lineL x).toArray⟩ : ByteArray))) ++ [(⟨#[]⟩ : ByteArray)] = L
  have hlen : L.length = l.length + 3 := by rw [← hL]; simp
  have g0 : L[0]? = some ⟨(35 :: note.data.toList).toArray⟩ := by rw [← hL]; rfl
  have g1 : L[1]? = some ⟨#[]⟩ := by rw [← hL]; rfl
  have g2 : ∀ j (h : j < l.length), L[2 + j]? = some ⟨(lineL l[j]).toArray⟩ := by
    intro j h
    rw [← hL, List.getElem?_append_left (by simp; omega), Nat.add_comm]
    simp [h]
  have g3 : L[2 + l.length]? = some ⟨#[]⟩ := by
    rw [← hL, List.getElem?_append_right (by simp; omega)]
    simp only [List.length_cons, List.length_map]
    rw [show 2 + l.length - (l.length + 1 + 1) = 0 by omega]
    rfl
  obtain ⟨i0, e0⟩ := List.getElem?_eq_some_iff.1 g0
  obtain ⟨i1, e1⟩ := List.getElem?_eq_some_iff.1 g1
  obtain ⟨i3, e3⟩ := List.getElem?_eq_some_iff.1 g3
  refine parse_skip L (by omega) [] 0 i0 _ e0 (.inr ⟨_, rfl⟩) _ ?_
  refine parse_skip L (by omega) [] 1 i1 _ e1 (.inl rfl) _ ?_
  refine parse_rules L (by omega) l [] 2 hl (by simp) g2 _ ?_
  by_cases h40 : l.length ≤ 40
  · rw [if_neg (by simp; omega), if_pos h40, List.nil_append]
    refine parse_skip L (by omega) l (2 + l.length) i3 _ e3 (.inl rfl) _ ?_
    exact parse_end L l _ (by omega)
  · rw [if_pos (by simp; omega), if_neg h40]
    rfl

theorem back_pure (a0 : List Pa.S25) (a1 : ByteArray) (hp : ∀ x ∈ a0, x.f3.size ≤ 9223372036854775807) (h1 : a1.size ≤ 140737488351232) : ∃ k, Pq.escutcheonlaw18_AclBack.f k a0 a1 = some true := by
  apply Ev.rounds
  have hj : Ev (fun k => Pq.escutcheonlaw18_AclBack.j0 k a0 a1 true) true := by
    refine Ev.step (f := fun k => (Pb.escutcheonlaw18_alive.f k).bind fun t => some t) (fun k => ?_) (Ev.bind alive_ev (Ev.now _))
    show Pq.escutcheonlaw18_AclBack.j0 (k + 1) a0 a1 true = _
    rw [Pq.escutcheonlaw18_AclBack.j0, if_pos rfl]
  unfold Pq.escutcheonlaw18_AclBack.f
  by_cases c1 : (a0.length : Int) > 45
  · exact Ev.congr (fun k => by rw [if_pos c1]) hj
  by_cases c2 : (a1.size : Int) > 60
  · exact Ev.congr (fun k => by rw [if_neg c1, if_pos c2]) hj
  refine Ev.congr (f := fun k => (Pb.escutcheonlaw18_alive.f k).bind fun t => Pq.escutcheonlaw18_AclBack.j0 k a0 a1 (!t)) (fun k => by rw [if_neg c1, if_neg c2]) ?_
  refine Ev.bind alive_ev ?_
  refine Ev.step (f := fun k => Pq.escutcheonlaw18_AclBack.l0 k a0 a1 ((0 : Nat) : Int)) (fun k => ?_) ?_
  · show Pq.escutcheonlaw18_AclBack.j0 (k + 1) a0 a1 (!true) = _
    rw [Pq.escutcheonlaw18_AclBack.j0, if_neg (by decide)]
    rfl
  -- behind both loops
  have hend : (∀ x ∈ a0, OkR x) → (10 : UInt8) ∉ a1.data.toList → Ev (fun k => Pq.escutcheonlaw18_AclBack.l1 k a0 a1 (a1.size : Int)) true := by
    intro hok hno
    have hpr := print_f a0 hok (by omega)
    have htl := text_len a0 hok
    have hsz : (⟨(textL a0).toArray⟩ : ByteArray).size = (textL a0).length := ba_size _
    have hw : wrap64 (((textL a0).length : Int) + (a1.size : Int)) = (((textL a0).length + a1.size : Nat) : Int) := by
      rw [show ((textL a0).length : Int) + (a1.size : Int) = (((textL a0).length + a1.size : Nat) : Int) by omega]
      exact wrap_nat (by omega)
    by_cases hbig : (textL a0).length + a1.size > 4900
    · refine Ev.step (f := fun _ => some true) (fun k => ?_) (Ev.now _)
      show Pq.escutcheonlaw18_AclBack.l1 (k + 1) a0 a1 (a1.size : Int) = _
      rw [Pq.escutcheonlaw18_AclBack.l1, if_neg (by omega), hpr, Option.bind_some, hsz, hw, if_pos (by omega)]
    · have hparse := back_parse a1 a0 hok hno (by omega) (by omega) (by omega)
      refine Ev.step (f := fun k => (Pb.acl_Parse.f k (((⟨#[35]⟩ ++ a1) ++ ⟨#[10, 10]⟩) ++ ⟨(textL a0).toArray⟩)).bind fun bt113 => (if (a0.length : Int) > 40 then (if bt113.2.2 = true then (some false) else (some (bt113.2.1 == 43))) else (if bt113.2.2 = true then (if bt113.2.1 = 0 then ((Pq.escutcheonbook_SameRules.f k bt113.1 a0).bind fun t118 => (some t118)) else (some false)) else (some false)))) (fun k => ?_) ?_
      · show Pq.escutcheonlaw18_AclBack.l1 (k + 1) a0 a1 (a1.size : Int) = _
        rw [Pq.escutcheonlaw18_AclBack.l1, if_neg (by omega), hpr, Option.bind_some, hsz, hw, if_neg (by omega), if_pos (by omega), if_pos (by show 1 + a1.size + 2 ≤ _; omega), if_pos (by show 1 + a1.size + 2 + (textL a0).length ≤ _; omega)]
      · refine Ev.bind hparse ?_
        by_cases h40 : a0.length ≤ 40
        · rw [if_pos h40]
          refine Ev.congr (fun k => ?_) (Ev.bind (same_rules a0 (by omega)) (Ev.now _))
          rw [if_neg (by omega), if_pos rfl, if_pos rfl]
        · rw [if_neg h40]
          refine Ev.congr (fun k => ?_) (Ev.now _)
          rw [if_pos (by omega), if_neg (by decide)]
          rfl
  have hnote : (∀ x ∈ a0, OkR x) → ∀ (d i : Nat), i + d = a1.size → (∀ q, q < i → a1.data.toList.getD q 0 ≠ 10) → Ev (fun k => Pq.escutcheonlaw18_AclBack.l1 k a0 a1 (i : Int)) true := by
    intro hok d
    induction d with
    | zero =>
      intro i hi hq
      obtain rfl : i = a1.size := by omega
      refine hend hok fun hm => ?_
      obtain ⟨j, hj, he⟩ := List.getElem_of_mem hm
      have hjs : j < a1.size := by rw [Lib.size_eq]; exact hj
      have := hq j hjs
      rw [List.getD_eq_getElem?_getD, List.getElem?_eq_getElem hj] at this
      exact this he
    | succ d ih =>
      intro i hi hq
      have hlt : i < a1.size := by omega
      have hb := bt_get a1 i hlt
      by_cases h10 : a1.data.toList.getD i 0 = 10
      · refine Ev.step (f := fun _ => some true) (fun k => ?_) (Ev.now _)
        show Pq.escutcheonlaw18_AclBack.l1 (k + 1) a0 a1 (i : Int) = _
        rw [Pq.escutcheonlaw18_AclBack.l1, if_pos (by omega), if_pos (by omega), hb, h10, if_pos (by decide)]
      · refine Ev.step (f := fun k => Pq.escutcheonlaw18_AclBack.l1 k a0 a1 ((i + 1 : Nat) : Int)) (fun k => ?_) (ih (i + 1) (by omega) (fun q hq' => ?_))
        · show Pq.escutcheonlaw18_AclBack.l1 (k + 1) a0 a1 (i : Int) = _
          have hne : ¬ (((a1.data.toList.getD i 0).toNat : Nat) : Int) = 10 := by
            intro h
            exact h10 (UInt8.toNat_inj.1 (by show _ = 10; omega))
          rw [Pq.escutcheonlaw18_AclBack.l1, if_pos (by omega), if_pos (by omega), hb, if_neg hne, wrap1 i (by omega)]
        · by_cases e : q = i
          · subst e; exact h10
          · exact hq q (by omega)
  have hloop : ∀ (d i : Nat), i + d = a0.length → (∀ q (h : q < a0.length), q < i → OkR a0[q]) → Ev (fun k => Pq.escutcheonlaw18_AclBack.l0 k a0 a1 (i : Int)) true := by
    intro d
    induction d with
    | zero =>
      intro i hi hq
      have hok : ∀ x ∈ a0, OkR x := by
        intro x hx
        obtain ⟨j, hj, rfl⟩ := List.getElem_of_mem hx
        exact hq j hj (by omega)
      refine Ev.step (f := fun k => Pq.escutcheonlaw18_AclBack.l1 k a0 a1 ((0 : Nat) : Int)) (fun k => ?_) (hnote hok a1.size 0 (by omega) (fun q h => absurd h (Nat.not_lt_zero q)))
      show Pq.escutcheonlaw18_AclBack.l0 (k + 1) a0 a1 (i : Int) = _
      rw [Pq.escutcheonlaw18_AclBack.l0, if_neg (by omega)]
      rfl
    | succ d ih =>
      intro i hi hq
      have hlt : i < a0.length := by omega
      have hrd : Pa.rd_T25 a0 (i : Int) = a0[i] := by simp [Pa.rd_T25, List.getD, hlt]
      have hr := right_ev a0[i] (hp _ (List.getElem_mem hlt))
      refine Ev.step (f := fun k => (acl_Right.f k a0[i].f0 a0[i].f1 a0[i].f2 a0[i].f3).bind fun t => if t = true then Pq.escutcheonlaw18_AclBack.l0 k a0 a1 ((i + 1 : Nat) : Int) else some true) (fun k => ?_) (Ev.bind hr ?_)
      · show Pq.escutcheonlaw18_AclBack.l0 (k + 1) a0 a1 (i : Int) = _
        rw [Pq.escutcheonlaw18_AclBack.l0, if_pos (by omega), if_pos (by omega), hrd, wrap1 i (by omega)]
      · by_cases h : rightB a0[i] = true
        · refine Ev.congr (fun k => by rw [if_pos h]) (ih (i + 1) (by omega) (fun q hq1 hq2 => ?_))
          by_cases e : q = i
          · subst e; exact ok_of h
          · exact hq q hq1 (by omega)
        · exact Ev.congr (fun k => by rw [if_neg h]) (Ev.now _)
  exact hloop a0.length 0 (by omega) (fun q h hq => absurd hq (Nat.not_lt_zero q))

theorem back_walk (A0 : Option Addr) (c0 : Nat) (a0 : List Pa.S25) (a1 : ByteArray) (W : World) (hL : Laid W) (b0 : (Kd.C Pa.k25 W A0 a0.length a0 ∧ a0.length ≤ c0) ∧ ∀ x ∈ a0, x.f1.size ≤ maxLen ∧ x.f3.size ≤ maxLen) (b1 : a1.size ≤ 140737488351232) :
    Calls Tryd.prog 4 #[.slice A0 a0.length c0, .string a1] W fun e w' => e = .returned (.bool true) ∧ Below W.heap.size W w' := by
  obtain ⟨k, hk⟩ := back_pure a0 a1 (fun x hx => (b0.2 x hx).2) b1
  exact Pq.escutcheonlaw18_AclBack.calls k A0 c0 a0 a1 true W b0.1.1 b0.1.2 hk hL
end Bck
end Go.Proofs.YthngjjeilcfhgaaDoor
