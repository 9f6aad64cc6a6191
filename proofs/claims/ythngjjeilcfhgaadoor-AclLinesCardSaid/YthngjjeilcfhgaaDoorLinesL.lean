/- AclLines: the plain law. -/
import Derived.Test.YthngjjeilcfhgaaDoorRef2
import Derived.Test.YthngjjeilcfhgaaDoorAl
set_option linter.unusedVariables false
namespace Go.Proofs.YthngjjeilcfhgaaDoor
open Go.RowKit Go.Proofs.YthngjjeilcfhgaaDoorW.PrintWords Go.Proofs.YthngjjeilcfhgaaDoorW.PrintLast
namespace Lin
open Acl Ref
theorem alive_ev : Ev (fun k => Pb.escutcheonlaw18_alive.f k) true := Ev.of (fun k => Pb.escutcheonlaw18_alive.mono k) alive_true
theorem same_rules (l : List Pa.S25) (hn : l.length ≤ 100000) : Ev (fun k => Pl.escutcheonbook_SameRules.f k l l) true := by
  unfold Pl.escutcheonbook_SameRules.f
  refine Ev.congr (f := fun k => Pl.escutcheonbook_SameRules.l0 k l l 0) (fun k => by rw [if_pos rfl]) ?_
  refine same_ev l hn Pl.escutcheonbook_SameRules.l0 fun k i => ?_
  rw [Pl.escutcheonbook_SameRules.l0]
  by_cases h : (i : Int) < (l.length : Int)
  · rw [if_pos h, if_pos (by omega), if_pos h, if_pos (by simp), wrap1 i (by omega), if_pos h]
  · rw [if_neg h, if_neg h]

theorem mod_at (a : Int) (n : Nat) (hn : n ≤ 20) : ∃ k : Nat, k ≤ n ∧ Int.tmod (wrap64 ((wrap64 ((Int.tmod a (wrap64 ((n : Int) + 1))) + (n : Int))) + 1)) (wrap64 ((n : Int) + 1)) = (k : Int) := by
  have hw : wrap64 ((n : Int) + 1) = ((n + 1 : Nat) : Int) := wrap1 n (by omega)
  rw [hw]
  have h1 := Int.tmod_lt_of_pos a (show (0 : Int) < ((n + 1 : Nat) : Int) by omega)
  have h2 := Int.lt_tmod_of_pos a (show (0 : Int) < ((n + 1 : Nat) : Int) by omega)
  generalize Int.tmod a ((n + 1 : Nat) : Int) = t at h1 h2
  have hw1 : wrap64 (t + (n : Int)) = t + n := by unfold wrap64; omega
  have hw2 : wrap64 (t + (n : Int) + 1) = t + n + 1 := by unfold wrap64; omega
  rw [hw1, hw2]
  have h3 := Int.tmod_lt_of_pos (t + n + 1) (show (0 : Int) < ((n + 1 : Nat) : Int) by omega)
  have h4 := Int.tmod_nonneg ((n + 1 : Nat) : Int) (show 0 ≤ t + n + 1 by omega)
  exact ⟨(Int.tmod (t + n + 1) ((n + 1 : Nat) : Int)).toNat, by omega, by omega⟩

theorem parse_all (l : List Pa.S25) (hl : ∀ x ∈ l, OkR x) (h40 : l.length ≤ 40) : Ev (fun k => Pb.acl_Parse.f k ⟨(textL l).toArray⟩) (l, 0, true) := by
  have ht := text_len l hl
  have hlines : splitS ⟨(textL l).toArray⟩ 10 = (l.map fun x => (⟨(lineL x).toArray⟩ : ByteArray)) ++ [⟨#[]⟩] := by
    rw [splitS_is]
    have e : (⟨(textL l).toArray⟩ : ByteArray).data.toList = textL l ++ [] := by simp
    rw [e, text_parts l hl]
    simp [partsAt]
  unfold Pb.acl_Parse.f
  refine Ev.congr (f := fun k => Pb.acl_Parse.l0 k [] (splitS ⟨(textL l).toArray⟩ 10) ((splitS ⟨(textL l).toArray⟩ 10).length : Int) ((0 : Nat) : Int)) (fun k => ?_) ?_
  · rw [if_neg (by rw [ba_size]; omega), split_f _ _ (by rw [ba_size]; omega), Option.bind_some]
    rfl
  rw [hlines]
  generalize hL : (l.map fun x => (⟨(lineL x).toArray⟩ : ByteArray)) ++ [(⟨#[]⟩ : ByteArray)] = L
  have hlen : L.length = l.length + 1 := by rw [← hL]; simp
  have g2 : ∀ j (h : j < l.length), L[0 + j]? = some ⟨(lineL l[j]).toArray⟩ := by
    intro j h
    rw [← hL, List.getElem?_append_left (by simp; omega)]
    simp [h]
  have g3 : L[0 + l.length]? = some ⟨#[]⟩ := by
    rw [← hL, List.getElem?_append_right (by simp)]
    simp
  obtain ⟨i3, e3⟩ := List.getElem?_eq_some_iff.1 g3
  refine parse_rules L (by omega) l [] 0 hl (by simp) g2 _ ?_
  rw [if_neg (by simp; omega), List.nil_append]
  refine parse_skip L (by omega) l (0 + l.length) i3 _ e3 (.inl rfl) _ ?_
  exact parse_end L l _ (by omega)

theorem parse_bad (l1 l2 : List Pa.S25) (h1 : ∀ x ∈ l1, OkR x) (h2 : ∀ x ∈ l2, OkR x) (hn : l1.length + l2.length ≤ 20) (bad : ByteArray) (hs : bad.size ≤ 60) (c : UInt8) (q : List UInt8) (hc : bad.data.toList = c :: q) (h35 : c ≠ 35) (h10 : (10 : UInt8) ∉ bad.data.toList) (hno : lineOk bad = false) :
    Ev (fun k => Pb.acl_Parse.f k (((⟨(textL l1).toArray⟩ ++ bad) ++ ⟨#[10]⟩) ++ ⟨(textL l2).toArray⟩)) ([], ((l1.length + 1 : Nat) : Int), false) := by
  have t1 := text_len l1 h1
  have t2 := text_len l2 h2
  have hsize : ((((⟨(textL l1).toArray⟩ : ByteArray) ++ bad) ++ ⟨#[10]⟩) ++ ⟨(textL l2).toArray⟩).size = (textL l1).length + bad.size + 1 + (textL l2).length := by
    rw [ByteArray.size_append, ByteArray.size_append, ByteArray.size_append, ba_size (textL l1), ba_size (textL l2)]
    rfl
  have hlines : splitS (((⟨(textL l1).toArray⟩ ++ bad) ++ ⟨#[10]⟩) ++ ⟨(textL l2).toArray⟩) 10 = (l1.map fun x => (⟨(lineL x).toArray⟩ : ByteArray)) ++ bad :: ((l2.map fun x => (⟨(lineL x).toArray⟩ : ByteArray)) ++ [⟨#[]⟩]) := by
    rw [splitS_is]
    have e : ((((⟨(textL l1).toArray⟩ : ByteArray) ++ bad) ++ ⟨#[10]⟩) ++ ⟨(textL l2).toArray⟩).data.toList = textL l1 ++ (bad.data.toList ++ 10 :: (textL l2 ++ [])) := by simp
    rw [e, text_parts l1 h1, partsAt_app _ _ _ h10, text_parts l2 h2]
    simp [partsAt]
    rfl
  unfold Pb.acl_Parse.f
  refine Ev.congr (f := fun k => Pb.acl_Parse.l0 k [] (splitS (((⟨(textL l1).toArray⟩ ++ bad) ++ ⟨#[10]⟩) ++ ⟨(textL l2).toArray⟩) 10) ((splitS (((⟨(textL l1).toArray⟩ ++ bad) ++ ⟨#[10]⟩) ++ ⟨(textL l2).toArray⟩) 10).length : Int) ((0 : Nat) : Int)) (fun k => ?_) ?_
  · rw [if_neg (by omega), split_f _ _ (by omega), Option.bind_some]
    rfl
  rw [hlines]
  generalize hL : (l1.map fun x => (⟨(lineL x).toArray⟩ : ByteArray)) ++ bad :: ((l2.map fun x => (⟨(lineL x).toArray⟩ : ByteArray)) ++ [(⟨#[]⟩ : ByteArray)]) = L
  have hlen : L.length = l1.length + l2.length + 2 := by rw [← hL]; simp; omega
  have g2 : ∀ j (h : j < l1.length), L[0 + j]? = some ⟨(lineL l1[j]).toArray⟩ := by
    intro j h
    rw [← hL, List.getElem?_append_left (by simp; omega)]
    simp [h]
  have g3 : L[0 + l1.length]? = some bad := by
    rw [← hL, List.getElem?_append_right (by simp)]
    simp
  obtain ⟨i3, e3⟩ := List.getElem?_eq_some_iff.1 g3
  obtain ⟨x, hx⟩ := read_ev bad (by omega)
  rw [hno] at hx
  refine parse_rules L (by omega) l1 [] 0 h1 (by simp) g2 _ ?_
  rw [if_neg (by simp; omega), List.nil_append]
  refine parse_read L (by omega) l1 (0 + l1.length) i3 _ e3 c q hc h35 x false hx (by omega) _ ?_
  rw [if_neg (by decide)]
  simp

theorem lines_end (a0 : List Pa.S25) (a1 : Int) (a2 : ByteArray) (c1 : ¬ (a0.length : Int) > 20) (c2 : ¬ (a2.size : Int) > 60) (c : UInt8) (q : List UInt8) (hc : a2.data.toList = c :: q) (h35 : c ≠ 35) (hok : ∀ x ∈ a0, OkR x) (hno : (10 : UInt8) ∉ a2.data.toList) : Ev (fun k => Pl.escutcheonlaw18_AclLines.l1 k a0 a1 a2 (a2.size : Int)) true := by
  obtain ⟨rl, rn, hrules⟩ := rules_line a2 (by omega) c q hc h35 hno
  obtain ⟨kk, hkk, hM⟩ := mod_at a1 a0.length (by omega)
  have hk1 : ∀ x ∈ a0.take kk, OkR x := fun x hx => hok x (List.mem_of_mem_take hx)
  have hk2 : ∀ x ∈ a0.drop kk, OkR x := fun x hx => hok x (List.mem_of_mem_drop hx)
  have p1 := print_f (a0.take kk) hk1 (by rw [List.length_take]; omega)
  have p2 := print_f (a0.drop kk) hk2 (by rw [List.length_drop]; omega)
  have p0 := print_f a0 hok (by omega)
  have t1 := text_len (a0.take kk) hk1
  have t2 := text_len (a0.drop kk) hk2
  have n1 : (a0.take kk).length = kk := by rw [List.length_take]; omega
  have n2 : (a0.drop kk).length = a0.length - kk := List.length_drop
  have hw : wrap64 ((a0.length : Int) + 1) = ((a0.length + 1 : Nat) : Int) := wrap1 _ (by omega)
  have z1 : (⟨(textL (a0.take kk)).toArray⟩ : ByteArray).size = (textL (a0.take kk)).length := ba_size _
  have z2 : (⟨(textL (a0.drop kk)).toArray⟩ : ByteArray).size = (textL (a0.drop kk)).length := ba_size _
  refine Ev.step (f := fun k => (Pl.escutcheonref14_Rules.f k a2).bind fun bt149 => (if bt149.2.2 = true then (some true) else ((Pb.acl_Parse.f k (((⟨(textL (a0.take kk)).toArray⟩ ++ a2) ++ ⟨#[10]⟩) ++ ⟨(textL (a0.drop kk)).toArray⟩)).bind fun bt164 => ((Pb.acl_Parse.f k ⟨(textL a0).toArray⟩).bind fun bt170 => (if bt164.2.2 = true then (some false) else (if bt164.2.1 = ((kk + 1 : Nat) : Int) then (if (bt164.1.length : Int) = 0 then (if bt170.2.2 = true then ((Pl.escutcheonbook_SameRules.f k bt170.1 a0).bind fun t175 => (some t175)) else (some false)) else (some false)) else (some false))))))) (fun k => ?_) (Ev.bind hrules ?_)
  · show Pl.escutcheonlaw18_AclLines.l1 (k + 1) a0 a1 a2 (a2.size : Int) = _
    rw [Pl.escutcheonlaw18_AclLines.l1, if_neg (by omega), hM]
    rw [Int.toNat_natCast, p1, p2, p0]
    simp only [Option.bind_some]
    rw [wrap1 kk (by omega), hw]
    have q1 : ¬ (((a0.length + 1 : Nat) : Int) = 0) := by omega
    have q2 : (0 : Int) ≤ (kk : Int) := by omega
    have q3 : (kk : Int) ≤ (a0.length : Int) := by omega
    have q4 : (⟨(textL (a0.take kk)).toArray⟩ : ByteArray).size + a2.size ≤ 9223372036854775807 := by omega
    have q5 : (⟨(textL (a0.take kk)).toArray⟩ : ByteArray).size + a2.size + 1 ≤ 9223372036854775807 := by omega
    have q6 : (⟨(textL (a0.take kk)).toArray⟩ : ByteArray).size + a2.size + 1 + (⟨(textL (a0.drop kk)).toArray⟩ : ByteArray).size ≤ 9223372036854775807 := by omega
    simp only [if_neg q1, if_pos q2, if_pos q3, if_pos q4, if_pos q5, if_pos q6]
  · by_cases hl : lineOk a2 = true
    · exact Ev.congr (fun k => by rw [if_pos hl]) (Ev.now _)
    · have hl' : lineOk a2 = false := by simpa using hl
      have hb := parse_bad (a0.take kk) (a0.drop kk) hk1 hk2 (by omega) a2 (by omega) c q hc h35 hno hl'
      rw [n1] at hb
      refine Ev.congr (fun k => by rw [if_neg hl]) (Ev.bind hb (Ev.bind (parse_all a0 hok (by omega)) ?_))
      refine Ev.congr (fun k => ?_) (Ev.bind (same_rules a0 (by omega)) (Ev.now _))
      rw [if_neg (show ¬ (false = true) by decide), if_pos rfl, if_pos (by simp), if_pos rfl]

theorem lines_pure (a0 : List Pa.S25) (a1 : Int) (a2 : ByteArray) (hp : ∀ x ∈ a0, x.f3.size ≤ 9223372036854775807) (h2 : a2.size ≤ 140737488351232) : ∃ k, Pl.escutcheonlaw18_AclLines.f k a0 a1 a2 = some true := by
  apply Ev.rounds
  have hj : Ev (fun k => Pl.escutcheonlaw18_AclLines.j0 k a0 a1 a2 true) true := by
    refine Ev.step (f := fun k => (Pb.escutcheonlaw18_alive.f k).bind fun t => some t) (fun k => ?_) (Ev.bind alive_ev (Ev.now _))
    show Pl.escutcheonlaw18_AclLines.j0 (k + 1) a0 a1 a2 true = _
    rw [Pl.escutcheonlaw18_AclLines.j0, if_pos rfl]
  unfold Pl.escutcheonlaw18_AclLines.f
  by_cases c1 : (a0.length : Int) > 20
  · exact Ev.congr (fun k => by rw [if_pos c1]) hj
  by_cases c2 : (a2.size : Int) > 60
  · exact Ev.congr (fun k => by rw [if_neg c1, if_pos c2]) hj
  by_cases c3 : a2.toList = []
  · exact Ev.congr (fun k => by rw [if_neg c1, if_neg c2, if_pos c3]) hj
  obtain ⟨c, q, hc⟩ : ∃ c q, a2.data.toList = c :: q := by
    cases e : a2.data.toList with
    | nil => exact absurd (by rw [Lib.toList_data]; exact e) c3
    | cons c q => exact ⟨c, q, rfl⟩
  have c4 : 0 < (a2.size : Int) := by
    have : 0 < a2.size := by rw [Lib.size_eq, hc]; simp
    omega
  have hb0 : bt a2 0 = (c.toNat : Int) := by
    have := bt_get a2 0 (by omega)
    rw [hc] at this
    exact this
  by_cases c5 : bt a2 0 = 35
  · exact Ev.congr (fun k => by rw [if_neg c1, if_neg c2, if_neg c3, if_pos c4, if_pos c5]) hj
  have h35 : c ≠ 35 := fun e => c5 (by rw [hb0, e]; rfl)
  refine Ev.congr (f := fun k => (Pb.escutcheonlaw18_alive.f k).bind fun t => Pl.escutcheonlaw18_AclLines.j0 k a0 a1 a2 (!t)) (fun k => by rw [if_neg c1, if_neg c2, if_neg c3, if_pos c4, if_neg c5]) ?_
  refine Ev.bind alive_ev ?_
  refine Ev.step (f := fun k => Pl.escutcheonlaw18_AclLines.l0 k a0 a1 a2 ((0 : Nat) : Int)) (fun k => ?_) ?_
  · show Pl.escutcheonlaw18_AclLines.j0 (k + 1) a0 a1 a2 (!true) = _
    rw [Pl.escutcheonlaw18_AclLines.j0, if_neg (by decide)]
    rfl
  have hend : (∀ x ∈ a0, OkR x) → (10 : UInt8) ∉ a2.data.toList → Ev (fun k => Pl.escutcheonlaw18_AclLines.l1 k a0 a1 a2 (a2.size : Int)) true := fun hok hno => lines_end a0 a1 a2 c1 c2 c q hc h35 hok hno
  have hnote : (∀ x ∈ a0, OkR x) → ∀ (d i : Nat), i + d = a2.size → (∀ q, q < i → a2.data.toList.getD q 0 ≠ 10) → Ev (fun k => Pl.escutcheonlaw18_AclLines.l1 k a0 a1 a2 (i : Int)) true := by
    intro hok d
    induction d with
    | zero =>
      intro i hi hq
      obtain rfl : i = a2.size := by omega
      refine hend hok fun hm => ?_
      obtain ⟨j, hj, he⟩ := List.getElem_of_mem hm
      have hjs : j < a2.size := by rw [Lib.size_eq]; exact hj
      have := hq j hjs
      rw [List.getD_eq_getElem?_getD, List.getElem?_eq_getElem hj] at this
      exact this he
    | succ d ih =>
      intro i hi hq
      have hlt : i < a2.size := by omega
      have hb := bt_get a2 i hlt
      by_cases h10 : a2.data.toList.getD i 0 = 10
      · refine Ev.step (f := fun _ => some true) (fun k => ?_) (Ev.now _)
        show Pl.escutcheonlaw18_AclLines.l1 (k + 1) a0 a1 a2 (i : Int) = _
        rw [Pl.escutcheonlaw18_AclLines.l1, if_pos (by omega), if_pos (by omega), hb, h10, if_pos (by decide)]
      · refine Ev.step (f := fun k => Pl.escutcheonlaw18_AclLines.l1 k a0 a1 a2 ((i + 1 : Nat) : Int)) (fun k => ?_) (ih (i + 1) (by omega) (fun q hq' => ?_))
        · show Pl.escutcheonlaw18_AclLines.l1 (k + 1) a0 a1 a2 (i : Int) = _
          have hne : ¬ (((a2.data.toList.getD i 0).toNat : Nat) : Int) = 10 := by
            intro h
            exact h10 (UInt8.toNat_inj.1 (by show _ = 10; omega))
          rw [Pl.escutcheonlaw18_AclLines.l1, if_pos (by omega), if_pos (by omega), hb, if_neg hne, wrap1 i (by omega)]
        · by_cases e : q = i
          · subst e; exact h10
          · exact hq q (by omega)
  have hloop : ∀ (d i : Nat), i + d = a0.length → (∀ q (h : q < a0.length), q < i → OkR a0[q]) → Ev (fun k => Pl.escutcheonlaw18_AclLines.l0 k a0 a1 a2 (i : Int)) true := by
    intro d
    induction d with
    | zero =>
      intro i hi hq
      have hok : ∀ x ∈ a0, OkR x := by
        intro x hx
        obtain ⟨j, hj, rfl⟩ := List.getElem_of_mem hx
        exact hq j hj (by omega)
      refine Ev.step (f := fun k => Pl.escutcheonlaw18_AclLines.l1 k a0 a1 a2 ((0 : Nat) : Int)) (fun k => ?_) (hnote hok a2.size 0 (by omega) (fun q h => absurd h (Nat.not_lt_zero q)))
      show Pl.escutcheonlaw18_AclLines.l0 (k + 1) a0 a1 a2 (i : Int) = _
      rw [Pl.escutcheonlaw18_AclLines.l0, if_neg (by omega)]
      rfl
    | succ d ih =>
      intro i hi hq
      have hlt : i < a0.length := by omega
      have hrd : Pa.rd_T25 a0 (i : Int) = a0[i] := by simp [Pa.rd_T25, List.getD, hlt]
      have hr := right_ev a0[i] (hp _ (List.getElem_mem hlt))
      refine Ev.step (f := fun k => (acl_Right.f k a0[i].f0 a0[i].f1 a0[i].f2 a0[i].f3).bind fun t => if t = true then Pl.escutcheonlaw18_AclLines.l0 k a0 a1 a2 ((i + 1 : Nat) : Int) else some true) (fun k => ?_) (Ev.bind hr ?_)
      · show Pl.escutcheonlaw18_AclLines.l0 (k + 1) a0 a1 a2 (i : Int) = _
        rw [Pl.escutcheonlaw18_AclLines.l0, if_pos (by omega), if_pos (by omega), hrd, wrap1 i (by omega)]
      · by_cases h : rightB a0[i] = true
        · refine Ev.congr (fun k => by rw [if_pos h]) (ih (i + 1) (by omega) (fun q hq1 hq2 => ?_))
          by_cases e : q = i
          · subst e; exact ok_of h
          · exact hq q hq1 (by omega)
        · exact Ev.congr (fun k => by rw [if_neg h]) (Ev.now _)
  exact hloop a0.length 0 (by omega) (fun q h hq => absurd hq (Nat.not_lt_zero q))

theorem lines_walk (A0 : Option Addr) (c0 : Nat) (a0 : List Pa.S25) (a1 : Int) (a2 : ByteArray) (W : World) (hL : Laid W) (b0 : (Kd.C Pa.k25 W A0 a0.length a0 ∧ a0.length ≤ c0) ∧ ∀ x ∈ a0, x.f1.size ≤ maxLen ∧ x.f3.size ≤ maxLen) (b1 : -9223372036854775808 ≤ a1 ∧ a1 ≤ 9223372036854775807) (b2 : a2.size ≤ 140737488351232) :
    Calls Tryd.prog 7 #[.slice A0 a0.length c0, .int .i64 a1, .string a2] W fun e w' => e = .returned (.bool true) ∧ Below W.heap.size W w' := by
  obtain ⟨k, hk⟩ := lines_pure a0 a1 a2 (fun x hx => (b0.2 x hx).2) b2
  exact Pl.escutcheonlaw18_AclLines.calls k A0 c0 a0 a1 a2 true W b0.1.1 b0.1.2 hk hL
end Lin
end Go.Proofs.YthngjjeilcfhgaaDoor
