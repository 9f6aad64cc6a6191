/- AclTells: the plain law. -/
import Derived.Test.YthngjjeilcfhgaaDoorPt
import Derived.Test.YthngjjeilcfhgaaDoorRm
import Derived.Test.YthngjjeilcfhgaaDoorAl
set_option linter.unusedVariables false
namespace Go.Proofs.YthngjjeilcfhgaaDoor
open Go.RowKit Go.Proofs.YthngjjeilcfhgaaDoorW.PrintWords Go.Proofs.YthngjjeilcfhgaaDoorW.PrintLast
namespace Tel
open Acl RefA

theorem rfits_ev (x : Pa.S25) (user : ByteArray) (cl : Int) (key : ByteArray) (h3 : x.f3.size ≤ 100000) (hs : key.size ≤ 140737488351232) : Ev (fun k => Pt.escutcheonref14_Fits.f k x.f0 x.f1 x.f2 x.f3 user cl key) (fitsB x user cl key) := by
  have hm : Ev (fun k => (Pl.escutcheonref14_Glob.f k x.f3).bind fun t => (if t = true then ((Pt.escutcheonref14_Match.f k x.f3 key).bind fun t1 => (some t1)) else (some false))) (globB x.f3 key) := by
    refine Ev.bind (glob_ev x.f3 h3) ?_
    by_cases hg : (piecesB x.f3).2 = true
    · exact Ev.congr (fun k => by rw [if_pos hg]) (Ev.bind (rmatch_ev x.f3 key hs hg) (Ev.now _))
    · have e : globB x.f3 key = false := by unfold globB; rw [if_neg hg]
      rw [e]
      exact Ev.congr (fun k => by rw [if_neg hg]) (Ev.now _)
  unfold Pt.escutcheonref14_Fits.f fitsB
  by_cases h1 : x.f1.toList = user.toList
  · by_cases h2 : x.f2 = cl
    · rw [if_pos ⟨.inl h1, .inl h2⟩]
      exact Ev.congr (fun k => by rw [if_pos h1, if_pos h2]) hm
    · by_cases h3 : x.f2 = 0
      · rw [if_pos ⟨.inl h1, .inr h3⟩]
        exact Ev.congr (fun k => by rw [if_pos h1, if_neg h2, if_pos h3]) hm
      · rw [if_neg (fun h => h.2.elim h2 h3)]
        exact Ev.congr (fun k => by rw [if_pos h1, if_neg h2, if_neg h3]) (Ev.now _)
  · by_cases h4 : x.f1.toList = [42]
    · by_cases h2 : x.f2 = cl
      · rw [if_pos ⟨.inr h4, .inl h2⟩]
        exact Ev.congr (fun k => by rw [if_neg h1, if_pos h4, if_pos h2]) hm
      · by_cases h3 : x.f2 = 0
        · rw [if_pos ⟨.inr h4, .inr h3⟩]
          exact Ev.congr (fun k => by rw [if_neg h1, if_pos h4, if_neg h2, if_pos h3]) hm
        · rw [if_neg (fun h => h.2.elim h2 h3)]
          exact Ev.congr (fun k => by rw [if_neg h1, if_pos h4, if_neg h2, if_neg h3]) (Ev.now _)
    · rw [if_neg (fun h => h.1.elim h1 h4)]
      exact Ev.congr (fun k => by rw [if_neg h1, if_neg h4]) (Ev.now _)

theorem rdecide_ev (l : List Pa.S25) (hl : l.length ≤ 100000) (h3 : ∀ x ∈ l, x.f3.size ≤ 100000) (user : ByteArray) (cl : Int) (key : ByteArray) (hs : key.size ≤ 140737488351232) : Ev (fun k => Pt.escutcheonref14_Decide.f k l user cl key) (decideL user cl key l 0) := by
  have key1 : ∀ (d j : Nat), j + d = l.length → Ev (fun k => Pt.escutcheonref14_Decide.l0 k l user cl key (j : Int)) (decideL user cl key (l.drop j) j) := by
    intro d
    induction d with
    | zero =>
      intro j hj
      rw [List.drop_of_length_le (by omega)]
      refine Ev.step (f := fun _ => some (false, (-1 : Int))) (fun k => ?_) (Ev.now _)
      show Pt.escutcheonref14_Decide.l0 (k + 1) l user cl key (j : Int) = _
      rw [Pt.escutcheonref14_Decide.l0, if_neg (by omega)]
    | succ d ih =>
      intro j hj
      have hlt : j < l.length := by omega
      have hr : Pa.rd_T25 l (j : Int) = l[j] := by simp [Pa.rd_T25, List.getD, hlt]
      have hwj := wrapS j (by omega)
      rw [List.drop_eq_getElem_cons hlt]
      refine Ev.step (f := fun k => (Pt.escutcheonref14_Fits.f k l[j].f0 l[j].f1 l[j].f2 l[j].f3 user cl key).bind fun t => (if t = true then (some (l[j].f0, (j : Int))) else (Pt.escutcheonref14_Decide.l0 k l user cl key ((j + 1 : Nat) : Int)))) (fun k => ?_) ?_
      · show Pt.escutcheonref14_Decide.l0 (k + 1) l user cl key (j : Int) = _
        rw [Pt.escutcheonref14_Decide.l0, if_pos (by omega), if_pos (by omega), hr, hwj]
      · refine Ev.bind (rfits_ev l[j] user cl key (h3 _ (List.getElem_mem hlt)) hs) ?_
        rw [decideL]
        by_cases h : fitsB l[j] user cl key = true
        · rw [if_pos h]
          exact Ev.congr (fun k => by rw [if_pos h]) (Ev.now _)
        · rw [if_neg h]
          exact Ev.congr (fun k => by rw [if_neg h]) (ih (j + 1) (by omega))
  exact key1 l.length 0 (by omega)

theorem alive_ev : Ev (fun k => Pb.escutcheonlaw18_alive.f k) true := Ev.of (fun k => Pb.escutcheonlaw18_alive.mono k) alive_true
theorem same_rules (l : List Pa.S25) (hn : l.length ≤ 100000) : Ev (fun k => Pl.escutcheonbook_SameRules.f k l l) true := by
  unfold Pl.escutcheonbook_SameRules.f
  refine Ev.congr (f := fun k => Pl.escutcheonbook_SameRules.l0 k l l 0) (fun k => by rw [if_pos rfl]) ?_
  refine same_ev l hn Pl.escutcheonbook_SameRules.l0 fun k i => ?_
  rw [Pl.escutcheonbook_SameRules.l0]
  by_cases h : (i : Int) < (l.length : Int)
  · rw [if_pos h, if_pos (by omega), if_pos h, if_pos (by simp), wrap1 i (by omega), if_pos h]
  · rw [if_neg h, if_neg h]
theorem lent_f (l : List Pa.S25) (h : l.length ≤ 60) : Pu.escutcheonbook_LentRules.f l = some l := by
  unfold Pu.escutcheonbook_LentRules.f Pu.escutcheonbook_copyRules.f
  rw [if_pos (by show 0 + l.length < _; omega), Option.bind_some, List.nil_append, if_pos (by omega), Option.bind_some, if_pos (by omega), if_pos (by rw [List.length_append]; omega), Int.toNat_natCast, List.take_left]

theorem tells_end (l : List Pa.S25) (user : ByteArray) (cl : Int) (key : ByteArray) (hl : l.length ≤ 60) (hk : key.size ≤ 100) (h3 : ∀ x ∈ l, x.f3.size ≤ 100000) : Ev (fun k => Pt.escutcheonlaw18_AclTells.l0 k l user cl key (l.length : Int)) true := by
  refine Ev.step (f := fun k => (Pa.acl_Decide.f k l user cl key).bind fun b1 => ((Pt.escutcheonref14_Decide.f k l user cl key).bind fun b2 => (if (b1.1 == b2.1) = true then (if b1.2 = b2.2 then ((Pu.escutcheonbook_StaysRules.f k l l).bind fun t152 => (some t152)) else (some false)) else (some false)))) (fun k => ?_) ?_
  · show Pt.escutcheonlaw18_AclTells.l0 (k + 1) l user cl key (l.length : Int) = _
    rw [Pt.escutcheonlaw18_AclTells.l0, if_neg (by omega), lent_f l hl, Option.bind_some]
  · refine Ev.bind (decide_ev l (by omega) user cl key (by omega)) (Ev.bind (rdecide_ev l (by omega) h3 user cl key (by omega)) ?_)
    refine Ev.congr (f := fun k => (Pu.escutcheonbook_StaysRules.f k l l).bind fun t152 => (some t152)) (fun k => by rw [if_pos (by simp), if_pos rfl]) ?_
    unfold Pu.escutcheonbook_StaysRules.f
    exact Ev.bind (Ev.bind (same_rules l (by omega)) (Ev.now _)) (Ev.now _)

theorem tells_loop (l : List Pa.S25) (user : ByteArray) (cl : Int) (key : ByteArray) (hl : l.length ≤ 60) (hk : key.size ≤ 100) : ∀ (d i : Nat), i + d = l.length → (∀ x ∈ l.take i, x.f3.size ≤ 100000) → Ev (fun k => Pt.escutcheonlaw18_AclTells.l0 k l user cl key (i : Int)) true := by
  intro d
  induction d with
  | zero =>
    intro i hi hq
    obtain rfl : i = l.length := by omega
    rw [List.take_length] at hq
    exact tells_end l user cl key hl hk hq
  | succ d ih =>
    intro i hi hq
    have hlt : i < l.length := by omega
    have hr : Pa.rd_T25 l (i : Int) = l[i] := by simp [Pa.rd_T25, List.getD, hlt]
    have hw := wrapS i (by omega)
    have hj : Ev (fun k => Pt.escutcheonlaw18_AclTells.j2 k l user cl key (i : Int) true) true := by
      refine Ev.step (f := fun _ => some true) (fun k => ?_) (Ev.now _)
      show Pt.escutcheonlaw18_AclTells.j2 (k + 1) l user cl key (i : Int) true = _
      rw [Pt.escutcheonlaw18_AclTells.j2, if_pos rfl]
    by_cases c3 : ((l[i].f3.size : Nat) : Int) > 60
    · refine Ev.step (fun k => ?_) hj
      show Pt.escutcheonlaw18_AclTells.l0 (k + 1) l user cl key (i : Int) = _
      rw [Pt.escutcheonlaw18_AclTells.l0, if_pos (by omega), if_pos (by omega), hr, if_pos c3]
    by_cases c1 : ((l[i].f1.size : Nat) : Int) > 60
    · refine Ev.step (fun k => ?_) hj
      show Pt.escutcheonlaw18_AclTells.l0 (k + 1) l user cl key (i : Int) = _
      rw [Pt.escutcheonlaw18_AclTells.l0, if_pos (by omega), if_pos (by omega), hr, if_neg c3, decide_eq_true c1]
    refine Ev.step (f := fun k => Pt.escutcheonlaw18_AclTells.j2 k l user cl key (i : Int) false) (fun k => ?_) ?_
    · show Pt.escutcheonlaw18_AclTells.l0 (k + 1) l user cl key (i : Int) = _
      rw [Pt.escutcheonlaw18_AclTells.l0, if_pos (by omega), if_pos (by omega), hr, if_neg c3, decide_eq_false c1]
    refine Ev.step (f := fun k => (acl_Right.f k l[i].f0 l[i].f1 l[i].f2 l[i].f3).bind fun t138 => ((Pl.escutcheonref14_Rule.f k l[i].f0 l[i].f1 l[i].f2 l[i].f3).bind fun t140 => (if (t138 != t140) = true then (some false) else ((Pa.acl_Fits.f k l[i].f0 l[i].f1 l[i].f2 l[i].f3 user cl key).bind fun t142 => ((Pt.escutcheonref14_Fits.f k l[i].f0 l[i].f1 l[i].f2 l[i].f3 user cl key).bind fun t144 => (if (t142 != t144) = true then (some false) else (Pt.escutcheonlaw18_AclTells.l0 k l user cl key ((i + 1 : Nat) : Int)))))))) (fun k => ?_) ?_
    · show Pt.escutcheonlaw18_AclTells.j2 (k + 1) l user cl key (i : Int) false = _
      rw [Pt.escutcheonlaw18_AclTells.j2, if_neg (by decide), if_pos (by omega), if_pos (by omega), hr, hw]
    have hnext := ih (i + 1) (by omega) fun x hx => by
      rw [List.take_succ_eq_append_getElem hlt] at hx
      rcases List.mem_append.1 hx with h | h
      · exact hq x h
      · obtain rfl := List.mem_singleton.1 h
        omega
    refine Ev.bind (right_ev l[i] (by omega)) (Ev.bind (rule_ev l[i] (by omega) (by omega)) ?_)
    refine Ev.congr (f := fun k => (Pa.acl_Fits.f k l[i].f0 l[i].f1 l[i].f2 l[i].f3 user cl key).bind fun t142 => ((Pt.escutcheonref14_Fits.f k l[i].f0 l[i].f1 l[i].f2 l[i].f3 user cl key).bind fun t144 => (if (t142 != t144) = true then (some false) else (Pt.escutcheonlaw18_AclTells.l0 k l user cl key ((i + 1 : Nat) : Int))))) (fun k => by rw [if_neg (by simp)]) ?_
    refine Ev.bind (fits_ev l[i] user cl key (by omega)) (Ev.bind (rfits_ev l[i] user cl key (by omega) (by omega)) ?_)
    exact Ev.congr (fun k => by rw [if_neg (by simp)]) hnext

theorem tells_pure (l : List Pa.S25) (user : ByteArray) (cl : Int) (key : ByteArray) : ∃ k, Pt.escutcheonlaw18_AclTells.f k l user cl key = some true := by
  apply Ev.rounds
  have hj : Ev (fun k => Pt.escutcheonlaw18_AclTells.j0 k l user cl key true) true := by
    refine Ev.step (f := fun k => (Pb.escutcheonlaw18_alive.f k).bind fun t => some t) (fun k => ?_) (Ev.bind alive_ev (Ev.now _))
    show Pt.escutcheonlaw18_AclTells.j0 (k + 1) l user cl key true = _
    rw [Pt.escutcheonlaw18_AclTells.j0, if_pos rfl]
  unfold Pt.escutcheonlaw18_AclTells.f
  by_cases c1 : (l.length : Int) > 60
  · exact Ev.congr (fun k => by rw [if_pos c1]) hj
  by_cases c2 : (user.size : Int) > 100
  · exact Ev.congr (fun k => by rw [if_neg c1, if_pos c2]) hj
  by_cases c3 : (key.size : Int) > 100
  · exact Ev.congr (fun k => by rw [if_neg c1, if_neg c2, if_pos c3]) hj
  refine Ev.congr (f := fun k => (Pb.escutcheonlaw18_alive.f k).bind fun t => Pt.escutcheonlaw18_AclTells.j0 k l user cl key (!t)) (fun k => by rw [if_neg c1, if_neg c2, if_neg c3]) ?_
  refine Ev.bind alive_ev ?_
  refine Ev.step (f := fun k => Pt.escutcheonlaw18_AclTells.l0 k l user cl key ((0 : Nat) : Int)) (fun k => ?_) (tells_loop l user cl key (by omega) (by omega) l.length 0 (by omega) (by simp))
  show Pt.escutcheonlaw18_AclTells.j0 (k + 1) l user cl key (!true) = _
  rw [Pt.escutcheonlaw18_AclTells.j0, if_neg (by decide)]
  rfl

theorem tells_walk (A0 : Option Addr) (c0 : Nat) (a0 : List Pa.S25) (a1 : ByteArray) (a2 : Int) (a3 : ByteArray) (W : World) (hL : Laid W) (b0 : (Kd.C Pa.k25 W A0 a0.length a0 ∧ a0.length ≤ c0) ∧ ∀ x ∈ a0, x.f1.size ≤ maxLen ∧ x.f3.size ≤ maxLen) (b1 : a1.size ≤ 140737488351232) (b2 : -9223372036854775808 ≤ a2 ∧ a2 ≤ 9223372036854775807) (b3 : a3.size ≤ 140737488351232) :
    Calls Tryd.prog 3 #[.slice A0 a0.length c0, .string a1, .int .i64 a2, .string a3] W fun e w' => e = .returned (.bool true) ∧ Below W.heap.size W w' := by
  obtain ⟨k, hk⟩ := tells_pure a0 a1 a2 a3
  exact Pt.escutcheonlaw18_AclTells.calls k A0 c0 a0 a1 a2 a3 true W b0.1.1 b0.1.2 hk hL
end Tel
end Go.Proofs.YthngjjeilcfhgaaDoor
