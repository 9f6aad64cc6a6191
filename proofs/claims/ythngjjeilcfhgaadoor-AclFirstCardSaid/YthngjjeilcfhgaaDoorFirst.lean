/- AclFirst: the plain law. -/
import Derived.Test.YthngjjeilcfhgaaDoorPf
import Derived.Test.YthngjjeilcfhgaaDoorAl
import Derived.Test.YthngjjeilcfhgaaDoorGl
set_option linter.unusedVariables false
namespace Go.Proofs.YthngjjeilcfhgaaDoor
open Go.RowKit Go.Proofs.YthngjjeilcfhgaaDoorW.PrintWords Go.Proofs.YthngjjeilcfhgaaDoorW.PrintLast
namespace Fst
theorem alive_ev : Ev (fun k => Pb.escutcheonlaw18_alive.f k) true := Ev.of (fun k => Pb.escutcheonlaw18_alive.mono k) alive_true

/-- The first rule that fits: either none does, or one does, and it is told with its place. -/
theorem decide_cases (u : ByteArray) (c : Int) (s : ByteArray) : ∀ (l : List Pa.S25) (i : Nat), (decideL u c s l i = (false, -1) ∧ ∀ x ∈ l, fitsB x u c s = false) ∨
    (∃ j : Nat, ∃ h : j < l.length, decideL u c s l i = (l[j].f0, ((i + j : Nat) : Int)) ∧ fitsB l[j] u c s = true ∧ ∀ q (hq : q < j), fitsB (l[q]'(by omega)) u c s = false)
  | [], i => .inl ⟨rfl, fun x hx => by cases hx⟩
  | x :: xs, i => by
    rw [decideL]
    by_cases h : fitsB x u c s = true
    · rw [if_pos h]
      exact .inr ⟨0, by simp, by simp, h, fun q hq => absurd hq (Nat.not_lt_zero q)⟩
    · rw [if_neg h]
      have h' : fitsB x u c s = false := by simpa using h
      rcases decide_cases u c s xs (i + 1) with ⟨h1, h2⟩ | ⟨j, hj, h1, h2, h3⟩
      · refine .inl ⟨h1, fun y hy => ?_⟩
        rcases List.mem_cons.1 hy with rfl | hy
        · exact h'
        · exact h2 y hy
      · refine .inr ⟨j + 1, by simpa using hj, ?_, by simpa using h2, fun q hq => ?_⟩
        · rw [h1, show i + 1 + j = i + (j + 1) by omega]
          simp
        · cases q with
          | zero => simpa using h'
          | succ q => simpa using h3 q (by omega)
theorem decide_snoc (u : ByteArray) (c : Int) (s : ByteArray) (x : Pa.S25) (hx : fitsB x u c s = true) : ∀ (l : List Pa.S25) (i : Nat), (∀ y ∈ l, fitsB y u c s = false) → decideL u c s (l ++ [x]) i = (x.f0, ((i + l.length : Nat) : Int))
  | [], i, _ => by rw [List.nil_append, decideL, if_pos hx]; rfl
  | y :: ys, i, h => by
    rw [List.cons_append, decideL, h y List.mem_cons_self, if_neg (by decide), decide_snoc u c s x hx ys (i + 1) (fun z hz => h z (List.mem_cons_of_mem _ hz)), List.length_cons, show i + 1 + ys.length = i + (ys.length + 1) by omega]
theorem decide_app (u : ByteArray) (c : Int) (s : ByteArray) (r : List Pa.S25) : ∀ (l : List Pa.S25) (i j : Nat) (hj : j < l.length), fitsB l[j] u c s = true → (∀ q (hq : q < j), fitsB (l[q]'(by omega)) u c s = false) → decideL u c s (l ++ r) i = (l[j].f0, ((i + j : Nat) : Int))
  | [], _, _, hj, _, _ => by simp at hj
  | y :: ys, i, 0, hj, h, _ => by
    rw [List.cons_append, decideL, if_pos (by simpa using h)]
    simp
  | y :: ys, i, j + 1, hj, h, hq => by
    have h0 : fitsB y u c s = false := by simpa using hq 0 (by omega)
    rw [List.cons_append, decideL, h0, if_neg (by decide), decide_app u c s r ys (i + 1) j (by simpa using hj) (by simpa using h) (fun q hq' => by simpa using hq (q + 1) (by omega)), show i + 1 + j = i + (j + 1) by omega]
    simp

theorem first_pure (a0 : List Pa.S25) (a1 : ByteArray) (a2 : Int) (a3 : ByteArray) (a4 : Bool) (h3 : a3.size ≤ 140737488351232) : ∃ k, Pf.escutcheonlaw18_AclFirst.f k a0 a1 a2 a3 a4 = some true := by
  apply Ev.rounds
  have hj : Ev (fun k => Pf.escutcheonlaw18_AclFirst.j0 k a0 a1 a2 a3 a4 true) true := by
    refine Ev.step (f := fun k => (Pb.escutcheonlaw18_alive.f k).bind fun t => some t) (fun k => ?_) (Ev.bind alive_ev (Ev.now _))
    show Pf.escutcheonlaw18_AclFirst.j0 (k + 1) a0 a1 a2 a3 a4 true = _
    rw [Pf.escutcheonlaw18_AclFirst.j0, if_pos rfl]
  unfold Pf.escutcheonlaw18_AclFirst.f
  by_cases c1 : (a0.length : Int) > 40
  · exact Ev.congr (fun k => by rw [if_pos c1]) hj
  by_cases c2 : (a1.size : Int) < 1
  · exact Ev.congr (fun k => by rw [if_neg c1, if_pos c2]) hj
  by_cases c3 : (a1.size : Int) > 20
  · exact Ev.congr (fun k => by rw [if_neg c1, if_neg c2, if_pos c3]) hj
  by_cases c4 : (a3.size : Int) > 20
  · exact Ev.congr (fun k => by rw [if_neg c1, if_neg c2, if_neg c3, if_pos c4]) hj
  by_cases c5 : a2 < 1
  · exact Ev.congr (fun k => by rw [if_neg c1, if_neg c2, if_neg c3, if_neg c4, if_pos c5]) hj
  by_cases c6 : a2 > 3
  · exact Ev.congr (fun k => by rw [if_neg c1, if_neg c2, if_neg c3, if_neg c4, if_neg c5, if_pos c6]) hj
  refine Ev.congr (f := fun k => (Pb.escutcheonlaw18_alive.f k).bind fun t => Pf.escutcheonlaw18_AclFirst.j0 k a0 a1 a2 a3 a4 (!t)) (fun k => by rw [if_neg c1, if_neg c2, if_neg c3, if_neg c4, if_neg c5, if_neg c6]) ?_
  refine Ev.bind alive_ev ?_
  refine Ev.step (f := fun k => Pf.escutcheonlaw18_AclFirst.l0 k a0 a1 a2 a3 a4 ((0 : Nat) : Int)) (fun k => ?_) ?_
  · show Pf.escutcheonlaw18_AclFirst.j0 (k + 1) a0 a1 a2 a3 a4 (!true) = _
    rw [Pf.escutcheonlaw18_AclFirst.j0, if_neg (by decide)]
    rfl
  have hlen : a0.length ≤ 40 := by omega
  -- behind the loop
  have hx : fitsB ⟨a4, a1, 0, ⟨#[42]⟩⟩ a1 a2 a3 = true := by
    unfold fitsB
    rw [if_pos ⟨.inl rfl, .inr rfl⟩]
    exact globB_star a3
  have hend : ∀ b0 : Bool, ∀ b1 : Int, decideL a1 a2 a3 a0 0 = (b0, b1) → ∀ b2 : Bool, ∀ b3 : Int, decideL a1 a2 a3 (a0 ++ [⟨a4, a1, 0, ⟨#[42]⟩⟩]) 0 = (b2, b3) → Ev (fun k => Pf.escutcheonlaw18_AclFirst.j2 k a0 a1 a2 a3 a4 b0 b1 b2 b3 false) true := by
    intro b0 b1 h1 b2 b3 h2
    rcases decide_cases a1 a2 a3 a0 0 with ⟨e1, e2⟩ | ⟨j, hjl, e1, e2, e3⟩
    · rw [e1] at h1
      rw [decide_snoc a1 a2 a3 _ hx a0 0 e2] at h2
      simp only [Prod.mk.injEq] at h1 h2
      obtain ⟨rfl, rfl⟩ := h1
      obtain ⟨rfl, rfl⟩ := h2
      refine Ev.step (f := fun _ => some true) (fun k => ?_) (Ev.now _)
      show Pf.escutcheonlaw18_AclFirst.j2 (k + 1) a0 a1 a2 a3 a4 _ _ _ _ false = _
      rw [Pf.escutcheonlaw18_AclFirst.j2, if_neg (by decide), if_pos (by decide), if_neg (by decide), if_pos (by simp)]
      simp
    · rw [e1] at h1
      rw [decide_app a1 a2 a3 _ a0 0 j hjl e2 e3] at h2
      simp only [Prod.mk.injEq] at h1 h2
      obtain ⟨rfl, rfl⟩ := h1
      obtain ⟨rfl, rfl⟩ := h2
      have hf := fits_ev a0[j] a1 a2 a3 h3
      rw [e2] at hf
      have hr : Pa.rd_T25 a0 ((0 + j : Nat) : Int) = a0[j] := by simp [Pa.rd_T25, List.getD, hjl]
      refine Ev.step (f := fun k => (Pa.acl_Fits.f k a0[j].f0 a0[j].f1 a0[j].f2 a0[j].f3 a1 a2 a3).bind fun t => some t) (fun k => ?_) (Ev.bind hf (Ev.now _))
      show Pf.escutcheonlaw18_AclFirst.j2 (k + 1) a0 a1 a2 a3 a4 _ _ _ _ false = _
      rw [Pf.escutcheonlaw18_AclFirst.j2, if_neg (by decide), if_neg (by omega), if_pos (by simp), if_pos rfl, if_pos (by omega), if_pos (by omega), hr]
  have hloop : ∀ (d i : Nat), i + d = a0.length → Ev (fun k => Pf.escutcheonlaw18_AclFirst.l0 k a0 a1 a2 a3 a4 (i : Int)) true := by
    intro d
    induction d with
    | zero =>
      intro i hi
      have hd0 := decide_ev a0 (by omega) a1 a2 a3 h3
      have hd1 := decide_ev ([⟨a4, a1, 0, ⟨#[42]⟩⟩] ++ a0) (by simp only [List.length_append, List.length_singleton]; omega) a1 a2 a3 h3
      have hd2 := decide_ev (a0 ++ [⟨a4, a1, 0, ⟨#[42]⟩⟩]) (by simp only [List.length_append, List.length_singleton]; omega) a1 a2 a3 h3
      have hd3 := decide_ev [] (by decide) a1 a2 a3 h3
      have e1 : decideL a1 a2 a3 ([⟨a4, a1, 0, ⟨#[42]⟩⟩] ++ a0) 0 = (a4, 0) := by
        rw [List.singleton_append, decideL, if_pos hx]
        rfl
      have e3 : decideL a1 a2 a3 [] 0 = (false, -1) := rfl
      rw [e1] at hd1
      rw [e3] at hd3
      obtain ⟨b0, b1, hb⟩ : ∃ b0 b1, decideL a1 a2 a3 a0 0 = (b0, b1) := ⟨_, _, rfl⟩
      obtain ⟨b2, b3, hb2⟩ : ∃ b0 b1, decideL a1 a2 a3 (a0 ++ [⟨a4, a1, 0, ⟨#[42]⟩⟩]) 0 = (b0, b1) := ⟨_, _, rfl⟩
      rw [hb] at hd0
      rw [hb2] at hd2
      refine Ev.step (f := fun k => (Pa.acl_Decide.f k a0 a1 a2 a3).bind fun bt107 => ((Pa.acl_Decide.f k ([⟨a4, a1, 0, ⟨#[42]⟩⟩] ++ a0) a1 a2 a3).bind fun bt115 => ((Pa.acl_Decide.f k (a0 ++ [⟨a4, a1, 0, ⟨#[42]⟩⟩]) a1 a2 a3).bind fun bt126 => ((Pa.acl_Decide.f k [] a1 a2 a3).bind fun bt128 => (if (bt115.1 != a4) = true then (Pf.escutcheonlaw18_AclFirst.j2 k a0 a1 a2 a3 a4 bt107.1 bt107.2 bt126.1 bt126.2 true) else (if bt115.2 = 0 then (if bt128.1 = true then (Pf.escutcheonlaw18_AclFirst.j2 k a0 a1 a2 a3 a4 bt107.1 bt107.2 bt126.1 bt126.2 true) else (Pf.escutcheonlaw18_AclFirst.j2 k a0 a1 a2 a3 a4 bt107.1 bt107.2 bt126.1 bt126.2 (bt128.2 != (-1)))) else (Pf.escutcheonlaw18_AclFirst.j2 k a0 a1 a2 a3 a4 bt107.1 bt107.2 bt126.1 bt126.2 true))))))) (fun k => ?_) ?_
      · show Pf.escutcheonlaw18_AclFirst.l0 (k + 1) a0 a1 a2 a3 a4 (i : Int) = _
        rw [Pf.escutcheonlaw18_AclFirst.l0, if_neg (by omega)]
        simp only [Option.bind_some, List.nil_append, List.length_singleton, List.length_nil]
        have l1 : 1 + a0.length < 2932031007402 := by omega
        have l2 : 0 + a0.length < 2932031007402 := by omega
        have l3 : a0.length + 1 < 2932031007402 := by omega
        simp only [if_pos l1, if_pos l2, if_pos l3]
      · refine Ev.bind hd0 (Ev.bind hd1 (Ev.bind hd2 (Ev.bind hd3 ?_)))
        refine Ev.congr (fun k => ?_) (hend b0 b1 hb b2 b3 hb2)
        rw [if_neg (by simp), if_pos rfl, if_neg (by decide)]
        rfl
    | succ d ih =>
      intro i hi
      have hw : wrap64 ((i : Int) + 1) = ((i + 1 : Nat) : Int) := by rw [show ((i : Int) + 1) = ((i + 1 : Nat) : Int) from rfl]; exact wrap_nat (by omega)
      by_cases hp : ((Pa.rd_T25 a0 (i : Int)).f3.size : Int) > 60
      · refine Ev.step (f := fun _ => some true) (fun k => ?_) (Ev.now _)
        show Pf.escutcheonlaw18_AclFirst.l0 (k + 1) a0 a1 a2 a3 a4 (i : Int) = _
        rw [Pf.escutcheonlaw18_AclFirst.l0, if_pos (by omega), if_pos (by omega), if_pos hp]
      · refine Ev.step (f := fun k => Pf.escutcheonlaw18_AclFirst.l0 k a0 a1 a2 a3 a4 ((i + 1 : Nat) : Int)) (fun k => ?_) (ih (i + 1) (by omega))
        show Pf.escutcheonlaw18_AclFirst.l0 (k + 1) a0 a1 a2 a3 a4 (i : Int) = _
        rw [Pf.escutcheonlaw18_AclFirst.l0, if_pos (by omega), if_pos (by omega), if_neg hp, hw]
  exact hloop a0.length 0 (by omega)

theorem first_walk (A0 : Option Addr) (c0 : Nat) (a0 : List Pa.S25) (a1 : ByteArray) (a2 : Int) (a3 : ByteArray) (a4 : Bool) (W : World) (hL : Laid W) (b0 : Kd.C Pa.k25 W A0 a0.length a0 ∧ a0.length ≤ c0) (b1 : a1.size ≤ 140737488351232) (b2 : -9223372036854775808 ≤ a2 ∧ a2 ≤ 9223372036854775807) (b3 : a3.size ≤ 140737488351232) :
    Calls Tryd.prog 5 #[.slice A0 a0.length c0, .string a1, .int .i64 a2, .string a3, .bool a4] W fun e w' => e = .returned (.bool true) ∧ Below W.heap.size W w' := by
  obtain ⟨k, hk⟩ := first_pure a0 a1 a2 a3 a4 b3
  exact Pf.escutcheonlaw18_AclFirst.calls k A0 c0 a0 a1 a2 a3 a4 true W b0.1 b0.2 hk hL
end Fst
end Go.Proofs.YthngjjeilcfhgaaDoor
