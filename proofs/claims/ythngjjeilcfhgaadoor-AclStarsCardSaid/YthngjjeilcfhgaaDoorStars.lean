/- AclStars: the plain law. -/
import Derived.Test.YthngjjeilcfhgaaDoorPs
import Derived.Test.YthngjjeilcfhgaaDoorAl
import Derived.Test.YthngjjeilcfhgaaDoorGl
set_option linter.unusedVariables false
namespace Go.Proofs.YthngjjeilcfhgaaDoor
open Go.RowKit Go.Proofs.YthngjjeilcfhgaaDoorW.PrintWords Go.Proofs.YthngjjeilcfhgaaDoorW.PrintLast

theorem star_list : (⟨#[42]⟩ : ByteArray).toList = [42] := by rw [Lib.toList_data]
theorem astar_list : (⟨#[97, 42]⟩ : ByteArray).toList = [97, 42] := by rw [Lib.toList_data]
theorem alive_ev : Ev (fun k => Pb.escutcheonlaw18_alive.f k) true := Ev.of (fun k => Pb.escutcheonlaw18_alive.mono k) alive_true

theorem stars_pure (a0 a1 : ByteArray) (a2 : Int) (h1 : a1.size ≤ 140737488351232) : ∃ k, Ps.escutcheonlaw18_AclStars.f k a0 a1 a2 = some true := by
  apply Ev.rounds
  have hj : ∀ b, b = true → Ev (fun k => Ps.escutcheonlaw18_AclStars.j0 k a0 a1 a2 b) true := by
    intro b hb
    subst hb
    refine Ev.step (f := fun k => (Pb.escutcheonlaw18_alive.f k).bind fun t => some t) (fun k => ?_) (Ev.bind alive_ev (Ev.now _))
    show Ps.escutcheonlaw18_AclStars.j0 (k + 1) a0 a1 a2 true = _
    rw [Ps.escutcheonlaw18_AclStars.j0, if_pos rfl]
  unfold Ps.escutcheonlaw18_AclStars.f
  by_cases c1 : (a0.size : Int) > 60
  · exact Ev.congr (fun k => by rw [if_pos c1]) (hj true rfl)
  by_cases c2 : (a1.size : Int) > 40
  · exact Ev.congr (fun k => by rw [if_neg c1, if_pos c2]) (hj true rfl)
  refine Ev.congr (f := fun k => (Pb.escutcheonlaw18_alive.f k).bind fun t => Ps.escutcheonlaw18_AclStars.j0 k a0 a1 a2 (!t)) (fun k => by rw [if_neg c1, if_neg c2]) ?_
  refine Ev.bind alive_ev ?_
  have ea : fitsB ⟨true, ⟨#[42]⟩, 0, ⟨#[42]⟩⟩ a0 a2 a1 = true := by
    unfold fitsB
    rw [if_pos ⟨.inr star_list, .inr rfl⟩]
    exact globB_star a1
  have es : fitsB ⟨true, ⟨#[97, 42]⟩, 0, ⟨#[42]⟩⟩ a0 a2 a1 = (a0.toList == [97, 42]) := by
    unfold fitsB
    by_cases h : a0.toList = [97, 42]
    · rw [if_pos ⟨.inl (show (⟨#[97, 42]⟩ : ByteArray).toList = a0.toList by rw [h, astar_list]), .inr rfl⟩, h]
      exact globB_star a1
    · rw [if_neg, show (a0.toList == [97, 42]) = false from beq_eq_false_iff_ne.2 h]
      rintro ⟨h2 | h2, _⟩
      · exact h (h2.symm.trans astar_list)
      · exact absurd (astar_list.symm.trans h2) (by decide)
  have ed : decideL a0 a2 a1 [⟨true, ⟨#[42]⟩, 0, ⟨#[42]⟩⟩] 0 = (true, 0) := by
    rw [decideL, if_pos ea]
    rfl
  have hd := decide_ev [⟨true, ⟨#[42]⟩, 0, ⟨#[42]⟩⟩] (by decide) a0 a2 a1 h1
  rw [ed] at hd
  have hf1 := fits_ev ⟨true, ⟨#[97, 42]⟩, 0, ⟨#[42]⟩⟩ a0 a2 a1 h1
  rw [es] at hf1
  have hf2 := fits_ev ⟨true, ⟨#[42]⟩, 0, ⟨#[42]⟩⟩ a0 a2 a1 h1
  rw [ea] at hf2
  refine Ev.step (f := fun k => (Pa.acl_Decide.f k [⟨true, ⟨#[42]⟩, 0, ⟨#[42]⟩⟩] a0 a2 a1).bind fun b => if b.1 = true then (if b.2 = 0 then ((Pa.acl_Fits.f k true ⟨#[97, 42]⟩ 0 ⟨#[42]⟩ a0 a2 a1).bind fun t => if (t == (a0.toList == [97, 42])) = true then ((Pa.acl_Fits.f k true ⟨#[42]⟩ 0 ⟨#[42]⟩ a0 a2 a1).bind fun t => some t) else some false) else some false) else some false) (fun k => ?_) ?_
  · show Ps.escutcheonlaw18_AclStars.j0 (k + 1) a0 a1 a2 (!true) = _
    rw [Ps.escutcheonlaw18_AclStars.j0, if_neg (by decide)]
  · refine Ev.bind hd ?_
    refine Ev.congr (fun k => by rw [if_pos rfl, if_pos rfl]) (Ev.bind hf1 ?_)
    refine Ev.congr (fun k => by rw [if_pos (by simp)]) (Ev.bind hf2 (Ev.now _))

theorem stars_walk (a0 a1 : ByteArray) (a2 : Int) (W : World) (hL : Laid W) (b0 : a0.size ≤ 140737488351232) (b1 : a1.size ≤ 140737488351232) (b2 : -9223372036854775808 ≤ a2 ∧ a2 ≤ 9223372036854775807) :
    Calls Tryd.prog 8 #[.string a0, .string a1, .int .i64 a2] W fun e w' => e = .returned (.bool true) ∧ Below W.heap.size W w' := by
  obtain ⟨k, hk⟩ := stars_pure a0 a1 a2 b1
  exact Ps.escutcheonlaw18_AclStars.calls k a0 a1 a2 true W hk hL
end Go.Proofs.YthngjjeilcfhgaaDoor
