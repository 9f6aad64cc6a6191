/- AclClasses: the plain law. -/
import Derived.Test.YthngjjeilcfhgaaDoorPk
import Derived.Test.YthngjjeilcfhgaaDoorAl
import Derived.Test.YthngjjeilcfhgaaDoorGl
set_option linter.unusedVariables false
namespace Go.Proofs.YthngjjeilcfhgaaDoor
open Go.RowKit Go.Proofs.YthngjjeilcfhgaaDoorW.PrintWords Go.Proofs.YthngjjeilcfhgaaDoorW.PrintLast
namespace Cls2
theorem ann_list : (⟨#[97, 110, 110]⟩ : ByteArray).toList = [97, 110, 110] := by rw [Lib.toList_data]
theorem bob_list : (⟨#[98, 111, 98]⟩ : ByteArray).toList = [98, 111, 98] := by rw [Lib.toList_data]
theorem alive_ev : Ev (fun k => Pb.escutcheonlaw18_alive.f k) true := Ev.of (fun k => Pb.escutcheonlaw18_alive.mono k) alive_true
theorem classes_pure (a0 a1 : Int) (a2 : Bool) (a3 : ByteArray) (h3 : a3.size ≤ 140737488351232) : ∃ k, Pk.escutcheonlaw18_AclClasses.f k a0 a1 a2 a3 = some true := by
  apply Ev.rounds
  have hj : Ev (fun k => Pk.escutcheonlaw18_AclClasses.j0 k a0 a1 a2 a3 true) true := by
    refine Ev.step (f := fun k => (Pb.escutcheonlaw18_alive.f k).bind fun t => some t) (fun k => ?_) (Ev.bind alive_ev (Ev.now _))
    show Pk.escutcheonlaw18_AclClasses.j0 (k + 1) a0 a1 a2 a3 true = _
    rw [Pk.escutcheonlaw18_AclClasses.j0, if_pos rfl]
  unfold Pk.escutcheonlaw18_AclClasses.f
  by_cases c1 : a0 < 0
  · exact Ev.congr (fun k => by rw [if_pos c1]) hj
  by_cases c2 : a0 > 3
  · exact Ev.congr (fun k => by rw [if_neg c1, if_pos c2]) hj
  by_cases c3 : a1 < 1
  · exact Ev.congr (fun k => by rw [if_neg c1, if_neg c2, if_pos c3]) hj
  by_cases c4 : a1 > 3
  · exact Ev.congr (fun k => by rw [if_neg c1, if_neg c2, if_neg c3, if_pos c4]) hj
  by_cases c5 : (a3.size : Int) > 40
  · exact Ev.congr (fun k => by rw [if_neg c1, if_neg c2, if_neg c3, if_neg c4, if_pos c5]) hj
  refine Ev.congr (f := fun k => (Pb.escutcheonlaw18_alive.f k).bind fun t => Pk.escutcheonlaw18_AclClasses.j0 k a0 a1 a2 a3 (!t)) (fun k => by rw [if_neg c1, if_neg c2, if_neg c3, if_neg c4, if_neg c5]) ?_
  refine Ev.bind alive_ev ?_
  -- the rule, for its own user and for another one
  have ea : fitsB ⟨a2, ⟨#[97, 110, 110]⟩, a0, ⟨#[42]⟩⟩ ⟨#[97, 110, 110]⟩ a1 a3 = decide (a0 = a1 ∨ a0 = 0) := by
    unfold fitsB
    by_cases h : a0 = a1 ∨ a0 = 0
    · rw [if_pos ⟨.inl rfl, h⟩, decide_eq_true h]
      exact globB_star a3
    · rw [if_neg (fun x => h x.2), decide_eq_false h]
  have eb : fitsB ⟨a2, ⟨#[97, 110, 110]⟩, a0, ⟨#[42]⟩⟩ ⟨#[98, 111, 98]⟩ a1 a3 = false := by
    unfold fitsB
    rw [if_neg]
    rintro ⟨h | h, _⟩
    · rw [show (⟨a2, ⟨#[97, 110, 110]⟩, a0, ⟨#[42]⟩⟩ : Pa.S25).f1.toList = [97, 110, 110] from ann_list, bob_list] at h
      exact absurd h (by decide)
    · rw [show (⟨a2, ⟨#[97, 110, 110]⟩, a0, ⟨#[42]⟩⟩ : Pa.S25).f1.toList = [97, 110, 110] from ann_list] at h
      exact absurd h (by decide)
  have hda := decide_ev [⟨a2, ⟨#[97, 110, 110]⟩, a0, ⟨#[42]⟩⟩] (by simp only [List.length_singleton]; decide) ⟨#[97, 110, 110]⟩ a1 a3 h3
  have hdb := decide_ev [⟨a2, ⟨#[97, 110, 110]⟩, a0, ⟨#[42]⟩⟩] (by simp only [List.length_singleton]; decide) ⟨#[98, 111, 98]⟩ a1 a3 h3
  have hf := fits_ev ⟨a2, ⟨#[97, 110, 110]⟩, a0, ⟨#[42]⟩⟩ ⟨#[97, 110, 110]⟩ a1 a3 h3
  have edb : decideL ⟨#[98, 111, 98]⟩ a1 a3 [⟨a2, ⟨#[97, 110, 110]⟩, a0, ⟨#[42]⟩⟩] 0 = (false, -1) := by
    rw [decideL, eb, if_neg (by decide), decideL]
  rw [edb] at hdb
  rw [ea] at hf
  refine Ev.step (f := fun k => (Pa.acl_Decide.f k [⟨a2, ⟨#[97, 110, 110]⟩, a0, ⟨#[42]⟩⟩] ⟨#[97, 110, 110]⟩ a1 a3).bind fun bt109 => ((Pa.acl_Decide.f k [⟨a2, ⟨#[97, 110, 110]⟩, a0, ⟨#[42]⟩⟩] ⟨#[98, 111, 98]⟩ a1 a3).bind fun bt114 => (if a0 = 0 then ((Pa.acl_Fits.f k a2 ⟨#[97, 110, 110]⟩ a0 ⟨#[42]⟩ ⟨#[97, 110, 110]⟩ a1 a3).bind fun t116 => (if (t116 == true) = true then (if (bt109.1 == a2) = true then (if ((bt109.2 == 0) == true) = true then (if bt114.1 = true then (some false) else (some (bt114.2 == (-1)))) else (some false)) else (some false)) else (some false))) else ((Pa.acl_Fits.f k a2 ⟨#[97, 110, 110]⟩ a0 ⟨#[42]⟩ ⟨#[97, 110, 110]⟩ a1 a3).bind fun t117 => (if (t117 == (a0 == a1)) = true then (if a0 = a1 then (if (bt109.1 == a2) = true then (if ((bt109.2 == 0) == (a0 == a1)) = true then (if bt114.1 = true then (some false) else (some (bt114.2 == (-1)))) else (some false)) else (some false)) else (if (bt109.1 == false) = true then (if ((bt109.2 == 0) == (a0 == a1)) = true then (if bt114.1 = true then (some false) else (some (bt114.2 == (-1)))) else (some false)) else (some false))) else (some false)))))) (fun k => ?_) ?_
  · show Pk.escutcheonlaw18_AclClasses.j0 (k + 1) a0 a1 a2 a3 (!true) = _
    rw [Pk.escutcheonlaw18_AclClasses.j0, if_neg (by decide)]
  by_cases h0 : a0 = 0
  · have eda : decideL ⟨#[97, 110, 110]⟩ a1 a3 [⟨a2, ⟨#[97, 110, 110]⟩, a0, ⟨#[42]⟩⟩] 0 = (a2, 0) := by
      rw [decideL, ea, if_pos (decide_eq_true (.inr h0))]
      rfl
    rw [eda] at hda
    rw [decide_eq_true (show a0 = a1 ∨ a0 = 0 from .inr h0)] at hf
    refine Ev.bind hda (Ev.bind hdb (Ev.congr (fun k => by rw [if_pos h0]) (Ev.bind hf (Ev.congr (fun k => ?_) (Ev.now _)))))
    simp
  · by_cases h1 : a0 = a1
    · have eda : decideL ⟨#[97, 110, 110]⟩ a1 a3 [⟨a2, ⟨#[97, 110, 110]⟩, a0, ⟨#[42]⟩⟩] 0 = (a2, 0) := by
        rw [decideL, ea, if_pos (decide_eq_true (.inl h1))]
        rfl
      rw [eda] at hda
      rw [decide_eq_true (show a0 = a1 ∨ a0 = 0 from .inl h1)] at hf
      refine Ev.bind hda (Ev.bind hdb (Ev.congr (fun k => by rw [if_neg h0]) (Ev.bind hf (Ev.congr (fun k => ?_) (Ev.now _)))))
      simp [h1]
    · have hno : ¬ (a0 = a1 ∨ a0 = 0) := fun h => h.elim h1 h0
      have eda : decideL ⟨#[97, 110, 110]⟩ a1 a3 [⟨a2, ⟨#[97, 110, 110]⟩, a0, ⟨#[42]⟩⟩] 0 = (false, -1) := by
        rw [decideL, ea, decide_eq_false hno, if_neg (by decide), decideL]
      rw [eda] at hda
      rw [decide_eq_false hno] at hf
      refine Ev.bind hda (Ev.bind hdb (Ev.congr (fun k => by rw [if_neg h0]) (Ev.bind hf (Ev.congr (fun k => ?_) (Ev.now _)))))
      simp [h1]

theorem classes_walk (a0 a1 : Int) (a2 : Bool) (a3 : ByteArray) (W : World) (hL : Laid W) (b0 : -9223372036854775808 ≤ a0 ∧ a0 ≤ 9223372036854775807) (b1 : -9223372036854775808 ≤ a1 ∧ a1 ≤ 9223372036854775807) (b3 : a3.size ≤ 140737488351232) :
    Calls Tryd.prog 6 #[.int .i64 a0, .int .i64 a1, .bool a2, .string a3] W fun e w' => e = .returned (.bool true) ∧ Below W.heap.size W w' := by
  obtain ⟨k, hk⟩ := classes_pure a0 a1 a2 a3 b3
  exact Pk.escutcheonlaw18_AclClasses.calls k a0 a1 a2 a3 true W hk hL
end Cls2
end Go.Proofs.YthngjjeilcfhgaaDoor
