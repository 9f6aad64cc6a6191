-- Laid by wip/tools/ext.py, a program of this repo, over the kit's printer: Go functions as plain Lean functions, and their contracts.
import Derived.Test.YthngjjeilcfhgaaDoorPt0
namespace Go.Proofs.YthngjjeilcfhgaaDoor.Pt
open Go.Proofs.YthngjjeilcfhgaaDoor.Pa Go.Proofs.YthngjjeilcfhgaaDoor.Pb Go.Proofs.YthngjjeilcfhgaaDoor.Pl Go.Proofs.YthngjjeilcfhgaaDoor.Pu
open Go.RowKit Go.Proofs.YthngjjeilcfhgaaDoorW.PrintWords Go.Proofs.YthngjjeilcfhgaaDoorW.PrintLast Go.Proofs.YthngjjeilcfhgaaDoorW.PrintMore
attribute [local go_sem] max2_int min2_int max_two min_two max_three min_three max_four min_four   -- for this text's walks alone
set_option linter.unusedVariables false
set_option linter.unusedSimpArgs false

/-! ### escutcheonref14_Match: function 27 -/
mutual
def escutcheonref14_Match.l0 : Nat → ByteArray → ByteArray → List Bool → Int → Option (Bool)
  | 0, _, _, _, _ => none
  | k + 1, x0, x1, x5, x6 => if x6 < (x0.size : Int) then (if 0 ≤ (wrap64 ((x1.size : Int) + 1)) then (if (wrap64 ((x1.size : Int) + 1) : Int).toNat ≤ 281474976710656 then ((some (List.replicate (wrap64 ((x1.size : Int) + 1) : Int).toNat false : List Bool)).bind fun y108 => (if 0 ≤ x6 then (if (bt x0 x6) = 92 then (if 0 ≤ (wrap64 (x6 + 1)) then (if (wrap64 (x6 + 1)) < (x0.size : Int) then (escutcheonref14_Match.j1 k x0 x1 x5 (wrap64 (x6 + 1)) y108 (bt x0 (wrap64 (x6 + 1))) true) else (none)) else (none)) else (escutcheonref14_Match.j1 k x0 x1 x5 x6 y108 (bt x0 x6) false)) else (none))) else (none)) else (none)) else (if 0 ≤ (x1.size : Int) then (if (x1.size : Int) < (x5.length : Int) then (some (rdOf false x5 (x1.size : Int))) else (none)) else (none))
def escutcheonref14_Match.j1 : Nat → ByteArray → ByteArray → List Bool → Int → List Bool → Int → Bool → Option (Bool)
  | 0, _, _, _, _, _, _, _ => none
  | k + 1, x0, x1, x5, x6, x7, x8, x9 => escutcheonref14_Match.l1 k x0 x1 x5 x6 x7 x8 x9 0
def escutcheonref14_Match.l1 : Nat → ByteArray → ByteArray → List Bool → Int → List Bool → Int → Bool → Int → Option (Bool)
  | 0, _, _, _, _, _, _, _, _ => none
  | k + 1, x0, x1, x5, x6, x7, x8, x9, x10 => if x10 ≤ (x1.size : Int) then (if 0 ≤ x10 then (if x10 < (x5.length : Int) then (if rdOf false x5 x10 = true then (if x8 = 42 then (escutcheonref14_Match.j3 k x0 x1 x5 x6 x7 x8 x9 x10 (!x9)) else (escutcheonref14_Match.j3 k x0 x1 x5 x6 x7 x8 x9 x10 false)) else (escutcheonref14_Match.l1 k x0 x1 x5 x6 x7 x8 x9 (wrap64 (x10 + 1)))) else (none)) else (none)) else (escutcheonref14_Match.l0 k x0 x1 x7 (wrap64 (x6 + 1)))
def escutcheonref14_Match.j3 : Nat → ByteArray → ByteArray → List Bool → Int → List Bool → Int → Bool → Int → Bool → Option (Bool)
  | 0, _, _, _, _, _, _, _, _, _ => none
  | k + 1, x0, x1, x5, x6, x7, x8, x9, x10, x50 => if x50 = true then (escutcheonref14_Match.l2 k x0 x1 x5 x6 x7 x8 x9 x10 x10) else (if x10 < (x1.size : Int) then (if x8 = 63 then (if x9 = true then (if 0 ≤ x10 then (if (bt x1 x10) = x8 then (if 0 ≤ (wrap64 (x10 + 1)) then (if (wrap64 (x10 + 1)) < (x7.length : Int) then (escutcheonref14_Match.l1 k x0 x1 x5 x6 (x7.set ((wrap64 (x10 + 1)) : Int).toNat true) x8 x9 (wrap64 (x10 + 1))) else (none)) else (none)) else (escutcheonref14_Match.l1 k x0 x1 x5 x6 x7 x8 x9 (wrap64 (x10 + 1)))) else (none)) else (if 0 ≤ (wrap64 (x10 + 1)) then (if (wrap64 (x10 + 1)) < (x7.length : Int) then (escutcheonref14_Match.l1 k x0 x1 x5 x6 (x7.set ((wrap64 (x10 + 1)) : Int).toNat true) x8 x9 (wrap64 (x10 + 1))) else (none)) else (none))) else (if 0 ≤ x10 then (if (bt x1 x10) = x8 then (if 0 ≤ (wrap64 (x10 + 1)) then (if (wrap64 (x10 + 1)) < (x7.length : Int) then (escutcheonref14_Match.l1 k x0 x1 x5 x6 (x7.set ((wrap64 (x10 + 1)) : Int).toNat true) x8 x9 (wrap64 (x10 + 1))) else (none)) else (none)) else (escutcheonref14_Match.l1 k x0 x1 x5 x6 x7 x8 x9 (wrap64 (x10 + 1)))) else (none))) else (escutcheonref14_Match.l1 k x0 x1 x5 x6 x7 x8 x9 (wrap64 (x10 + 1))))
def escutcheonref14_Match.l2 : Nat → ByteArray → ByteArray → List Bool → Int → List Bool → Int → Bool → Int → Int → Option (Bool)
  | 0, _, _, _, _, _, _, _, _, _ => none
  | k + 1, x0, x1, x5, x6, x7, x8, x9, x10, x11 => if x11 ≤ (x1.size : Int) then (if 0 ≤ x11 then (if x11 < (x7.length : Int) then (escutcheonref14_Match.l2 k x0 x1 x5 x6 (x7.set (x11 : Int).toNat true) x8 x9 x10 (wrap64 (x11 + 1))) else (none)) else (none)) else (escutcheonref14_Match.l1 k x0 x1 x5 x6 x7 x8 x9 (wrap64 (x10 + 1)))
end
def escutcheonref14_Match.f (k : Nat) (a0 : ByteArray) (a1 : ByteArray) : Option (Bool) := if 0 ≤ (wrap64 ((a1.size : Int) + 1)) then (if (wrap64 ((a1.size : Int) + 1) : Int).toNat ≤ 281474976710656 then ((some (List.replicate (wrap64 ((a1.size : Int) + 1) : Int).toNat false : List Bool)).bind fun y103 => (if 0 < (y103.length : Int) then (escutcheonref14_Match.l0 k a0 a1 (y103.set (0 : Int).toNat true) 0) else (none))) else (none)) else (none)
theorem escutcheonref14_Match.mono_l : ∀ k, (∀ y0 y1 y2 y3, LeO (escutcheonref14_Match.l0 k y0 y1 y2 y3) (escutcheonref14_Match.l0 (k + 1) y0 y1 y2 y3)) ∧ (∀ y0 y1 y2 y3 y4 y5 y6, LeO (escutcheonref14_Match.j1 k y0 y1 y2 y3 y4 y5 y6) (escutcheonref14_Match.j1 (k + 1) y0 y1 y2 y3 y4 y5 y6)) ∧ (∀ y0 y1 y2 y3 y4 y5 y6 y7, LeO (escutcheonref14_Match.l1 k y0 y1 y2 y3 y4 y5 y6 y7) (escutcheonref14_Match.l1 (k + 1) y0 y1 y2 y3 y4 y5 y6 y7)) ∧ (∀ y0 y1 y2 y3 y4 y5 y6 y7 y8, LeO (escutcheonref14_Match.j3 k y0 y1 y2 y3 y4 y5 y6 y7 y8) (escutcheonref14_Match.j3 (k + 1) y0 y1 y2 y3 y4 y5 y6 y7 y8)) ∧ (∀ y0 y1 y2 y3 y4 y5 y6 y7 y8, LeO (escutcheonref14_Match.l2 k y0 y1 y2 y3 y4 y5 y6 y7 y8) (escutcheonref14_Match.l2 (k + 1) y0 y1 y2 y3 y4 y5 y6 y7 y8))
  | 0 => ⟨fun _ _ _ _ r h => by simp [escutcheonref14_Match.l0] at h, fun _ _ _ _ _ _ _ r h => by simp [escutcheonref14_Match.j1] at h, fun _ _ _ _ _ _ _ _ r h => by simp [escutcheonref14_Match.l1] at h, fun _ _ _ _ _ _ _ _ _ r h => by simp [escutcheonref14_Match.j3] at h, fun _ _ _ _ _ _ _ _ _ r h => by simp [escutcheonref14_Match.l2] at h⟩
  | k + 1 => by
    obtain ⟨ih0, ih1, ih2, ih3, ih4⟩ := escutcheonref14_Match.mono_l k
    refine ⟨?_, ?_, ?_, ?_, ?_⟩
    · intro y0 y1 y2 y3
      unfold escutcheonref14_Match.l0
      repeat' first
      | (with_reducible exact ih0 _ _ _ _)
      | (with_reducible exact ih1 _ _ _ _ _ _ _)
      | (with_reducible exact ih2 _ _ _ _ _ _ _ _)
      | (with_reducible exact ih3 _ _ _ _ _ _ _ _ _)
      | (with_reducible exact ih4 _ _ _ _ _ _ _ _ _)
      | (with_reducible exact LeO.refl _)
      | (with_reducible exact LeO.none _)
      | (with_reducible refine LeO.ite ?_ ?_)
      | (with_reducible refine LeO.bind ?_ (fun _ => ?_))
      | exact ih0 _ _ _ _
      | exact ih1 _ _ _ _ _ _ _
      | exact ih2 _ _ _ _ _ _ _ _
      | exact ih3 _ _ _ _ _ _ _ _ _
      | exact ih4 _ _ _ _ _ _ _ _ _
      | exact LeO.none _
      | refine LeO.ite ?_ ?_
      | refine LeO.bind ?_ (fun _ => ?_)
    · intro y0 y1 y2 y3 y4 y5 y6
      unfold escutcheonref14_Match.j1
      repeat' first
      | (with_reducible exact ih0 _ _ _ _)
      | (with_reducible exact ih1 _ _ _ _ _ _ _)
      | (with_reducible exact ih2 _ _ _ _ _ _ _ _)
      | (with_reducible exact ih3 _ _ _ _ _ _ _ _ _)
      | (with_reducible exact ih4 _ _ _ _ _ _ _ _ _)
      | (with_reducible exact LeO.refl _)
      | (with_reducible exact LeO.none _)
      | (with_reducible refine LeO.ite ?_ ?_)
      | (with_reducible refine LeO.bind ?_ (fun _ => ?_))
      | exact ih0 _ _ _ _
      | exact ih1 _ _ _ _ _ _ _
      | exact ih2 _ _ _ _ _ _ _ _
      | exact ih3 _ _ _ _ _ _ _ _ _
      | exact ih4 _ _ _ _ _ _ _ _ _
      | exact LeO.none _
      | refine LeO.ite ?_ ?_
      | refine LeO.bind ?_ (fun _ => ?_)
    · intro y0 y1 y2 y3 y4 y5 y6 y7
      unfold escutcheonref14_Match.l1
      repeat' first
      | (with_reducible exact ih0 _ _ _ _)
      | (with_reducible exact ih1 _ _ _ _ _ _ _)
      | (with_reducible exact ih2 _ _ _ _ _ _ _ _)
      | (with_reducible exact ih3 _ _ _ _ _ _ _ _ _)
      | (with_reducible exact ih4 _ _ _ _ _ _ _ _ _)
      | (with_reducible exact LeO.refl _)
      | (with_reducible exact LeO.none _)
      | (with_reducible refine LeO.ite ?_ ?_)
      | (with_reducible refine LeO.bind ?_ (fun _ => ?_))
      | exact ih0 _ _ _ _
      | exact ih1 _ _ _ _ _ _ _
      | exact ih2 _ _ _ _ _ _ _ _
      | exact ih3 _ _ _ _ _ _ _ _ _
      | exact ih4 _ _ _ _ _ _ _ _ _
      | exact LeO.none _
      | refine LeO.ite ?_ ?_
      | refine LeO.bind ?_ (fun _ => ?_)
    · intro y0 y1 y2 y3 y4 y5 y6 y7 y8
      unfold escutcheonref14_Match.j3
      repeat' first
      | (with_reducible exact ih0 _ _ _ _)
      | (with_reducible exact ih1 _ _ _ _ _ _ _)
      | (with_reducible exact ih2 _ _ _ _ _ _ _ _)
      | (with_reducible exact ih3 _ _ _ _ _ _ _ _ _)
      | (with_reducible exact ih4 _ _ _ _ _ _ _ _ _)
      | (with_reducible exact LeO.refl _)
      | (with_reducible exact LeO.none _)
      | (with_reducible refine LeO.ite ?_ ?_)
      | (with_reducible refine LeO.bind ?_ (fun _ => ?_))
      | exact ih0 _ _ _ _
      | exact ih1 _ _ _ _ _ _ _
      | exact ih2 _ _ _ _ _ _ _ _
      | exact ih3 _ _ _ _ _ _ _ _ _
      | exact ih4 _ _ _ _ _ _ _ _ _
      | exact LeO.none _
      | refine LeO.ite ?_ ?_
      | refine LeO.bind ?_ (fun _ => ?_)
    · intro y0 y1 y2 y3 y4 y5 y6 y7 y8
      unfold escutcheonref14_Match.l2
      repeat' first
      | (with_reducible exact ih0 _ _ _ _)
      | (with_reducible exact ih1 _ _ _ _ _ _ _)
      | (with_reducible exact ih2 _ _ _ _ _ _ _ _)
      | (with_reducible exact ih3 _ _ _ _ _ _ _ _ _)
      | (with_reducible exact ih4 _ _ _ _ _ _ _ _ _)
      | (with_reducible exact LeO.refl _)
      | (with_reducible exact LeO.none _)
      | (with_reducible refine LeO.ite ?_ ?_)
      | (with_reducible refine LeO.bind ?_ (fun _ => ?_))
      | exact ih0 _ _ _ _
      | exact ih1 _ _ _ _ _ _ _
      | exact ih2 _ _ _ _ _ _ _ _
      | exact ih3 _ _ _ _ _ _ _ _ _
      | exact ih4 _ _ _ _ _ _ _ _ _
      | exact LeO.none _
      | refine LeO.ite ?_ ?_
      | refine LeO.bind ?_ (fun _ => ?_)
theorem escutcheonref14_Match.mono : ∀ a0 a1 k, LeO (escutcheonref14_Match.f k a0 a1) (escutcheonref14_Match.f (k + 1) a0 a1) := by
  intro a0 a1 k
  obtain ⟨ih0, ih1, ih2, ih3, ih4⟩ := escutcheonref14_Match.mono_l k
  unfold escutcheonref14_Match.f
  repeat' first
      | (with_reducible exact ih0 _ _ _ _)
      | (with_reducible exact ih1 _ _ _ _ _ _ _)
      | (with_reducible exact ih2 _ _ _ _ _ _ _ _)
      | (with_reducible exact ih3 _ _ _ _ _ _ _ _ _)
      | (with_reducible exact ih4 _ _ _ _ _ _ _ _ _)
      | (with_reducible exact LeO.refl _)
      | (with_reducible exact LeO.none _)
      | (with_reducible refine LeO.ite ?_ ?_)
      | (with_reducible refine LeO.bind ?_ (fun _ => ?_))
      | exact ih0 _ _ _ _
      | exact ih1 _ _ _ _ _ _ _
      | exact ih2 _ _ _ _ _ _ _ _
      | exact ih3 _ _ _ _ _ _ _ _ _
      | exact ih4 _ _ _ _ _ _ _ _ _
      | exact LeO.none _
      | refine LeO.ite ?_ ?_
      | refine LeO.bind ?_ (fun _ => ?_)
set_option maxHeartbeats 8000000 in
set_option maxRecDepth 100000 in
theorem escutcheonref14_Match.calls (k : Nat) (a0 : ByteArray) (a1 : ByteArray) (r : Bool) (w : World) (h : escutcheonref14_Match.f k a0 a1 = some r) :
    Calls Tryd.prog 27 #[.string a0, .string a1] w fun e w' => e = .returned (.bool r) ∧ Below w.heap.size w w' := by
  have HB := Aside0.mk (Below.refl w.heap.size w)
  have H : (if 0 ≤ (wrap64 ((a1.size : Int) + 1)) then (if (wrap64 ((a1.size : Int) + 1) : Int).toNat ≤ 281474976710656 then ((some (List.replicate (wrap64 ((a1.size : Int) + 1) : Int).toNat false : List Bool)).bind fun y103 => (if 0 < (y103.length : Int) then (escutcheonref14_Match.l0 k a0 a1 (y103.set (0 : Int).toNat true) 0) else (none))) else (none)) else (none)) = some r := h
  clear h
  obtain ⟨ji3, hji3⟩ : ∃ j_ : Int, (wrap64 ((a1.size : Int) + 1)) = j_ := ⟨_, rfl⟩
  replace H : (if 0 ≤ (ji3) then (if (ji3 : Int).toNat ≤ 281474976710656 then ((some (List.replicate (ji3 : Int).toNat false : List Bool)).bind fun y103 => (if 0 < (y103.length : Int) then (escutcheonref14_Match.l0 k a0 a1 (y103.set (0 : Int).toNat true) 0) else (none))) else (none)) else (none)) = some r := by first | (rw [hji3] at H; exact H) | (simp only [hji3] at H ⊢; exact H)
  have hji3w : (IntKind.i64.wrap ((a1.size : Int) + 1)) = ji3 := (i64_w _).trans hji3
  by_cases c4 : 0 ≤ (ji3)
  · rw [if_pos c4] at H
    have c4b0 := eq_true c4
    have c4b1 : decide (0 ≤ (ji3)) = true := decide_eq_true c4
    clear c4
    by_cases c5 : (ji3 : Int).toNat ≤ 281474976710656
    · rw [if_pos c5] at H
      have c5b0 := eq_true c5
      have c5b1 : decide ((ji3 : Int).toNat ≤ 281474976710656) = true := decide_eq_true c5
      clear c5
      obtain ⟨y103, hy103⟩ : ∃ y_ : List Bool, y_ = (List.replicate (ji3 : Int).toNat false) := ⟨_, rfl⟩
      replace H : (if 0 < (y103.length : Int) then (escutcheonref14_Match.l0 k a0 a1 (y103.set (0 : Int).toNat true) 0) else (none)) = some r := by first | (rw [hy103]; with_reducible exact H) | (have H2_ := (Option.bind_some _ _).symm.trans H; rw [hy103]; with_reducible exact H2_) | (have H2_ := (Option.bind_some _ _).symm.trans H; with_reducible exact H2_) | with_reducible exact H | (rw [hy103]; exact H) | exact H
      have Ny103 := Aside0.mk hy103
      clear hy103
      by_cases c6 : 0 < (y103.length : Int)
      · rw [if_pos c6] at H
        have c6b0 : decide (0 < (y103.length : Int)) = true := decide_eq_true c6
        have c6b1 : decide (0 < y103.length) = true := decide_eq_true (by omega)
        clear c6
        obtain ⟨y106, hy106⟩ : ∃ y_ : List Bool, y_ = (y103.set (0 : Int).toNat true) := ⟨_, rfl⟩
        replace H : (escutcheonref14_Match.l0 k a0 a1 y106 0) = some r := by first | (rw [hy106]; with_reducible exact H) | (have H2_ := (Option.bind_some _ _).symm.trans H; rw [hy106]; with_reducible exact H2_) | (have H2_ := (Option.bind_some _ _).symm.trans H; with_reducible exact H2_) | with_reducible exact H | (rw [hy106]; exact H) | exact H
        have Ny106 := Aside0.mk hy106
        clear hy106
        have H' := Aside0.mk H
        clear H
        go_enter Tryd.func27, Tryd.ntmps27
        go_wp2_with (first | ((with_reducible refine gate_dst (N := 15) rfl ?_); refine Kd.R_make Kd.bool _ 4 rfl (N := 15) rfl 62 _ _ rfl ji3 rfl rfl Tryd.underlying62 (.bool false) 1 info4 rfl (by decide) (by omega) false (ok := fun _ => True) (okp := fun _ => True) rfl (fun _ hk => hk) trivial (of_decide_eq_true (by first | (with_reducible assumption) | assumption)) (Nat.le_trans (Nat.mul_le_mul_right _ (of_decide_eq_true (by first | (with_reducible assumption) | assumption) : ji3.toNat ≤ 281474976710656)) (by omega)) (Below.refl _ _) (Nat.le_refl _) ?_; intro v104 w8 ho9 hb hg_ hnew_; clear hg_ hnew_; (first | rw [← Ny103.out] at ho9 | (simp only [Int.reduceToNat] at ho9; rw [← Ny103.out] at ho9)); have n0_ := Aside0.mk (Kd.R_lower ho9 (below_size (by repeat (first | (with_reducible first | exact HB.out | apply below_alloc | apply pw_below_drewN | apply below_drew1) | exact HB.out)))); have n1_ := Aside0.mk (below_step (by repeat (first | (with_reducible first | exact HB.out | apply below_alloc | apply pw_below_drewN | apply below_drew1) | exact HB.out)) hb); clear HB; have HO105 := n0_; have HB := n1_; clear n0_ n1_; clear hb ho9; have p7 : 0 ≤ (0 : Int) := (by omega); have q7 : (0 : Int) < ((y103.length : Int) : Int) := of_decide_eq_true (by first | (with_reducible assumption) | assumption); have qi7 : (0 < y103.length) = True := eq_true (by omega); obtain ⟨go7, co7, eo7, gb7, gl7, cl7, HG7⟩ := Kd.R_form HO105.out (by omega); (first | cases eo7 | (injection eo7 with ea_ en_ ec_; (first | subst ea_ | (injection ea_ with ea_; subst ea_)); subst ec_; clear en_)); have GB7 := Aside0.mk gb7; have GG7 := Aside0.mk HG7; clear gb7 gl7 HG7; obtain ⟨hx7_0, hf7_0⟩ := Kd.R_celln false HO105.out (0 : Int) p7 q7; (try rw [show ((0 : Int)).toNat = 0 from rfl] at hx7_0); (try simp only [Nat.reduceMul, Nat.zero_mul, Nat.zero_add, Nat.reduceAdd] at hx7_0); (try rw [show ((0 : Int)).toNat = 0 from rfl] at hf7_0); (try simp only [Nat.reduceMul, Nat.zero_mul, Nat.zero_add, Nat.reduceAdd] at hf7_0); replace p7 := eq_true p7; replace q7 := eq_true q7; obtain ⟨hy10_, hz10_⟩ := Kd.R_celln false HO105.out (0 : Int) (by omega) (of_decide_eq_true (by first | (with_reducible assumption) | assumption)); (try simp only [Int.reduceToNat, Int.toNat_zero, Int.toNat_ofNat, Nat.reduceMul, Nat.zero_mul, Nat.zero_add] at hy10_ hz10_); (try rw [show ((0 : Int)).toNat = 0 from rfl] at hy10_); (try rw [show ((0 : Int)).toNat = 0 from rfl] at hz10_); have HP10 := Kd.R_putg HO105.out (0 : Int) true) | ((with_reducible refine gate_store (t := 4) (p := 17) rfl ?_); refine store_event (t := 4) (p := 17) (v := ?vo_w11) (w1 := (w8.setCell ⟨go7, (0 : Int).toNat, none⟩ (.bool true))) ?hg ?ho ?hn ?hr ?_; (case ho => rfl); (case hg => rfl); (case hn => rfl); (case hr => first | (go_simp; done) | (go_simp; rfl)); intro w11 hw; have hg : w8.grownBy w11 (some go7) := (by rw [hw]; exact HP10.2); have hp_ : Kd.R Kd.bool 4 w11 w.heap.size (fun _ => True) (.slice (some ⟨go7, 0, none⟩) y103.length co7) y106 := (by rw [hw, Ny106.out]; exact HP10.1); clear HP10; have n0_ := Aside0.mk (hp_); have n1_ := Aside0.mk ((by rw [hw]; exact below_set (HB.out) GB7.out : Below w.heap.size w w11)); clear HO105; clear HB; have HO105 := n0_; have HB := n1_; clear n0_ n1_; clear hg hw hp_))
        go_loopg [5, 6] k (fun kq v5 v6 w' => ∃ (x5_1 : List Bool) (x6_1 : Int), v6 = .int .i64 x6_1 ∧ Aside0 (escutcheonref14_Match.l0 kq a0 a1 x5_1 x6_1 = some r) ∧ Aside0 (kq ≤ k) ∧ Aside0 (Kd.R Kd.bool 4 w' w.heap.size (fun _ => True) v5 x5_1) ∧ Aside0 (Below w.heap.size w w'))
        case atStart => exact ⟨(y106), (0), (by first | rfl | (simp; done) | (simp [*]; done)), H', ⟨Nat.le_refl _⟩, ⟨by (with_reducible repeat (first | apply Kd.R_alloc | apply Kd.R_drewN | apply Kd.R_drew)); exact HO105.out⟩, ⟨by repeat (first | (with_reducible first | exact HB.out | apply below_alloc | apply pw_below_drewN | apply below_drew1) | exact HB.out)⟩⟩
        case round =>
          clear H'
          try clear c2
          try clear p2
          try clear c4
          try clear c4b0
          try clear c4b1
          try clear c5
          try clear c5b0
          try clear c5b1
          try clear c6
          try clear c6b0
          try clear c6b1
          try clear p6
          try clear p7
          try clear q7
          try clear hx7
          try clear qi7
          try clear hf7
          try clear hx7_0
          try clear p7
          try clear q7
          obtain ⟨x5_1, x6_1, rfl, HA, HK1, HO_5, HB⟩ := hrel
          cases gk with
          | zero => exact absurd HA.out (by simp [escutcheonref14_Match.l0])
          | succ k1 =>
            have H := HA.out
            clear HA
            simp only [escutcheonref14_Match.l0] at H
            by_cases c12 : x6_1 < (a0.size : Int)
            · rw [if_pos c12] at H
              have c12b0 : decide (x6_1 < (a0.size : Int)) = true := decide_eq_true c12
              clear c12
              try clear hji3w
              obtain ⟨ji13, hji13⟩ : ∃ j_ : Int, (wrap64 ((a1.size : Int) + 1)) = j_ := ⟨_, rfl⟩
              replace H : (if 0 ≤ (ji13) then (if (ji13 : Int).toNat ≤ 281474976710656 then ((some (List.replicate (ji13 : Int).toNat false : List Bool)).bind fun y108 => (if 0 ≤ x6_1 then (if (bt a0 x6_1) = 92 then (if 0 ≤ (wrap64 (x6_1 + 1)) then (if (wrap64 (x6_1 + 1)) < (a0.size : Int) then (escutcheonref14_Match.j1 k1 a0 a1 x5_1 (wrap64 (x6_1 + 1)) y108 (bt a0 (wrap64 (x6_1 + 1))) true) else (none)) else (none)) else (escutcheonref14_Match.j1 k1 a0 a1 x5_1 x6_1 y108 (bt a0 x6_1) false)) else (none))) else (none)) else (none)) = some r := by first | (rw [hji13] at H; exact H) | (simp only [hji13] at H ⊢; exact H)
              have hji13w : (IntKind.i64.wrap ((a1.size : Int) + 1)) = ji13 := (i64_w _).trans hji13
              by_cases c14 : 0 ≤ (ji13)
              · rw [if_pos c14] at H
                have c14b0 := eq_true c14
                have c14b1 : decide (0 ≤ (ji13)) = true := decide_eq_true c14
                clear c14
                by_cases c15 : (ji13 : Int).toNat ≤ 281474976710656
                · rw [if_pos c15] at H
                  have c15b0 := eq_true c15
                  have c15b1 : decide ((ji13 : Int).toNat ≤ 281474976710656) = true := decide_eq_true c15
                  clear c15
                  obtain ⟨y108, hy108⟩ : ∃ y_ : List Bool, y_ = (List.replicate (ji13 : Int).toNat false) := ⟨_, rfl⟩
                  replace H : (if 0 ≤ x6_1 then (if (bt a0 x6_1) = 92 then (if 0 ≤ (wrap64 (x6_1 + 1)) then (if (wrap64 (x6_1 + 1)) < (a0.size : Int) then (escutcheonref14_Match.j1 k1 a0 a1 x5_1 (wrap64 (x6_1 + 1)) y108 (bt a0 (wrap64 (x6_1 + 1))) true) else (none)) else (none)) else (escutcheonref14_Match.j1 k1 a0 a1 x5_1 x6_1 y108 (bt a0 x6_1) false)) else (none)) = some r := by first | (rw [hy108]; with_reducible exact H) | (have H2_ := (Option.bind_some _ _).symm.trans H; rw [hy108]; with_reducible exact H2_) | (have H2_ := (Option.bind_some _ _).symm.trans H; with_reducible exact H2_) | with_reducible exact H | (rw [hy108]; exact H) | exact H
                  have Ny108 := Aside0.mk hy108
                  clear hy108
                  by_cases c16 : 0 ≤ x6_1
                  · rw [if_pos c16] at H
                    have c16b0 : decide (0 ≤ x6_1) = true := decide_eq_true c16
                    clear c16
                    have HC18 := Aside0.mk H
                    clear H
                    go_upto_if 32 with (first | ((with_reducible refine gate_dst (N := 27) rfl ?_); refine Kd.R_make Kd.bool _ 4 rfl (N := 27) rfl 62 _ _ rfl ji13 rfl rfl Tryd.underlying62 (.bool false) 1 info4 rfl (by decide) (by omega) false (ok := fun _ => True) (okp := fun _ => True) rfl (fun _ hk => hk) trivial (of_decide_eq_true (by first | (with_reducible assumption) | assumption)) (Nat.le_trans (Nat.mul_le_mul_right _ (of_decide_eq_true (by first | (with_reducible assumption) | assumption) : ji13.toNat ≤ 281474976710656)) (by omega)) (Below.refl _ _) (Nat.le_refl _) ?_; intro v109 w19 ho20 hb hg_ hnew_; clear hg_ hnew_; (first | rw [← Ny108.out] at ho20 | (simp only [Int.reduceToNat] at ho20; rw [← Ny108.out] at ho20)); have n0_ := Aside0.mk (Kd.R_elder' (by (with_reducible repeat (first | apply Kd.R_alloc | apply Kd.R_drewN | apply Kd.R_drew)); exact HO_5.out) (Kd.R_base ho20) hb); have n1_ := Aside0.mk (Kd.R_lower (Kd.R_new' ho20 (Kd.R_lt (by (with_reducible repeat (first | apply Kd.R_alloc | apply Kd.R_drewN | apply Kd.R_drew)); exact HO_5.out))) (below_size (by repeat (first | (with_reducible first | exact HB.out | apply below_alloc | apply pw_below_drewN | apply below_drew1) | exact HB.out)))); have n2_ := Aside0.mk (below_step (by repeat (first | (with_reducible first | exact HB.out | apply below_alloc | apply pw_below_drewN | apply below_drew1) | exact HB.out)) hb); clear HO_5; clear HB; have HO_5 := n0_; have HO110 := n1_; have HB := n2_; clear n0_ n1_ n2_; clear hb ho20; have p17 : 0 ≤ (x6_1 : Int) := of_decide_eq_true (by first | (with_reducible assumption) | assumption); have q17 : x6_1 < (a0.size : Int) := of_decide_eq_true (by first | (with_reducible assumption) | assumption); have hx17 := bt_at a0 x6_1; replace p17 := eq_true p17; replace q17 := eq_true q17))
                    (try simp only [Act.put, List.setIfInBounds_toArray, List.set_cons_zero, List.set_cons_succ])
                    go_cut [6, 8, 9] (fun v6 v8 v9 wc => ∃ (kq : Nat) (x6_17 : Int) (x8_17 : Int) (x9_17 : Bool), v6 = .int .i64 x6_17 ∧ v8 = .int .u8 x8_17 ∧ v9 = .bool x9_17 ∧ Aside0 (escutcheonref14_Match.j1 kq a0 a1 x5_1 x6_17 y108 x8_17 x9_17 = some r) ∧ Aside0 (kq ≤ k1) ∧ Aside0 (Kd.R Kd.bool 4 wc w.heap.size (fun k_ => some k_ ≠ (v109 : Value).ownBlock) u5 x5_1) ∧ Aside0 (Kd.R Kd.bool 4 wc w.heap.size (fun k_ => some k_ ≠ (u5 : Value).ownBlock) v109 y108) ∧ Aside0 (Below w.heap.size w wc))
                    case first =>
                      have H := HC18.out
                      clear HC18
                      by_cases c21 : (bt a0 x6_1) = 92
                      · rw [if_pos c21] at H
                        have c21b0 : ((bt a0 x6_1) == 92) = true := beq_iff_eq.mpr c21
                        have c21b1 : ((bt a0 x6_1) != 92) = false := bne_eq_false_iff_eq.mpr c21
                        clear c21
                        (first | rw [c21b0] | (simp only [i64_w, i32_w]; rw [c21b0]) | skip)
                        obtain ⟨ji22, hji22⟩ : ∃ j_ : Int, (wrap64 (x6_1 + 1)) = j_ := ⟨_, rfl⟩
                        replace H : (if 0 ≤ (ji22) then (if (ji22) < (a0.size : Int) then (escutcheonref14_Match.j1 k1 a0 a1 x5_1 ji22 y108 (bt a0 (ji22)) true) else (none)) else (none)) = some r := by first | (rw [hji22] at H; exact H) | (simp only [hji22] at H ⊢; exact H)
                        have hji22w : (IntKind.i64.wrap (x6_1 + 1)) = ji22 := (i64_w _).trans hji22
                        by_cases c23 : 0 ≤ (ji22)
                        · rw [if_pos c23] at H
                          have c23b0 : decide (0 ≤ (ji22)) = true := decide_eq_true c23
                          clear c23
                          by_cases c24 : (ji22) < (a0.size : Int)
                          · rw [if_pos c24] at H
                            have c24b0 : decide ((ji22) < (a0.size : Int)) = true := decide_eq_true c24
                            clear c24
                            have H' := Aside0.mk H
                            clear H
                            have p25 : 0 ≤ ((ji22) : Int) := of_decide_eq_true (by first | (with_reducible assumption) | assumption)
                            have q25 : (ji22) < (a0.size : Int) := of_decide_eq_true (by first | (with_reducible assumption) | assumption)
                            have hx25 := bt_at a0 (ji22)
                            replace p25 := eq_true p25
                            replace q25 := eq_true q25
                            go_wp2
                            go_meet
                            case rel => exact ⟨_, (ji22), (bt a0 (ji22)), (true), (by first | rfl | (simp; done) | (simp only [← hji22] <;> (first | rfl | simp)) | (simp [*]; done)), (by first | rfl | (simp; done) | (simp only [← hji22] <;> (first | rfl | simp)) | (simp [*]; done)), (by first | rfl | (simp; done) | (simp [*]; done)), H', ⟨by have := HK1.out; first | omega | exact Nat.le_refl _⟩, ⟨by (with_reducible repeat (first | apply Kd.R_alloc | apply Kd.R_drewN | apply Kd.R_drew)); exact Kd.R_mono HO_5.out (fun _ hk => hk.2)⟩, ⟨by (with_reducible repeat (first | apply Kd.R_alloc | apply Kd.R_drewN | apply Kd.R_drew)); exact Kd.R_mono HO110.out (fun _ hk => hk.2)⟩, ⟨by repeat (first | (with_reducible first | exact HB.out | apply below_alloc | apply pw_below_drewN | apply below_drew1) | exact HB.out)⟩⟩
                          · rw [if_neg c24] at H
                            exact absurd H (by simp)
                        · rw [if_neg c23] at H
                          exact absurd H (by simp)
                      · rw [if_neg c21] at H
                        have c21b0 : ((bt a0 x6_1) == 92) = false := beq_eq_false_iff_ne.mpr c21
                        have c21b1 : ((bt a0 x6_1) != 92) = true := bne_iff_ne.mpr c21
                        (first | rw [c21b0] | (simp only [i64_w, i32_w]; rw [c21b0]) | skip)
                        have H' := Aside0.mk H
                        clear H
                        go_wp2
                        go_meet
                        case rel => exact ⟨_, (x6_1), (bt a0 x6_1), (false), (by first | rfl | (simp; done) | (simp [*]; done)), (by first | rfl | (simp; done) | (simp [*]; done)), (by first | rfl | (simp; done) | (simp [*]; done)), H', ⟨by have := HK1.out; first | omega | exact Nat.le_refl _⟩, ⟨by (with_reducible repeat (first | apply Kd.R_alloc | apply Kd.R_drewN | apply Kd.R_drew)); exact Kd.R_mono HO_5.out (fun _ hk => hk.2)⟩, ⟨by (with_reducible repeat (first | apply Kd.R_alloc | apply Kd.R_drewN | apply Kd.R_drew)); exact Kd.R_mono HO110.out (fun _ hk => hk.2)⟩, ⟨by repeat (first | (with_reducible first | exact HB.out | apply below_alloc | apply pw_below_drewN | apply below_drew1) | exact HB.out)⟩⟩
                    case rest =>
                      clear HC18
                      try clear c1
                      try clear p1
                      try clear q1
                      try clear hx1
                      try clear c2
                      try clear p2
                      try clear q2
                      try clear hx2
                      try clear c4
                      try clear c4b0
                      try clear c4b1
                      try clear c5
                      try clear c5b0
                      try clear c5b1
                      try clear c6
                      try clear c6b0
                      try clear c6b1
                      try clear p6
                      try clear p7
                      try clear q7
                      try clear hx7
                      try clear qi7
                      try clear hf7
                      try clear c12
                      try clear c12b0
                      try clear c14
                      try clear c14b0
                      try clear c14b1
                      try clear c15
                      try clear c15b0
                      try clear c15b1
                      try clear c16
                      try clear c16b0
                      try clear p17
                      try clear q17
                      try clear hx17
                      try clear c21
                      try clear c21b0
                      try clear c21b1
                      try clear c23
                      try clear c23b0
                      try clear c24
                      try clear c24b0
                      try clear p25
                      try clear q25
                      try clear hx25
                      try clear hx7_0
                      try clear p17
                      try clear p2
                      try clear p25
                      try clear p6
                      try clear p7
                      try clear q17
                      try clear q25
                      try clear q7
                      obtain ⟨kq, x6_17, x8_17, x9_17, rfl, rfl, rfl, HA, HJ17, HO_5, HO_7, HB⟩ := hcut
                      cases kq with
                      | zero => exact absurd HA.out (by simp [escutcheonref14_Match.j1])
                      | succ kj17 =>
                        have H := HA.out
                        clear HA
                        simp only [escutcheonref14_Match.j1] at H
                        have H' := Aside0.mk H
                        clear H
                        go_wp2
                        go_loopg [10] kj17 (fun kq v10 w' => ∃ (x7_3 : List Bool) (x10_3 : Int), v10 = .int .i64 x10_3 ∧ Aside0 (escutcheonref14_Match.l1 kq a0 a1 x5_1 x6_17 x7_3 x8_17 x9_17 x10_3 = some r) ∧ Aside0 (kq ≤ kj17) ∧ Aside0 (Kd.R Kd.bool 4 w' w.heap.size (fun k_ => some k_ ≠ (v109 : Value).ownBlock) u5 x5_1) ∧ Aside0 (Kd.R Kd.bool 4 w' w.heap.size (fun k_ => some k_ ≠ (u5 : Value).ownBlock) v109 x7_3) ∧ Aside0 (Below w.heap.size w w'))
                        case atStart => exact ⟨(y108), (0), (by first | rfl | (simp; done) | (simp [*]; done)), H', ⟨Nat.le_refl _⟩, ⟨by (with_reducible repeat (first | apply Kd.R_alloc | apply Kd.R_drewN | apply Kd.R_drew)); exact HO_5.out⟩, ⟨by (with_reducible repeat (first | apply Kd.R_alloc | apply Kd.R_drewN | apply Kd.R_drew)); exact HO_7.out⟩, ⟨by repeat (first | (with_reducible first | exact HB.out | apply below_alloc | apply pw_below_drewN | apply below_drew1) | exact HB.out)⟩⟩
                        case round =>
                          clear H'
                          try clear c1
                          try clear p1
                          try clear q1
                          try clear hx1
                          try clear c2
                          try clear p2
                          try clear q2
                          try clear hx2
                          try clear c4
                          try clear c4b0
                          try clear c4b1
                          try clear c5
                          try clear c5b0
                          try clear c5b1
                          try clear c6
                          try clear c6b0
                          try clear c6b1
                          try clear p6
                          try clear p7
                          try clear q7
                          try clear hx7
                          try clear qi7
                          try clear hf7
                          try clear c12
                          try clear c12b0
                          try clear c14
                          try clear c14b0
                          try clear c14b1
                          try clear c15
                          try clear c15b0
                          try clear c15b1
                          try clear c16
                          try clear c16b0
                          try clear p17
                          try clear q17
                          try clear hx17
                          try clear c21
                          try clear c21b0
                          try clear c21b1
                          try clear c23
                          try clear c23b0
                          try clear c24
                          try clear c24b0
                          try clear p25
                          try clear q25
                          try clear hx25
                          try clear hx7_0
                          try clear p1
                          try clear p17
                          try clear p2
                          try clear p25
                          try clear p6
                          try clear p7
                          try clear q1
                          try clear q17
                          try clear q2
                          try clear q25
                          try clear q7
                          obtain ⟨x7_3, x10_3, rfl, HA, HK3, HO_5, HO_7, HB⟩ := hrel
                          cases gk with
                          | zero => exact absurd HA.out (by simp [escutcheonref14_Match.l1])
                          | succ k3 =>
                            have H := HA.out
                            clear HA
                            simp only [escutcheonref14_Match.l1] at H
                            by_cases c26 : x10_3 ≤ (a1.size : Int)
                            · rw [if_pos c26] at H
                              have c26b0 : decide (x10_3 ≤ (a1.size : Int)) = true := decide_eq_true c26
                              clear c26
                              by_cases c27 : 0 ≤ x10_3
                              · rw [if_pos c27] at H
                                have c27b0 : decide (0 ≤ x10_3) = true := decide_eq_true c27
                                clear c27
                                by_cases c28 : x10_3 < (x5_1.length : Int)
                                · rw [if_pos c28] at H
                                  have c28b0 : decide (x10_3 < (x5_1.length : Int)) = true := decide_eq_true c28
                                  clear c28
                                  obtain ⟨bq29, hbq29⟩ : ∃ b_ : Bool, b_ = (rdOf false x5_1 x10_3) := ⟨_, rfl⟩
                                  replace H : (if bq29 = true then (if x8_17 = 42 then (escutcheonref14_Match.j3 k3 a0 a1 x5_1 x6_17 x7_3 x8_17 x9_17 x10_3 (!x9_17)) else (escutcheonref14_Match.j3 k3 a0 a1 x5_1 x6_17 x7_3 x8_17 x9_17 x10_3 false)) else (escutcheonref14_Match.l1 k3 a0 a1 x5_1 x6_17 x7_3 x8_17 x9_17 (wrap64 (x10_3 + 1)))) = some r := by rw [← hbq29] at H; exact H
                                  have Nbq29 := Aside0.mk hbq29
                                  clear hbq29
                                  by_cases c30 : bq29 = true
                                  · subst c30
                                    have H1 : (if x8_17 = 42 then (escutcheonref14_Match.j3 k3 a0 a1 x5_1 x6_17 x7_3 x8_17 x9_17 x10_3 (!x9_17)) else (escutcheonref14_Match.j3 k3 a0 a1 x5_1 x6_17 x7_3 x8_17 x9_17 x10_3 false)) = some r := by rw [if_pos rfl] at H; exact H
                                    clear H
                                    have H := H1
                                    clear H1
                                    have HC31 := Aside0.mk H
                                    clear H
                                    obtain ⟨Ao32, co32, eo32⟩ := Kd.R_slice HO_5.out
                                    subst eo32
                                    have p111 : 0 ≤ (x10_3 : Int) := of_decide_eq_true (by first | (with_reducible assumption) | assumption)
                                    have q111 : x10_3 < (x5_1.length : Int) := of_decide_eq_true (by first | (with_reducible assumption) | assumption)
                                    obtain ⟨ad111, e111, hx111_0⟩ := Kd.at_bool (Kd.R_reads' HO_5.out).2.2 x10_3 p111 q111
                                    (try rw [← Nbq29.out] at hx111_0)
                                    cases e111
                                    replace p111 := eq_true p111
                                    replace q111 := eq_true q111
                                    go_upto_region 15 with (fail)
                                    go_cut [50] (fun v50 wc => ∃ (kq : Nat) (x50_30 : Bool), v50 = .bool x50_30 ∧ Aside0 (escutcheonref14_Match.j3 kq a0 a1 x5_1 x6_17 x7_3 x8_17 x9_17 x10_3 x50_30 = some r) ∧ Aside0 (kq ≤ k3) ∧ Aside0 (Kd.R Kd.bool 4 wc w.heap.size (fun k_ => some k_ ≠ (v109 : Value).ownBlock) (.slice (some ad111) x5_1.length co32) x5_1) ∧ Aside0 (Kd.R Kd.bool 4 wc w.heap.size (fun k_ => some k_ ≠ ((.slice (some ad111) x5_1.length co32) : Value).ownBlock) v109 x7_3) ∧ Aside0 (Below w.heap.size w wc))
                                    case first =>
                                      have H := HC31.out
                                      clear HC31
                                      by_cases c33 : x8_17 = 42
                                      · rw [if_pos c33] at H
                                        have c33b0 : (x8_17 == 42) = true := beq_iff_eq.mpr c33
                                        have c33b1 : (x8_17 != 42) = false := bne_eq_false_iff_eq.mpr c33
                                        clear c33
                                        (first | rw [c33b0] | (simp only [i64_w, i32_w]; rw [c33b0]) | skip)
                                        have H' := Aside0.mk H
                                        clear H
                                        go_wp2
                                        go_meet
                                        case rel => exact ⟨_, (!x9_17), (by first | rfl | (simp; done) | (simp [*]; done)), H', ⟨by have := HK1.out; have := HJ17.out; have := HK3.out; first | omega | exact Nat.le_refl _⟩, ⟨by (with_reducible repeat (first | apply Kd.R_alloc | apply Kd.R_drewN | apply Kd.R_drew)); exact HO_5.out⟩, ⟨by (with_reducible repeat (first | apply Kd.R_alloc | apply Kd.R_drewN | apply Kd.R_drew)); exact HO_7.out⟩, ⟨by repeat (first | (with_reducible first | exact HB.out | apply below_alloc | apply pw_below_drewN | apply below_drew1) | exact HB.out)⟩⟩
                                      · rw [if_neg c33] at H
                                        have c33b0 : (x8_17 == 42) = false := beq_eq_false_iff_ne.mpr c33
                                        have c33b1 : (x8_17 != 42) = true := bne_iff_ne.mpr c33
                                        (first | rw [c33b0] | (simp only [i64_w, i32_w]; rw [c33b0]) | skip)
                                        have H' := Aside0.mk H
                                        clear H
                                        go_wp2
                                        go_meet
                                        case rel => exact ⟨_, (false), (by first | rfl | (simp; done) | (simp [*]; done)), H', ⟨by have := HK1.out; have := HJ17.out; have := HK3.out; first | omega | exact Nat.le_refl _⟩, ⟨by (with_reducible repeat (first | apply Kd.R_alloc | apply Kd.R_drewN | apply Kd.R_drew)); exact HO_5.out⟩, ⟨by (with_reducible repeat (first | apply Kd.R_alloc | apply Kd.R_drewN | apply Kd.R_drew)); exact HO_7.out⟩, ⟨by repeat (first | (with_reducible first | exact HB.out | apply below_alloc | apply pw_below_drewN | apply below_drew1) | exact HB.out)⟩⟩
                                    case rest =>
                                      clear HC31
                                      try clear c1
                                      try clear p1
                                      try clear q1
                                      try clear hx1
                                      try clear c2
                                      try clear p2
                                      try clear q2
                                      try clear hx2
                                      try clear c3
                                      try clear c4
                                      try clear c4b0
                                      try clear c4b1
                                      try clear c5
                                      try clear c5b0
                                      try clear c5b1
                                      try clear c6
                                      try clear c6b0
                                      try clear c6b1
                                      try clear p6
                                      try clear p7
                                      try clear q7
                                      try clear hx7
                                      try clear qi7
                                      try clear hf7
                                      try clear p11
                                      try clear q11
                                      try clear hx11
                                      try clear c12
                                      try clear c12b0
                                      try clear c14
                                      try clear c14b0
                                      try clear c14b1
                                      try clear c15
                                      try clear c15b0
                                      try clear c15b1
                                      try clear c16
                                      try clear c16b0
                                      try clear p17
                                      try clear q17
                                      try clear hx17
                                      try clear c21
                                      try clear c21b0
                                      try clear c21b1
                                      try clear c23
                                      try clear c23b0
                                      try clear c24
                                      try clear c24b0
                                      try clear p25
                                      try clear q25
                                      try clear hx25
                                      try clear c26
                                      try clear c26b0
                                      try clear c27
                                      try clear c27b0
                                      try clear c28
                                      try clear c28b0
                                      try clear q29
                                      try clear c30
                                      try clear c33
                                      try clear c33b0
                                      try clear c33b1
                                      try clear hx111_0
                                      try clear hx7_0
                                      try clear p1
                                      try clear p111
                                      try clear p17
                                      try clear p2
                                      try clear p25
                                      try clear p6
                                      try clear p7
                                      try clear q1
                                      try clear q111
                                      try clear q17
                                      try clear q2
                                      try clear q25
                                      try clear q7
                                      obtain ⟨kq, x50_30, rfl, HA, HJ30, HO_5, HO_7, HB⟩ := hcut
                                      cases kq with
                                      | zero => exact absurd HA.out (by simp [escutcheonref14_Match.j3])
                                      | succ kj30 =>
                                        have H := HA.out
                                        clear HA
                                        simp only [escutcheonref14_Match.j3] at H
                                        by_cases c34 : x50_30 = true
                                        · subst c34
                                          have H1 : (escutcheonref14_Match.l2 kj30 a0 a1 x5_1 x6_17 x7_3 x8_17 x9_17 x10_3 x10_3) = some r := by rw [if_pos rfl] at H; exact H
                                          clear H
                                          have H := H1
                                          clear H1
                                          have H' := Aside0.mk H
                                          clear H
                                          go_wp2
                                          go_loopg [11] kj30 (fun kq v11 w' => ∃ (x7_5 : List Bool) (x11_5 : Int), v11 = .int .i64 x11_5 ∧ Aside0 (escutcheonref14_Match.l2 kq a0 a1 x5_1 x6_17 x7_5 x8_17 x9_17 x10_3 x11_5 = some r) ∧ Aside0 (kq ≤ kj30) ∧ Aside0 (Kd.R Kd.bool 4 w' w.heap.size (fun k_ => some k_ ≠ (v109 : Value).ownBlock) (.slice (some ad111) x5_1.length co32) x5_1) ∧ Aside0 (Kd.R Kd.bool 4 w' w.heap.size (fun k_ => some k_ ≠ ((.slice (some ad111) x5_1.length co32) : Value).ownBlock) v109 x7_5) ∧ Aside0 (Below w.heap.size w w'))
                                          case atStart => exact ⟨(x7_3), (x10_3), (by first | rfl | (simp; done) | (simp [*]; done)), H', ⟨Nat.le_refl _⟩, ⟨by (with_reducible repeat (first | apply Kd.R_alloc | apply Kd.R_drewN | apply Kd.R_drew)); exact HO_5.out⟩, ⟨by (with_reducible repeat (first | apply Kd.R_alloc | apply Kd.R_drewN | apply Kd.R_drew)); exact HO_7.out⟩, ⟨by repeat (first | (with_reducible first | exact HB.out | apply below_alloc | apply pw_below_drewN | apply below_drew1) | exact HB.out)⟩⟩
                                          case round =>
                                            clear H'
                                            try clear c1
                                            try clear p1
                                            try clear q1
                                            try clear hx1
                                            try clear c2
                                            try clear p2
                                            try clear q2
                                            try clear hx2
                                            try clear c3
                                            try clear c4
                                            try clear c4b0
                                            try clear c4b1
                                            try clear c5
                                            try clear c5b0
                                            try clear c5b1
                                            try clear c6
                                            try clear c6b0
                                            try clear c6b1
                                            try clear p6
                                            try clear p7
                                            try clear q7
                                            try clear hx7
                                            try clear qi7
                                            try clear hf7
                                            try clear p11
                                            try clear q11
                                            try clear hx11
                                            try clear c12
                                            try clear c12b0
                                            try clear c14
                                            try clear c14b0
                                            try clear c14b1
                                            try clear c15
                                            try clear c15b0
                                            try clear c15b1
                                            try clear c16
                                            try clear c16b0
                                            try clear p17
                                            try clear q17
                                            try clear hx17
                                            try clear c21
                                            try clear c21b0
                                            try clear c21b1
                                            try clear c23
                                            try clear c23b0
                                            try clear c24
                                            try clear c24b0
                                            try clear p25
                                            try clear q25
                                            try clear hx25
                                            try clear c26
                                            try clear c26b0
                                            try clear c27
                                            try clear c27b0
                                            try clear c28
                                            try clear c28b0
                                            try clear q29
                                            try clear c30
                                            try clear c33
                                            try clear c33b0
                                            try clear c33b1
                                            try clear c34
                                            try clear hx111_0
                                            try clear hx7_0
                                            try clear p1
                                            try clear p11
                                            try clear p111
                                            try clear p17
                                            try clear p2
                                            try clear p25
                                            try clear p6
                                            try clear p7
                                            try clear q1
                                            try clear q11
                                            try clear q111
                                            try clear q17
                                            try clear q2
                                            try clear q25
                                            try clear q29
                                            try clear q7
                                            obtain ⟨x7_5, x11_5, rfl, HA, HK5, HO_5, HO_7, HB⟩ := hrel
                                            cases gk with
                                            | zero => exact absurd HA.out (by simp [escutcheonref14_Match.l2])
                                            | succ k5 =>
                                              have H := HA.out
                                              clear HA
                                              simp only [escutcheonref14_Match.l2] at H
                                              by_cases c35 : x11_5 ≤ (a1.size : Int)
                                              · rw [if_pos c35] at H
                                                have c35b0 : decide (x11_5 ≤ (a1.size : Int)) = true := decide_eq_true c35
                                                clear c35
                                                by_cases c36 : 0 ≤ x11_5
                                                · rw [if_pos c36] at H
                                                  have c36b0 : decide (0 ≤ x11_5) = true := decide_eq_true c36
                                                  clear c36
                                                  by_cases c37 : x11_5 < (x7_5.length : Int)
                                                  · rw [if_pos c37] at H
                                                    have c37b0 : decide (x11_5 < (x7_5.length : Int)) = true := decide_eq_true c37
                                                    clear c37
                                                    obtain ⟨y112, hy112⟩ : ∃ y_ : List Bool, y_ = (x7_5.set (x11_5 : Int).toNat true) := ⟨_, rfl⟩
                                                    replace H : (escutcheonref14_Match.l2 k5 a0 a1 x5_1 x6_17 y112 x8_17 x9_17 x10_3 (wrap64 (x11_5 + 1))) = some r := by first | (rw [hy112]; with_reducible exact H) | (have H2_ := (Option.bind_some _ _).symm.trans H; rw [hy112]; with_reducible exact H2_) | (have H2_ := (Option.bind_some _ _).symm.trans H; with_reducible exact H2_) | with_reducible exact H | (rw [hy112]; exact H) | exact H
                                                    have Ny112 := Aside0.mk hy112
                                                    clear hy112
                                                    have H' := Aside0.mk H
                                                    clear H
                                                    have p38 : 0 ≤ (x11_5 : Int) := of_decide_eq_true (by first | (with_reducible assumption) | assumption)
                                                    have q38 : (x11_5 : Int) < ((x7_5.length : Int) : Int) := of_decide_eq_true (by first | (with_reducible assumption) | assumption)
                                                    obtain ⟨go38, co38, eo38, gb38, gl38, cl38, HG38⟩ := Kd.R_form HO_7.out (by omega)
                                                    (first | cases eo38 | (injection eo38 with ea_ en_ ec_; (first | subst ea_ | (injection ea_ with ea_; subst ea_)); subst ec_; clear en_))
                                                    have GB38 := Aside0.mk gb38
                                                    have GG38 := Aside0.mk HG38
                                                    clear gb38 gl38 HG38
                                                    obtain ⟨hx38_0, hf38_0⟩ := Kd.R_celln false HO_7.out (x11_5 : Int) p38 q38
                                                    replace p38 := eq_true p38
                                                    replace q38 := eq_true q38
                                                    have HP39 := Kd.R_putg HO_7.out (x11_5 : Int) true
                                                    go_wp2_with (first | ((with_reducible refine gate_store (t := 4) (p := 66) rfl ?_); refine store_event (t := 4) (p := 66) (v := ?vo_w40) (w1 := (wr.setCell ⟨go38, (x11_5 : Int).toNat, none⟩ (.bool true))) ?hg ?ho ?hn ?hr ?_; (case ho => rfl); (case hg => rfl); (case hn => rfl); (case hr => first | (go_simp; done) | (go_simp; rfl)); intro w40 hw; have hg : wr.grownBy w40 (some go38) := (by rw [hw]; exact HP39.2); have hp_ : Kd.R Kd.bool 4 w40 w.heap.size (fun k_ => some k_ ≠ (.slice (some ad111) x5_1.length co32 : Value).ownBlock) (.slice (some ⟨go38, 0, none⟩) x7_5.length co38) y112 := (by rw [hw, Ny112.out]; exact HP39.1); clear HP39; have n0_ := Aside0.mk (Kd.R_after (v := (.slice (some ⟨go38, 0, none⟩) x7_5.length co38)) (v1 := (.slice (some ⟨go38, 0, none⟩) x7_5.length co38)) (ok := (fun _ => True)) (by (with_reducible repeat (first | apply Kd.R_alloc | apply Kd.R_drewN | apply Kd.R_drew)); exact Kd.R_mono HO_5.out (fun _ hk => ⟨trivial, hk⟩)) hg (.inl rfl)); have n1_ := Aside0.mk (hp_); have n2_ := Aside0.mk ((by rw [hw]; exact below_set (HB.out) GB38.out : Below w.heap.size w w40)); clear HO_5; clear HO_7; clear HB; have HO_5 := n0_; have HO_7 := n1_; have HB := n2_; clear n0_ n1_ n2_; clear hg hw hp_))
                                                    go_roundg k5
                                                    case measure => have := HK1.out; have := HJ17.out; have := HK3.out; have := HJ30.out; have := HK5.out; omega
                                                    case rel => exact ⟨(y112), (wrap64 (x11_5 + 1)), (by first | rfl | (simp; done) | (simp [*]; done)), H', ⟨by have := HK1.out; have := HJ17.out; have := HK3.out; have := HJ30.out; have := HK5.out; omega⟩, ⟨by (with_reducible repeat (first | apply Kd.R_alloc | apply Kd.R_drewN | apply Kd.R_drew)); exact Kd.R_mono HO_5.out (fun _ hk => hk.2)⟩, ⟨by (with_reducible repeat (first | apply Kd.R_alloc | apply Kd.R_drewN | apply Kd.R_drew)); exact HO_7.out⟩, ⟨by repeat (first | (with_reducible first | exact HB.out | apply below_alloc | apply pw_below_drewN | apply below_drew1) | exact HB.out)⟩⟩
                                                  · rw [if_neg c37] at H
                                                    exact absurd H (by simp)
                                                · rw [if_neg c36] at H
                                                  exact absurd H (by simp)
                                              · rw [if_neg c35] at H
                                                have c35b0 : decide (x11_5 ≤ (a1.size : Int)) = false := decide_eq_false c35
                                                clear c35
                                                have H' := Aside0.mk H
                                                clear H
                                                go_wp2
                                                go_roundg k5
                                                case measure => have := HK1.out; have := HJ17.out; have := HK3.out; have := HJ30.out; have := HK5.out; omega
                                                case rel => exact ⟨(x7_5), (wrap64 (x10_3 + 1)), (by first | rfl | (simp; done) | (simp [*]; done)), H', ⟨by have := HK1.out; have := HJ17.out; have := HK3.out; have := HJ30.out; have := HK5.out; omega⟩, ⟨by (with_reducible repeat (first | apply Kd.R_alloc | apply Kd.R_drewN | apply Kd.R_drew)); exact HO_5.out⟩, ⟨by (with_reducible repeat (first | apply Kd.R_alloc | apply Kd.R_drewN | apply Kd.R_drew)); exact HO_7.out⟩, ⟨by repeat (first | (with_reducible first | exact HB.out | apply below_alloc | apply pw_below_drewN | apply below_drew1) | exact HB.out)⟩⟩
                                        · replace c34 := Bool.eq_false_iff.mpr c34
                                          subst c34
                                          have H1 : (if x10_3 < (a1.size : Int) then (if x8_17 = 63 then (if x9_17 = true then (if 0 ≤ x10_3 then (if (bt a1 x10_3) = x8_17 then (if 0 ≤ (wrap64 (x10_3 + 1)) then (if (wrap64 (x10_3 + 1)) < (x7_3.length : Int) then (escutcheonref14_Match.l1 kj30 a0 a1 x5_1 x6_17 (x7_3.set ((wrap64 (x10_3 + 1)) : Int).toNat true) x8_17 x9_17 (wrap64 (x10_3 + 1))) else (none)) else (none)) else (escutcheonref14_Match.l1 kj30 a0 a1 x5_1 x6_17 x7_3 x8_17 x9_17 (wrap64 (x10_3 + 1)))) else (none)) else (if 0 ≤ (wrap64 (x10_3 + 1)) then (if (wrap64 (x10_3 + 1)) < (x7_3.length : Int) then (escutcheonref14_Match.l1 kj30 a0 a1 x5_1 x6_17 (x7_3.set ((wrap64 (x10_3 + 1)) : Int).toNat true) x8_17 x9_17 (wrap64 (x10_3 + 1))) else (none)) else (none))) else (if 0 ≤ x10_3 then (if (bt a1 x10_3) = x8_17 then (if 0 ≤ (wrap64 (x10_3 + 1)) then (if (wrap64 (x10_3 + 1)) < (x7_3.length : Int) then (escutcheonref14_Match.l1 kj30 a0 a1 x5_1 x6_17 (x7_3.set ((wrap64 (x10_3 + 1)) : Int).toNat true) x8_17 x9_17 (wrap64 (x10_3 + 1))) else (none)) else (none)) else (escutcheonref14_Match.l1 kj30 a0 a1 x5_1 x6_17 x7_3 x8_17 x9_17 (wrap64 (x10_3 + 1)))) else (none))) else (escutcheonref14_Match.l1 kj30 a0 a1 x5_1 x6_17 x7_3 x8_17 x9_17 (wrap64 (x10_3 + 1)))) = some r := by rw [if_neg (show ¬ (false = true) by decide)] at H; exact H
                                          clear H
                                          have H := H1
                                          clear H1
                                          by_cases c41 : x10_3 < (a1.size : Int)
                                          · rw [if_pos c41] at H
                                            have c41b0 : decide (x10_3 < (a1.size : Int)) = true := decide_eq_true c41
                                            clear c41
                                            by_cases c42 : x8_17 = 63
                                            · rw [if_pos c42] at H
                                              have c42b0 : (x8_17 == 63) = true := beq_iff_eq.mpr c42
                                              have c42b1 : (x8_17 != 63) = false := bne_eq_false_iff_eq.mpr c42
                                              clear c42
                                              by_cases c43 : x9_17 = true
                                              · subst c43
                                                have H1 : (if 0 ≤ x10_3 then (if (bt a1 x10_3) = x8_17 then (if 0 ≤ (wrap64 (x10_3 + 1)) then (if (wrap64 (x10_3 + 1)) < (x7_3.length : Int) then (escutcheonref14_Match.l1 kj30 a0 a1 x5_1 x6_17 (x7_3.set ((wrap64 (x10_3 + 1)) : Int).toNat true) x8_17 true (wrap64 (x10_3 + 1))) else (none)) else (none)) else (escutcheonref14_Match.l1 kj30 a0 a1 x5_1 x6_17 x7_3 x8_17 true (wrap64 (x10_3 + 1)))) else (none)) = some r := by rw [if_pos rfl] at H; exact H
                                                clear H
                                                have H := H1
                                                clear H1
                                                by_cases c44 : 0 ≤ x10_3
                                                · rw [if_pos c44] at H
                                                  have c44b0 : decide (0 ≤ x10_3) = true := decide_eq_true c44
                                                  clear c44
                                                  by_cases c46 : (bt a1 x10_3) = x8_17
                                                  · rw [if_pos c46] at H
                                                    have c46b0 : ((bt a1 x10_3) == x8_17) = true := beq_iff_eq.mpr c46
                                                    have c46b1 : ((bt a1 x10_3) != x8_17) = false := bne_eq_false_iff_eq.mpr c46
                                                    clear c46
                                                    obtain ⟨ji47, hji47⟩ : ∃ j_ : Int, (wrap64 (x10_3 + 1)) = j_ := ⟨_, rfl⟩
                                                    replace H : (if 0 ≤ (ji47) then (if (ji47) < (x7_3.length : Int) then (escutcheonref14_Match.l1 kj30 a0 a1 x5_1 x6_17 (x7_3.set ((ji47) : Int).toNat true) x8_17 true ji47) else (none)) else (none)) = some r := by first | (rw [hji47] at H; exact H) | (simp only [hji47] at H ⊢; exact H)
                                                    have hji47w : (IntKind.i64.wrap (x10_3 + 1)) = ji47 := (i64_w _).trans hji47
                                                    by_cases c48 : 0 ≤ (ji47)
                                                    · rw [if_pos c48] at H
                                                      have c48b0 : decide (0 ≤ (ji47)) = true := decide_eq_true c48
                                                      clear c48
                                                      by_cases c49 : (ji47) < (x7_3.length : Int)
                                                      · rw [if_pos c49] at H
                                                        have c49b0 : decide ((ji47) < (x7_3.length : Int)) = true := decide_eq_true c49
                                                        clear c49
                                                        obtain ⟨y113, hy113⟩ : ∃ y_ : List Bool, y_ = (x7_3.set ((ji47) : Int).toNat true) := ⟨_, rfl⟩
                                                        replace H : (escutcheonref14_Match.l1 kj30 a0 a1 x5_1 x6_17 y113 x8_17 true ji47) = some r := by first | (rw [hy113]; with_reducible exact H) | (have H2_ := (Option.bind_some _ _).symm.trans H; rw [hy113]; with_reducible exact H2_) | (have H2_ := (Option.bind_some _ _).symm.trans H; with_reducible exact H2_) | with_reducible exact H | (rw [hy113]; exact H) | exact H
                                                        have Ny113 := Aside0.mk hy113
                                                        clear hy113
                                                        have H' := Aside0.mk H
                                                        clear H
                                                        have p45 : 0 ≤ (x10_3 : Int) := of_decide_eq_true (by first | (with_reducible assumption) | assumption)
                                                        have q45 : x10_3 < (a1.size : Int) := of_decide_eq_true (by first | (with_reducible assumption) | assumption)
                                                        have hx45 := bt_at a1 x10_3
                                                        replace p45 := eq_true p45
                                                        replace q45 := eq_true q45
                                                        have p50 : 0 ≤ ((ji47) : Int) := of_decide_eq_true (by first | (with_reducible assumption) | assumption)
                                                        have q50 : ((ji47) : Int) < ((x7_3.length : Int) : Int) := of_decide_eq_true (by first | (with_reducible assumption) | assumption)
                                                        obtain ⟨go50, co50, eo50, gb50, gl50, cl50, HG50⟩ := Kd.R_form HO_7.out (by omega)
                                                        (first | cases eo50 | (injection eo50 with ea_ en_ ec_; (first | subst ea_ | (injection ea_ with ea_; subst ea_)); subst ec_; clear en_))
                                                        have GB50 := Aside0.mk gb50
                                                        have GG50 := Aside0.mk HG50
                                                        clear gb50 gl50 HG50
                                                        obtain ⟨hx50_0, hf50_0⟩ := Kd.R_celln false HO_7.out ((ji47) : Int) p50 q50
                                                        replace p50 := eq_true p50
                                                        replace q50 := eq_true q50
                                                        have HP51 := Kd.R_putg HO_7.out ((ji47) : Int) true
                                                        go_wp2_with (first | ((with_reducible refine gate_store (t := 4) (p := 90) rfl ?_); refine store_event (t := 4) (p := 90) (v := ?vo_w52) (w1 := (wc.setCell ⟨go50, ((ji47) : Int).toNat, none⟩ (.bool true))) ?hg ?ho ?hn ?hr ?_; (case ho => rfl); (case hg => rfl); (case hn => rfl); (case hr => first | (go_simp; done) | (go_simp; rfl)); intro w52 hw; have hg : wc.grownBy w52 (some go50) := (by rw [hw]; exact HP51.2); have hp_ : Kd.R Kd.bool 4 w52 w.heap.size (fun k_ => some k_ ≠ (.slice (some ad111) x5_1.length co32 : Value).ownBlock) (.slice (some ⟨go50, 0, none⟩) x7_3.length co50) y113 := (by rw [hw, Ny113.out]; exact HP51.1); clear HP51; have n0_ := Aside0.mk (Kd.R_after (v := (.slice (some ⟨go50, 0, none⟩) x7_3.length co50)) (v1 := (.slice (some ⟨go50, 0, none⟩) x7_3.length co50)) (ok := (fun _ => True)) (by (with_reducible repeat (first | apply Kd.R_alloc | apply Kd.R_drewN | apply Kd.R_drew)); exact Kd.R_mono HO_5.out (fun _ hk => ⟨trivial, hk⟩)) hg (.inl rfl)); have n1_ := Aside0.mk (hp_); have n2_ := Aside0.mk ((by rw [hw]; exact below_set (HB.out) GB50.out : Below w.heap.size w w52)); clear HO_5; clear HO_7; clear HB; have HO_5 := n0_; have HO_7 := n1_; have HB := n2_; clear n0_ n1_ n2_; clear hg hw hp_))
                                                        go_roundg kj30
                                                        case measure => have := HK1.out; have := HJ17.out; have := HK3.out; have := HJ30.out; omega
                                                        case rel => exact ⟨(y113), (ji47), (by first | rfl | (simp; done) | (simp only [← hji47] <;> (first | rfl | simp)) | (simp [*]; done)), H', ⟨by have := HK1.out; have := HJ17.out; have := HK3.out; have := HJ30.out; omega⟩, ⟨by (with_reducible repeat (first | apply Kd.R_alloc | apply Kd.R_drewN | apply Kd.R_drew)); exact Kd.R_mono HO_5.out (fun _ hk => hk.2)⟩, ⟨by (with_reducible repeat (first | apply Kd.R_alloc | apply Kd.R_drewN | apply Kd.R_drew)); exact HO_7.out⟩, ⟨by repeat (first | (with_reducible first | exact HB.out | apply below_alloc | apply pw_below_drewN | apply below_drew1) | exact HB.out)⟩⟩
                                                      · rw [if_neg c49] at H
                                                        exact absurd H (by simp)
                                                    · rw [if_neg c48] at H
                                                      exact absurd H (by simp)
                                                  · rw [if_neg c46] at H
                                                    have c46b0 : ((bt a1 x10_3) == x8_17) = false := beq_eq_false_iff_ne.mpr c46
                                                    have c46b1 : ((bt a1 x10_3) != x8_17) = true := bne_iff_ne.mpr c46
                                                    have H' := Aside0.mk H
                                                    clear H
                                                    have p45 : 0 ≤ (x10_3 : Int) := of_decide_eq_true (by first | (with_reducible assumption) | assumption)
                                                    have q45 : x10_3 < (a1.size : Int) := of_decide_eq_true (by first | (with_reducible assumption) | assumption)
                                                    have hx45 := bt_at a1 x10_3
                                                    replace p45 := eq_true p45
                                                    replace q45 := eq_true q45
                                                    go_wp2
                                                    go_roundg kj30
                                                    case measure => have := HK1.out; have := HJ17.out; have := HK3.out; have := HJ30.out; omega
                                                    case rel => exact ⟨(x7_3), (wrap64 (x10_3 + 1)), (by first | rfl | (simp; done) | (simp [*]; done)), H', ⟨by have := HK1.out; have := HJ17.out; have := HK3.out; have := HJ30.out; omega⟩, ⟨by (with_reducible repeat (first | apply Kd.R_alloc | apply Kd.R_drewN | apply Kd.R_drew)); exact HO_5.out⟩, ⟨by (with_reducible repeat (first | apply Kd.R_alloc | apply Kd.R_drewN | apply Kd.R_drew)); exact HO_7.out⟩, ⟨by repeat (first | (with_reducible first | exact HB.out | apply below_alloc | apply pw_below_drewN | apply below_drew1) | exact HB.out)⟩⟩
                                                · rw [if_neg c44] at H
                                                  exact absurd H (by simp)
                                              · replace c43 := Bool.eq_false_iff.mpr c43
                                                subst c43
                                                have H1 : (if 0 ≤ (wrap64 (x10_3 + 1)) then (if (wrap64 (x10_3 + 1)) < (x7_3.length : Int) then (escutcheonref14_Match.l1 kj30 a0 a1 x5_1 x6_17 (x7_3.set ((wrap64 (x10_3 + 1)) : Int).toNat true) x8_17 false (wrap64 (x10_3 + 1))) else (none)) else (none)) = some r := by rw [if_neg (show ¬ (false = true) by decide)] at H; exact H
                                                clear H
                                                have H := H1
                                                clear H1
                                                try clear hji47w
                                                obtain ⟨ji53, hji53⟩ : ∃ j_ : Int, (wrap64 (x10_3 + 1)) = j_ := ⟨_, rfl⟩
                                                replace H : (if 0 ≤ (ji53) then (if (ji53) < (x7_3.length : Int) then (escutcheonref14_Match.l1 kj30 a0 a1 x5_1 x6_17 (x7_3.set ((ji53) : Int).toNat true) x8_17 false ji53) else (none)) else (none)) = some r := by first | (rw [hji53] at H; exact H) | (simp only [hji53] at H ⊢; exact H)
                                                have hji53w : (IntKind.i64.wrap (x10_3 + 1)) = ji53 := (i64_w _).trans hji53
                                                by_cases c54 : 0 ≤ (ji53)
                                                · rw [if_pos c54] at H
                                                  have c54b0 : decide (0 ≤ (ji53)) = true := decide_eq_true c54
                                                  clear c54
                                                  by_cases c55 : (ji53) < (x7_3.length : Int)
                                                  · rw [if_pos c55] at H
                                                    have c55b0 : decide ((ji53) < (x7_3.length : Int)) = true := decide_eq_true c55
                                                    clear c55
                                                    obtain ⟨y114, hy114⟩ : ∃ y_ : List Bool, y_ = (x7_3.set ((ji53) : Int).toNat true) := ⟨_, rfl⟩
                                                    replace H : (escutcheonref14_Match.l1 kj30 a0 a1 x5_1 x6_17 y114 x8_17 false ji53) = some r := by first | (rw [hy114]; with_reducible exact H) | (have H2_ := (Option.bind_some _ _).symm.trans H; rw [hy114]; with_reducible exact H2_) | (have H2_ := (Option.bind_some _ _).symm.trans H; with_reducible exact H2_) | with_reducible exact H | (rw [hy114]; exact H) | exact H
                                                    have Ny114 := Aside0.mk hy114
                                                    clear hy114
                                                    have H' := Aside0.mk H
                                                    clear H
                                                    have p56 : 0 ≤ ((ji53) : Int) := of_decide_eq_true (by first | (with_reducible assumption) | assumption)
                                                    have q56 : ((ji53) : Int) < ((x7_3.length : Int) : Int) := of_decide_eq_true (by first | (with_reducible assumption) | assumption)
                                                    obtain ⟨go56, co56, eo56, gb56, gl56, cl56, HG56⟩ := Kd.R_form HO_7.out (by omega)
                                                    (first | cases eo56 | (injection eo56 with ea_ en_ ec_; (first | subst ea_ | (injection ea_ with ea_; subst ea_)); subst ec_; clear en_))
                                                    have GB56 := Aside0.mk gb56
                                                    have GG56 := Aside0.mk HG56
                                                    clear gb56 gl56 HG56
                                                    obtain ⟨hx56_0, hf56_0⟩ := Kd.R_celln false HO_7.out ((ji53) : Int) p56 q56
                                                    replace p56 := eq_true p56
                                                    replace q56 := eq_true q56
                                                    have HP57 := Kd.R_putg HO_7.out ((ji53) : Int) true
                                                    go_wp2_with (first | ((with_reducible refine gate_store (t := 4) (p := 90) rfl ?_); refine store_event (t := 4) (p := 90) (v := ?vo_w58) (w1 := (wc.setCell ⟨go56, ((ji53) : Int).toNat, none⟩ (.bool true))) ?hg ?ho ?hn ?hr ?_; (case ho => rfl); (case hg => rfl); (case hn => rfl); (case hr => first | (go_simp; done) | (go_simp; rfl)); intro w58 hw; have hg : wc.grownBy w58 (some go56) := (by rw [hw]; exact HP57.2); have hp_ : Kd.R Kd.bool 4 w58 w.heap.size (fun k_ => some k_ ≠ (.slice (some ad111) x5_1.length co32 : Value).ownBlock) (.slice (some ⟨go56, 0, none⟩) x7_3.length co56) y114 := (by rw [hw, Ny114.out]; exact HP57.1); clear HP57; have n0_ := Aside0.mk (Kd.R_after (v := (.slice (some ⟨go56, 0, none⟩) x7_3.length co56)) (v1 := (.slice (some ⟨go56, 0, none⟩) x7_3.length co56)) (ok := (fun _ => True)) (by (with_reducible repeat (first | apply Kd.R_alloc | apply Kd.R_drewN | apply Kd.R_drew)); exact Kd.R_mono HO_5.out (fun _ hk => ⟨trivial, hk⟩)) hg (.inl rfl)); have n1_ := Aside0.mk (hp_); have n2_ := Aside0.mk ((by rw [hw]; exact below_set (HB.out) GB56.out : Below w.heap.size w w58)); clear HO_5; clear HO_7; clear HB; have HO_5 := n0_; have HO_7 := n1_; have HB := n2_; clear n0_ n1_ n2_; clear hg hw hp_))
                                                    go_roundg kj30
                                                    case measure => have := HK1.out; have := HJ17.out; have := HK3.out; have := HJ30.out; omega
                                                    case rel => exact ⟨(y114), (ji53), (by first | rfl | (simp; done) | (simp only [← hji53] <;> (first | rfl | simp)) | (simp [*]; done)), H', ⟨by have := HK1.out; have := HJ17.out; have := HK3.out; have := HJ30.out; omega⟩, ⟨by (with_reducible repeat (first | apply Kd.R_alloc | apply Kd.R_drewN | apply Kd.R_drew)); exact Kd.R_mono HO_5.out (fun _ hk => hk.2)⟩, ⟨by (with_reducible repeat (first | apply Kd.R_alloc | apply Kd.R_drewN | apply Kd.R_drew)); exact HO_7.out⟩, ⟨by repeat (first | (with_reducible first | exact HB.out | apply below_alloc | apply pw_below_drewN | apply below_drew1) | exact HB.out)⟩⟩
                                                  · rw [if_neg c55] at H
                                                    exact absurd H (by simp)
                                                · rw [if_neg c54] at H
                                                  exact absurd H (by simp)
                                            · rw [if_neg c42] at H
                                              have c42b0 : (x8_17 == 63) = false := beq_eq_false_iff_ne.mpr c42
                                              have c42b1 : (x8_17 != 63) = true := bne_iff_ne.mpr c42
                                              by_cases c59 : 0 ≤ x10_3
                                              · rw [if_pos c59] at H
                                                have c59b0 : decide (0 ≤ x10_3) = true := decide_eq_true c59
                                                clear c59
                                                by_cases c61 : (bt a1 x10_3) = x8_17
                                                · rw [if_pos c61] at H
                                                  have c61b0 : ((bt a1 x10_3) == x8_17) = true := beq_iff_eq.mpr c61
                                                  have c61b1 : ((bt a1 x10_3) != x8_17) = false := bne_eq_false_iff_eq.mpr c61
                                                  clear c61
                                                  try clear hji47w
                                                  try clear hji53w
                                                  obtain ⟨ji62, hji62⟩ : ∃ j_ : Int, (wrap64 (x10_3 + 1)) = j_ := ⟨_, rfl⟩
                                                  replace H : (if 0 ≤ (ji62) then (if (ji62) < (x7_3.length : Int) then (escutcheonref14_Match.l1 kj30 a0 a1 x5_1 x6_17 (x7_3.set ((ji62) : Int).toNat true) x8_17 x9_17 ji62) else (none)) else (none)) = some r := by first | (rw [hji62] at H; exact H) | (simp only [hji62] at H ⊢; exact H)
                                                  have hji62w : (IntKind.i64.wrap (x10_3 + 1)) = ji62 := (i64_w _).trans hji62
                                                  by_cases c63 : 0 ≤ (ji62)
                                                  · rw [if_pos c63] at H
                                                    have c63b0 : decide (0 ≤ (ji62)) = true := decide_eq_true c63
                                                    clear c63
                                                    by_cases c64 : (ji62) < (x7_3.length : Int)
                                                    · rw [if_pos c64] at H
                                                      have c64b0 : decide ((ji62) < (x7_3.length : Int)) = true := decide_eq_true c64
                                                      clear c64
                                                      obtain ⟨y115, hy115⟩ : ∃ y_ : List Bool, y_ = (x7_3.set ((ji62) : Int).toNat true) := ⟨_, rfl⟩
                                                      replace H : (escutcheonref14_Match.l1 kj30 a0 a1 x5_1 x6_17 y115 x8_17 x9_17 ji62) = some r := by first | (rw [hy115]; with_reducible exact H) | (have H2_ := (Option.bind_some _ _).symm.trans H; rw [hy115]; with_reducible exact H2_) | (have H2_ := (Option.bind_some _ _).symm.trans H; with_reducible exact H2_) | with_reducible exact H | (rw [hy115]; exact H) | exact H
                                                      have Ny115 := Aside0.mk hy115
                                                      clear hy115
                                                      have H' := Aside0.mk H
                                                      clear H
                                                      have p60 : 0 ≤ (x10_3 : Int) := of_decide_eq_true (by first | (with_reducible assumption) | assumption)
                                                      have q60 : x10_3 < (a1.size : Int) := of_decide_eq_true (by first | (with_reducible assumption) | assumption)
                                                      have hx60 := bt_at a1 x10_3
                                                      replace p60 := eq_true p60
                                                      replace q60 := eq_true q60
                                                      have p65 : 0 ≤ ((ji62) : Int) := of_decide_eq_true (by first | (with_reducible assumption) | assumption)
                                                      have q65 : ((ji62) : Int) < ((x7_3.length : Int) : Int) := of_decide_eq_true (by first | (with_reducible assumption) | assumption)
                                                      obtain ⟨go65, co65, eo65, gb65, gl65, cl65, HG65⟩ := Kd.R_form HO_7.out (by omega)
                                                      (first | cases eo65 | (injection eo65 with ea_ en_ ec_; (first | subst ea_ | (injection ea_ with ea_; subst ea_)); subst ec_; clear en_))
                                                      have GB65 := Aside0.mk gb65
                                                      have GG65 := Aside0.mk HG65
                                                      clear gb65 gl65 HG65
                                                      obtain ⟨hx65_0, hf65_0⟩ := Kd.R_celln false HO_7.out ((ji62) : Int) p65 q65
                                                      replace p65 := eq_true p65
                                                      replace q65 := eq_true q65
                                                      have HP66 := Kd.R_putg HO_7.out ((ji62) : Int) true
                                                      go_wp2_with (first | ((with_reducible refine gate_store (t := 4) (p := 90) rfl ?_); refine store_event (t := 4) (p := 90) (v := ?vo_w67) (w1 := (wc.setCell ⟨go65, ((ji62) : Int).toNat, none⟩ (.bool true))) ?hg ?ho ?hn ?hr ?_; (case ho => rfl); (case hg => rfl); (case hn => rfl); (case hr => first | (go_simp; done) | (go_simp; rfl)); intro w67 hw; have hg : wc.grownBy w67 (some go65) := (by rw [hw]; exact HP66.2); have hp_ : Kd.R Kd.bool 4 w67 w.heap.size (fun k_ => some k_ ≠ (.slice (some ad111) x5_1.length co32 : Value).ownBlock) (.slice (some ⟨go65, 0, none⟩) x7_3.length co65) y115 := (by rw [hw, Ny115.out]; exact HP66.1); clear HP66; have n0_ := Aside0.mk (Kd.R_after (v := (.slice (some ⟨go65, 0, none⟩) x7_3.length co65)) (v1 := (.slice (some ⟨go65, 0, none⟩) x7_3.length co65)) (ok := (fun _ => True)) (by (with_reducible repeat (first | apply Kd.R_alloc | apply Kd.R_drewN | apply Kd.R_drew)); exact Kd.R_mono HO_5.out (fun _ hk => ⟨trivial, hk⟩)) hg (.inl rfl)); have n1_ := Aside0.mk (hp_); have n2_ := Aside0.mk ((by rw [hw]; exact below_set (HB.out) GB65.out : Below w.heap.size w w67)); clear HO_5; clear HO_7; clear HB; have HO_5 := n0_; have HO_7 := n1_; have HB := n2_; clear n0_ n1_ n2_; clear hg hw hp_))
                                                      go_roundg kj30
                                                      case measure => have := HK1.out; have := HJ17.out; have := HK3.out; have := HJ30.out; omega
                                                      case rel => exact ⟨(y115), (ji62), (by first | rfl | (simp; done) | (simp only [← hji62] <;> (first | rfl | simp)) | (simp [*]; done)), H', ⟨by have := HK1.out; have := HJ17.out; have := HK3.out; have := HJ30.out; omega⟩, ⟨by (with_reducible repeat (first | apply Kd.R_alloc | apply Kd.R_drewN | apply Kd.R_drew)); exact Kd.R_mono HO_5.out (fun _ hk => hk.2)⟩, ⟨by (with_reducible repeat (first | apply Kd.R_alloc | apply Kd.R_drewN | apply Kd.R_drew)); exact HO_7.out⟩, ⟨by repeat (first | (with_reducible first | exact HB.out | apply below_alloc | apply pw_below_drewN | apply below_drew1) | exact HB.out)⟩⟩
                                                    · rw [if_neg c64] at H
                                                      exact absurd H (by simp)
                                                  · rw [if_neg c63] at H
                                                    exact absurd H (by simp)
                                                · rw [if_neg c61] at H
                                                  have c61b0 : ((bt a1 x10_3) == x8_17) = false := beq_eq_false_iff_ne.mpr c61
                                                  have c61b1 : ((bt a1 x10_3) != x8_17) = true := bne_iff_ne.mpr c61
                                                  have H' := Aside0.mk H
                                                  clear H
                                                  have p60 : 0 ≤ (x10_3 : Int) := of_decide_eq_true (by first | (with_reducible assumption) | assumption)
                                                  have q60 : x10_3 < (a1.size : Int) := of_decide_eq_true (by first | (with_reducible assumption) | assumption)
                                                  have hx60 := bt_at a1 x10_3
                                                  replace p60 := eq_true p60
                                                  replace q60 := eq_true q60
                                                  go_wp2
                                                  go_roundg kj30
                                                  case measure => have := HK1.out; have := HJ17.out; have := HK3.out; have := HJ30.out; omega
                                                  case rel => exact ⟨(x7_3), (wrap64 (x10_3 + 1)), (by first | rfl | (simp; done) | (simp [*]; done)), H', ⟨by have := HK1.out; have := HJ17.out; have := HK3.out; have := HJ30.out; omega⟩, ⟨by (with_reducible repeat (first | apply Kd.R_alloc | apply Kd.R_drewN | apply Kd.R_drew)); exact HO_5.out⟩, ⟨by (with_reducible repeat (first | apply Kd.R_alloc | apply Kd.R_drewN | apply Kd.R_drew)); exact HO_7.out⟩, ⟨by repeat (first | (with_reducible first | exact HB.out | apply below_alloc | apply pw_below_drewN | apply below_drew1) | exact HB.out)⟩⟩
                                              · rw [if_neg c59] at H
                                                exact absurd H (by simp)
                                          · rw [if_neg c41] at H
                                            have c41b0 : decide (x10_3 < (a1.size : Int)) = false := decide_eq_false c41
                                            clear c41
                                            have H' := Aside0.mk H
                                            clear H
                                            go_wp2
                                            go_roundg kj30
                                            case measure => have := HK1.out; have := HJ17.out; have := HK3.out; have := HJ30.out; omega
                                            case rel => exact ⟨(x7_3), (wrap64 (x10_3 + 1)), (by first | rfl | (simp; done) | (simp [*]; done)), H', ⟨by have := HK1.out; have := HJ17.out; have := HK3.out; have := HJ30.out; omega⟩, ⟨by (with_reducible repeat (first | apply Kd.R_alloc | apply Kd.R_drewN | apply Kd.R_drew)); exact HO_5.out⟩, ⟨by (with_reducible repeat (first | apply Kd.R_alloc | apply Kd.R_drewN | apply Kd.R_drew)); exact HO_7.out⟩, ⟨by repeat (first | (with_reducible first | exact HB.out | apply below_alloc | apply pw_below_drewN | apply below_drew1) | exact HB.out)⟩⟩
                                  · replace c30 := Bool.eq_false_iff.mpr c30
                                    subst c30
                                    have H1 : (escutcheonref14_Match.l1 k3 a0 a1 x5_1 x6_17 x7_3 x8_17 x9_17 (wrap64 (x10_3 + 1))) = some r := by rw [if_neg (show ¬ (false = true) by decide)] at H; exact H
                                    clear H
                                    have H := H1
                                    clear H1
                                    have H' := Aside0.mk H
                                    clear H
                                    obtain ⟨Ao68, co68, eo68⟩ := Kd.R_slice HO_5.out
                                    subst eo68
                                    have p111 : 0 ≤ (x10_3 : Int) := of_decide_eq_true (by first | (with_reducible assumption) | assumption)
                                    have q111 : x10_3 < (x5_1.length : Int) := of_decide_eq_true (by first | (with_reducible assumption) | assumption)
                                    obtain ⟨ad111, e111, hx111_0⟩ := Kd.at_bool (Kd.R_reads' HO_5.out).2.2 x10_3 p111 q111
                                    (try rw [← Nbq29.out] at hx111_0)
                                    cases e111
                                    replace p111 := eq_true p111
                                    replace q111 := eq_true q111
                                    go_wp2
                                    go_roundg k3
                                    case measure => have := HK1.out; have := HJ17.out; have := HK3.out; omega
                                    case rel => exact ⟨(x7_3), (wrap64 (x10_3 + 1)), (by first | rfl | (simp; done) | (simp [*]; done)), H', ⟨by have := HK1.out; have := HJ17.out; have := HK3.out; omega⟩, ⟨by (with_reducible repeat (first | apply Kd.R_alloc | apply Kd.R_drewN | apply Kd.R_drew)); exact HO_5.out⟩, ⟨by (with_reducible repeat (first | apply Kd.R_alloc | apply Kd.R_drewN | apply Kd.R_drew)); exact HO_7.out⟩, ⟨by repeat (first | (with_reducible first | exact HB.out | apply below_alloc | apply pw_below_drewN | apply below_drew1) | exact HB.out)⟩⟩
                                · rw [if_neg c28] at H
                                  exact absurd H (by simp)
                              · rw [if_neg c27] at H
                                exact absurd H (by simp)
                            · rw [if_neg c26] at H
                              have c26b0 : decide (x10_3 ≤ (a1.size : Int)) = false := decide_eq_false c26
                              clear c26
                              have H' := Aside0.mk H
                              clear H
                              go_wp2
                              go_roundg k3
                              case measure => have := HK1.out; have := HJ17.out; have := HK3.out; omega
                              case rel => exact ⟨(x7_3), (wrap64 (x6_17 + 1)), (by first | rfl | (simp; done) | (simp [*]; done)), H', ⟨by have := HK1.out; have := HJ17.out; have := HK3.out; omega⟩, ⟨by (with_reducible repeat (first | apply Kd.R_alloc | apply Kd.R_drewN | apply Kd.R_drew)); exact Kd.R_mono HO_7.out (fun _ hk => trivial)⟩, ⟨by repeat (first | (with_reducible first | exact HB.out | apply below_alloc | apply pw_below_drewN | apply below_drew1) | exact HB.out)⟩⟩
                  · rw [if_neg c16] at H
                    exact absurd H (by simp)
                · rw [if_neg c15] at H
                  exact absurd H (by simp)
              · rw [if_neg c14] at H
                exact absurd H (by simp)
            · rw [if_neg c12] at H
              have c12b0 : decide (x6_1 < (a0.size : Int)) = false := decide_eq_false c12
              clear c12
              by_cases c69 : 0 ≤ (a1.size : Int)
              · rw [if_pos c69] at H
                have c69b0 : decide (0 ≤ (a1.size : Int)) = true := decide_eq_true c69
                have c69b1 : decide (0 ≤ a1.size) = true := decide_eq_true (by omega)
                clear c69
                by_cases c70 : (a1.size : Int) < (x5_1.length : Int)
                · rw [if_pos c70] at H
                  have c70b0 : decide ((a1.size : Int) < (x5_1.length : Int)) = true := decide_eq_true c70
                  have c70b1 : decide (a1.size < x5_1.length) = true := decide_eq_true (Int.ofNat_lt.mp c70)
                  clear c70
                  obtain rfl := Option.some.inj H
                  obtain ⟨Ao71, co71, eo71⟩ := Kd.R_slice HO_5.out
                  subst eo71
                  have p107 : 0 ≤ ((a1.size : Int) : Int) := of_decide_eq_true (by first | (with_reducible assumption) | assumption)
                  have q107 : (a1.size : Int) < (x5_1.length : Int) := of_decide_eq_true (by first | (with_reducible assumption) | assumption)
                  obtain ⟨ad107, e107, hx107_0⟩ := Kd.at_bool (Kd.R_reads' HO_5.out).2.2 (a1.size : Int) p107 q107
                  try simp only [Int.toNat_natCast] at hx107_0
                  cases e107
                  replace p107 := eq_true p107
                  replace q107 := eq_true q107
                  go_wp2
                  go_ret
                  exact ⟨by first | rfl | (simp [errW_none, errW_some] <;> rfl) | (simp only [← hji3]; first | rfl | (simp [errW_none, errW_some] <;> rfl)) | (simp [*, errW_none, errW_some] <;> rfl), by repeat (first | (with_reducible first | exact HB.out | apply below_alloc | apply pw_below_drewN | apply below_drew1) | exact HB.out)⟩
                · rw [if_neg c70] at H
                  exact absurd H (by simp)
              · rw [if_neg c69] at H
                exact absurd H (by simp)
      · rw [if_neg c6] at H
        exact absurd H (by simp)
    · rw [if_neg c5] at H
      exact absurd H (by simp)
  · rw [if_neg c4] at H
    exact absurd H (by simp)

end Go.Proofs.YthngjjeilcfhgaaDoor.Pt
