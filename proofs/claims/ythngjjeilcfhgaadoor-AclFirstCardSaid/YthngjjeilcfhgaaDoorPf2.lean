-- Laid by wip/tools/ext.py, a program of this repo, over the kit's printer: Go functions as plain Lean functions, and their contracts.
import Derived.Test.YthngjjeilcfhgaaDoorPf0
namespace Go.Proofs.YthngjjeilcfhgaaDoor.Pf
open Go.Proofs.YthngjjeilcfhgaaDoor.Pa Go.Proofs.YthngjjeilcfhgaaDoor.Pb
open Go.RowKit Go.Proofs.YthngjjeilcfhgaaDoorW.PrintWords Go.Proofs.YthngjjeilcfhgaaDoorW.PrintLast Go.Proofs.YthngjjeilcfhgaaDoorW.PrintMore
attribute [local go_sem] max2_int min2_int max_two min_two max_three min_three max_four min_four   -- for this text's walks alone
set_option linter.unusedVariables false
set_option linter.unusedSimpArgs false

/-! ### escutcheonlaw18_AclFirst: function 5 -/
mutual
def escutcheonlaw18_AclFirst.j0 : Nat → List (S25) → ByteArray → Int → ByteArray → Bool → Bool → Option (Bool)
  | 0, _, _, _, _, _, _ => none
  | k + 1, x0, x1, x2, x3, x4, x50 => if x50 = true then ((escutcheonlaw18_alive.f k).bind fun t104 => (some t104)) else (escutcheonlaw18_AclFirst.l0 k x0 x1 x2 x3 x4 0)
def escutcheonlaw18_AclFirst.l0 : Nat → List (S25) → ByteArray → Int → ByteArray → Bool → Int → Option (Bool)
  | 0, _, _, _, _, _, _ => none
  | k + 1, x0, x1, x2, x3, x4, x11 => if x11 < (x0.length : Int) then (if 0 ≤ x11 then (if (((rd_T25 x0 x11).f3).size : Int) > 60 then (some true) else (escutcheonlaw18_AclFirst.l0 k x0 x1 x2 x3 x4 (wrap64 (x11 + 1)))) else (none)) else ((acl_Decide.f k x0 x1 x2 x3).bind fun bt107 => ((some (([(⟨x4, x1, 0, (⟨#[42]⟩ : ByteArray)⟩ : S25)] : List (S25)) : List (S25))).bind fun y109 => (if y109.length + x0.length < 2932031007402 then ((acl_Decide.f k (y109 ++ x0) x1 x2 x3).bind fun bt115 => (if ([] : List (S25)).length + x0.length < 2932031007402 then ((some (([] : List (S25)) ++ x0 : List (S25))).bind fun y117 => ((some (([(⟨x4, x1, 0, (⟨#[42]⟩ : ByteArray)⟩ : S25)] : List (S25)) : List (S25))).bind fun y120 => (if y117.length + y120.length < 2932031007402 then ((acl_Decide.f k (y117 ++ y120) x1 x2 x3).bind fun bt126 => ((acl_Decide.f k ([] : List (S25)) x1 x2 x3).bind fun bt128 => (if (bt115.1 != x4) = true then (escutcheonlaw18_AclFirst.j2 k x0 x1 x2 x3 x4 bt107.1 bt107.2 bt126.1 bt126.2 true) else (if bt115.2 = 0 then (if bt128.1 = true then (escutcheonlaw18_AclFirst.j2 k x0 x1 x2 x3 x4 bt107.1 bt107.2 bt126.1 bt126.2 true) else (escutcheonlaw18_AclFirst.j2 k x0 x1 x2 x3 x4 bt107.1 bt107.2 bt126.1 bt126.2 (bt128.2 != (-1)))) else (escutcheonlaw18_AclFirst.j2 k x0 x1 x2 x3 x4 bt107.1 bt107.2 bt126.1 bt126.2 true))))) else (none)))) else (none))) else (none))))
def escutcheonlaw18_AclFirst.j2 : Nat → List (S25) → ByteArray → Int → ByteArray → Bool → Bool → Int → Bool → Int → Bool → Option (Bool)
  | 0, _, _, _, _, _, _, _, _, _, _ => none
  | k + 1, x0, x1, x2, x3, x4, x13, x14, x17, x18, x119 => if x119 = true then (some false) else (if x14 < 0 then (if x13 = true then (some false) else (if (x17 == x4) = true then (some (x18 == (x0.length : Int))) else (some false))) else (if (x17 == x13) = true then (if x18 = x14 then (if x14 < (x0.length : Int) then (if 0 ≤ x14 then ((acl_Fits.f k ((rd_T25 x0 x14).f0) ((rd_T25 x0 x14).f1) ((rd_T25 x0 x14).f2) ((rd_T25 x0 x14).f3) x1 x2 x3).bind fun t131 => (some t131)) else (none)) else (some false)) else (some false)) else (some false)))
end
def escutcheonlaw18_AclFirst.f (k : Nat) (l0 : List (S25)) (a1 : ByteArray) (a2 : Int) (a3 : ByteArray) (a4 : Bool) : Option (Bool) := if (l0.length : Int) > 40 then (escutcheonlaw18_AclFirst.j0 k l0 a1 a2 a3 a4 true) else (if (a1.size : Int) < 1 then (escutcheonlaw18_AclFirst.j0 k l0 a1 a2 a3 a4 true) else (if (a1.size : Int) > 20 then (escutcheonlaw18_AclFirst.j0 k l0 a1 a2 a3 a4 true) else (if (a3.size : Int) > 20 then (escutcheonlaw18_AclFirst.j0 k l0 a1 a2 a3 a4 true) else (if a2 < 1 then (escutcheonlaw18_AclFirst.j0 k l0 a1 a2 a3 a4 true) else (if a2 > 3 then (escutcheonlaw18_AclFirst.j0 k l0 a1 a2 a3 a4 true) else ((escutcheonlaw18_alive.f k).bind fun t103 => (escutcheonlaw18_AclFirst.j0 k l0 a1 a2 a3 a4 (!t103))))))))
theorem escutcheonlaw18_AclFirst.mono_l : ∀ k, (∀ y0 y1 y2 y3 y4 y5, LeO (escutcheonlaw18_AclFirst.j0 k y0 y1 y2 y3 y4 y5) (escutcheonlaw18_AclFirst.j0 (k + 1) y0 y1 y2 y3 y4 y5)) ∧ (∀ y0 y1 y2 y3 y4 y5, LeO (escutcheonlaw18_AclFirst.l0 k y0 y1 y2 y3 y4 y5) (escutcheonlaw18_AclFirst.l0 (k + 1) y0 y1 y2 y3 y4 y5)) ∧ (∀ y0 y1 y2 y3 y4 y5 y6 y7 y8 y9, LeO (escutcheonlaw18_AclFirst.j2 k y0 y1 y2 y3 y4 y5 y6 y7 y8 y9) (escutcheonlaw18_AclFirst.j2 (k + 1) y0 y1 y2 y3 y4 y5 y6 y7 y8 y9))
  | 0 => ⟨fun _ _ _ _ _ _ r h => by simp [escutcheonlaw18_AclFirst.j0] at h, fun _ _ _ _ _ _ r h => by simp [escutcheonlaw18_AclFirst.l0] at h, fun _ _ _ _ _ _ _ _ _ _ r h => by simp [escutcheonlaw18_AclFirst.j2] at h⟩
  | k + 1 => by
    obtain ⟨ih0, ih1, ih2⟩ := escutcheonlaw18_AclFirst.mono_l k
    refine ⟨?_, ?_, ?_⟩
    · intro y0 y1 y2 y3 y4 y5
      unfold escutcheonlaw18_AclFirst.j0
      repeat' first
      | (with_reducible exact ih0 _ _ _ _ _ _)
      | (with_reducible exact ih1 _ _ _ _ _ _)
      | (with_reducible exact ih2 _ _ _ _ _ _ _ _ _ _)
      | (with_reducible exact acl_Decide.mono _ _ _ _ _)
      | (with_reducible exact acl_Fits.mono _ _ _ _ _ _ _ _)
      | (with_reducible exact escutcheonlaw18_alive.mono _)
      | (with_reducible exact LeO.refl _)
      | (with_reducible exact LeO.none _)
      | (with_reducible refine LeO.ite ?_ ?_)
      | (with_reducible refine LeO.bind ?_ (fun _ => ?_))
      | exact ih0 _ _ _ _ _ _
      | exact ih1 _ _ _ _ _ _
      | exact ih2 _ _ _ _ _ _ _ _ _ _
      | exact acl_Decide.mono _ _ _ _ _
      | exact acl_Fits.mono _ _ _ _ _ _ _ _
      | exact escutcheonlaw18_alive.mono _
      | exact LeO.none _
      | refine LeO.ite ?_ ?_
      | refine LeO.bind ?_ (fun _ => ?_)
    · intro y0 y1 y2 y3 y4 y5
      unfold escutcheonlaw18_AclFirst.l0
      repeat' first
      | (with_reducible exact ih0 _ _ _ _ _ _)
      | (with_reducible exact ih1 _ _ _ _ _ _)
      | (with_reducible exact ih2 _ _ _ _ _ _ _ _ _ _)
      | (with_reducible exact acl_Decide.mono _ _ _ _ _)
      | (with_reducible exact acl_Fits.mono _ _ _ _ _ _ _ _)
      | (with_reducible exact escutcheonlaw18_alive.mono _)
      | (with_reducible exact LeO.refl _)
      | (with_reducible exact LeO.none _)
      | (with_reducible refine LeO.ite ?_ ?_)
      | (with_reducible refine LeO.bind ?_ (fun _ => ?_))
      | exact ih0 _ _ _ _ _ _
      | exact ih1 _ _ _ _ _ _
      | exact ih2 _ _ _ _ _ _ _ _ _ _
      | exact acl_Decide.mono _ _ _ _ _
      | exact acl_Fits.mono _ _ _ _ _ _ _ _
      | exact escutcheonlaw18_alive.mono _
      | exact LeO.none _
      | refine LeO.ite ?_ ?_
      | refine LeO.bind ?_ (fun _ => ?_)
    · intro y0 y1 y2 y3 y4 y5 y6 y7 y8 y9
      unfold escutcheonlaw18_AclFirst.j2
      repeat' first
      | (with_reducible exact ih0 _ _ _ _ _ _)
      | (with_reducible exact ih1 _ _ _ _ _ _)
      | (with_reducible exact ih2 _ _ _ _ _ _ _ _ _ _)
      | (with_reducible exact acl_Decide.mono _ _ _ _ _)
      | (with_reducible exact acl_Fits.mono _ _ _ _ _ _ _ _)
      | (with_reducible exact escutcheonlaw18_alive.mono _)
      | (with_reducible exact LeO.refl _)
      | (with_reducible exact LeO.none _)
      | (with_reducible refine LeO.ite ?_ ?_)
      | (with_reducible refine LeO.bind ?_ (fun _ => ?_))
      | exact ih0 _ _ _ _ _ _
      | exact ih1 _ _ _ _ _ _
      | exact ih2 _ _ _ _ _ _ _ _ _ _
      | exact acl_Decide.mono _ _ _ _ _
      | exact acl_Fits.mono _ _ _ _ _ _ _ _
      | exact escutcheonlaw18_alive.mono _
      | exact LeO.none _
      | refine LeO.ite ?_ ?_
      | refine LeO.bind ?_ (fun _ => ?_)
theorem escutcheonlaw18_AclFirst.mono : ∀ a0 a1 a2 a3 a4 k, LeO (escutcheonlaw18_AclFirst.f k a0 a1 a2 a3 a4) (escutcheonlaw18_AclFirst.f (k + 1) a0 a1 a2 a3 a4) := by
  intro a0 a1 a2 a3 a4 k
  obtain ⟨ih0, ih1, ih2⟩ := escutcheonlaw18_AclFirst.mono_l k
  unfold escutcheonlaw18_AclFirst.f
  repeat' first
      | (with_reducible exact ih0 _ _ _ _ _ _)
      | (with_reducible exact ih1 _ _ _ _ _ _)
      | (with_reducible exact ih2 _ _ _ _ _ _ _ _ _ _)
      | (with_reducible exact acl_Decide.mono _ _ _ _ _)
      | (with_reducible exact acl_Fits.mono _ _ _ _ _ _ _ _)
      | (with_reducible exact escutcheonlaw18_alive.mono _)
      | (with_reducible exact LeO.refl _)
      | (with_reducible exact LeO.none _)
      | (with_reducible refine LeO.ite ?_ ?_)
      | (with_reducible refine LeO.bind ?_ (fun _ => ?_))
      | exact ih0 _ _ _ _ _ _
      | exact ih1 _ _ _ _ _ _
      | exact ih2 _ _ _ _ _ _ _ _ _ _
      | exact acl_Decide.mono _ _ _ _ _
      | exact acl_Fits.mono _ _ _ _ _ _ _ _
      | exact escutcheonlaw18_alive.mono _
      | exact LeO.none _
      | refine LeO.ite ?_ ?_
      | refine LeO.bind ?_ (fun _ => ?_)
def escutcheonlaw18_AclFirst.T11 : Bool × List (List Nat × List Nat) := (true, [([], []), ([0], [0]), ([], []), ([2], [2]), ([1, 3, 1], [1, 3]), ([], []), ([], []), ([], []), ([4, 5, 6, 7, 4], [4, 5, 6, 7]), ([8], [8]), ([9], [9]), ([9], [9]), ([10, 8, 0, 1, 2, 3, 4, 5, 6, 7, 8, 9, 10], [10]), ([11, 12, 0, 1, 2, 3, 4, 5, 6, 7, 8, 9, 10, 11, 12], [11])])
def escutcheonlaw18_AclFirst.B11 : List Nat := [0, 1, 0, 4, 15, 0, 0, 0, 255, 511, 1023, 1023, 2047, 8191]
theorem escutcheonlaw18_AclFirst.tab11 : rtab .any (opsOf Tryd.f5 11) = escutcheonlaw18_AclFirst.T11 := by kernel_rfl
theorem escutcheonlaw18_AclFirst.bits11 : waitsOk escutcheonlaw18_AclFirst.T11.2 escutcheonlaw18_AclFirst.B11 = true := by kernel_rfl
set_option maxHeartbeats 8000000 in
set_option maxRecDepth 100000 in
theorem escutcheonlaw18_AclFirst.calls (k : Nat) (A0 : Option Addr) (c0 : Nat) (l0 : List (S25)) (a1 : ByteArray) (a2 : Int) (a3 : ByteArray) (a4 : Bool) (r : Bool) (w : World) (hr0 : Kd.C k25 w A0 l0.length l0) (hc0 : l0.length ≤ c0) (h : escutcheonlaw18_AclFirst.f k l0 a1 a2 a3 a4 = some r) (hLd : Laid w) :
    Calls Tryd.prog 5 #[.slice A0 l0.length c0, .string a1, .int .i64 a2, .string a3, .bool a4] w fun e w' => e = .returned (.bool r) ∧ Below w.heap.size w w' := by
  have HLd := Aside0.mk (fun (W : World) (hb_ : Below w.heap.size w W) => Laid.below hLd rfl hb_)
  clear hLd
  have hu25 := Tryd.underlying25
  have HR0 := Aside0.mk hr0
  have HC0 := Aside0.mk hc0
  clear hr0 hc0
  have HB := Aside0.mk (Below.refl w.heap.size w)
  have H : (if (l0.length : Int) > 40 then (escutcheonlaw18_AclFirst.j0 k l0 a1 a2 a3 a4 true) else (if (a1.size : Int) < 1 then (escutcheonlaw18_AclFirst.j0 k l0 a1 a2 a3 a4 true) else (if (a1.size : Int) > 20 then (escutcheonlaw18_AclFirst.j0 k l0 a1 a2 a3 a4 true) else (if (a3.size : Int) > 20 then (escutcheonlaw18_AclFirst.j0 k l0 a1 a2 a3 a4 true) else (if a2 < 1 then (escutcheonlaw18_AclFirst.j0 k l0 a1 a2 a3 a4 true) else (if a2 > 3 then (escutcheonlaw18_AclFirst.j0 k l0 a1 a2 a3 a4 true) else ((escutcheonlaw18_alive.f k).bind fun t103 => (escutcheonlaw18_AclFirst.j0 k l0 a1 a2 a3 a4 (!t103))))))))) = some r := h
  clear h
  have HC6 := Aside0.mk H
  clear H
  go_enter Tryd.func5, Tryd.ntmps5
  go_upto_region 1 with (fail)
  go_cut [50] (fun v50 wc => ∃ (kq : Nat) (x50_5 : Bool), v50 = .bool x50_5 ∧ Aside0 (escutcheonlaw18_AclFirst.j0 kq l0 a1 a2 a3 a4 x50_5 = some r) ∧ Aside0 (kq ≤ k) ∧ Aside0 (Below w.heap.size w wc))
  case first =>
    have H := HC6.out
    clear HC6
    by_cases c7 : (l0.length : Int) > 40
    · rw [if_pos c7] at H
      have c7b0 : decide (40 < (l0.length : Int)) = true := decide_eq_true c7
      have c7b1 : decide (40 < l0.length) = true := decide_eq_true (by omega)
      clear c7
      (first | rw [c7b0] | (simp only [i64_w, i32_w]; rw [c7b0]) | skip)
      have H' := Aside0.mk H
      clear H
      go_wp2
      go_meet
      case rel => exact ⟨_, (true), (by first | rfl | (simp; done) | (simp [*]; done)), H', ⟨by first | omega | exact Nat.le_refl _⟩, ⟨by repeat (first | (with_reducible first | exact HB.out | apply below_alloc | apply pw_below_drewN | apply below_drew1) | exact HB.out)⟩⟩
    · rw [if_neg c7] at H
      have c7b0 : decide (40 < (l0.length : Int)) = false := decide_eq_false c7
      have c7b1 : decide (40 < l0.length) = false := decide_eq_false (by omega)
      clear c7
      (first | rw [c7b0] | (simp only [i64_w, i32_w]; rw [c7b0]) | skip)
      by_cases c8 : (a1.size : Int) < 1
      · rw [if_pos c8] at H
        have c8b0 : decide ((a1.size : Int) < 1) = true := decide_eq_true c8
        have c8b1 : decide (a1.size < 1) = true := decide_eq_true (by omega)
        clear c8
        have H' := Aside0.mk H
        clear H
        go_wp2
        go_meet
        case rel => exact ⟨_, (true), (by first | rfl | (simp; done) | (simp [*]; done)), H', ⟨by first | omega | exact Nat.le_refl _⟩, ⟨by repeat (first | (with_reducible first | exact HB.out | apply below_alloc | apply pw_below_drewN | apply below_drew1) | exact HB.out)⟩⟩
      · rw [if_neg c8] at H
        have c8b0 : decide ((a1.size : Int) < 1) = false := decide_eq_false c8
        have c8b1 : decide (a1.size < 1) = false := decide_eq_false (by omega)
        clear c8
        by_cases c9 : (a1.size : Int) > 20
        · rw [if_pos c9] at H
          have c9b0 : decide (20 < (a1.size : Int)) = true := decide_eq_true c9
          have c9b1 : decide (20 < a1.size) = true := decide_eq_true (by omega)
          clear c9
          have H' := Aside0.mk H
          clear H
          go_wp2
          go_meet
          case rel => exact ⟨_, (true), (by first | rfl | (simp; done) | (simp [*]; done)), H', ⟨by first | omega | exact Nat.le_refl _⟩, ⟨by repeat (first | (with_reducible first | exact HB.out | apply below_alloc | apply pw_below_drewN | apply below_drew1) | exact HB.out)⟩⟩
        · rw [if_neg c9] at H
          have c9b0 : decide (20 < (a1.size : Int)) = false := decide_eq_false c9
          have c9b1 : decide (20 < a1.size) = false := decide_eq_false (by omega)
          clear c9
          by_cases c10 : (a3.size : Int) > 20
          · rw [if_pos c10] at H
            have c10b0 : decide (20 < (a3.size : Int)) = true := decide_eq_true c10
            have c10b1 : decide (20 < a3.size) = true := decide_eq_true (by omega)
            clear c10
            have H' := Aside0.mk H
            clear H
            go_wp2
            go_meet
            case rel => exact ⟨_, (true), (by first | rfl | (simp; done) | (simp [*]; done)), H', ⟨by first | omega | exact Nat.le_refl _⟩, ⟨by repeat (first | (with_reducible first | exact HB.out | apply below_alloc | apply pw_below_drewN | apply below_drew1) | exact HB.out)⟩⟩
          · rw [if_neg c10] at H
            have c10b0 : decide (20 < (a3.size : Int)) = false := decide_eq_false c10
            have c10b1 : decide (20 < a3.size) = false := decide_eq_false (by omega)
            clear c10
            by_cases c11 : a2 < 1
            · rw [if_pos c11] at H
              have c11b0 : decide (a2 < 1) = true := decide_eq_true c11
              clear c11
              have H' := Aside0.mk H
              clear H
              go_wp2
              go_meet
              case rel => exact ⟨_, (true), (by first | rfl | (simp; done) | (simp [*]; done)), H', ⟨by first | omega | exact Nat.le_refl _⟩, ⟨by repeat (first | (with_reducible first | exact HB.out | apply below_alloc | apply pw_below_drewN | apply below_drew1) | exact HB.out)⟩⟩
            · rw [if_neg c11] at H
              have c11b0 : decide (a2 < 1) = false := decide_eq_false c11
              clear c11
              by_cases c12 : a2 > 3
              · rw [if_pos c12] at H
                have c12b0 : decide (3 < a2) = true := decide_eq_true c12
                clear c12
                have H' := Aside0.mk H
                clear H
                go_wp2
                go_meet
                case rel => exact ⟨_, (true), (by first | rfl | (simp; done) | (simp [*]; done)), H', ⟨by first | omega | exact Nat.le_refl _⟩, ⟨by repeat (first | (with_reducible first | exact HB.out | apply below_alloc | apply pw_below_drewN | apply below_drew1) | exact HB.out)⟩⟩
              · rw [if_neg c12] at H
                have c12b0 : decide (3 < a2) = false := decide_eq_false c12
                clear c12
                replace H := Option.bind_eq_some_iff.mp H
                obtain ⟨t103, A130, H⟩ := H
                replace H : (escutcheonlaw18_AclFirst.j0 k l0 a1 a2 a3 a4 (!t103)) = some r := H
                have A13 := Aside0.mk A130
                clear A130
                have H' := Aside0.mk H
                clear H
                go_wp2_with (first | (go_at_call 9; ((with_reducible refine (escutcheonlaw18_alive.calls k  t103 _ A13.out ?sideL).mono ?_); (case sideL => exact HLd.out _ (by repeat (first | (with_reducible first | exact HB.out | apply below_alloc | apply pw_below_drewN | apply below_drew1) | exact HB.out)))); rintro e w14 ⟨rfl, hb⟩; have n0_ := Aside0.mk (below_step (by repeat (first | (with_reducible first | exact HB.out | apply below_alloc | apply pw_below_drewN | apply below_drew1) | exact HB.out)) hb); clear HB; have HB := n0_; clear n0_; (try clear hb); (try clear hb2); (try clear hk); (try clear hi)))
                go_meet
                case rel => exact ⟨_, (!t103), (by first | rfl | (simp; done) | (simp [*]; done)), H', ⟨by first | omega | exact Nat.le_refl _⟩, ⟨by repeat (first | (with_reducible first | exact HB.out | apply below_alloc | apply pw_below_drewN | apply below_drew1) | exact HB.out)⟩⟩
  case rest =>
    clear HC6
    try clear c1
    try clear p2
    try clear c5
    try clear c7
    try clear c7b0
    try clear c7b1
    try clear c8
    try clear c8b0
    try clear c8b1
    try clear c9
    try clear c9b0
    try clear c9b1
    try clear c10
    try clear c10b0
    try clear c10b1
    try clear c11
    try clear c11b0
    try clear c12
    try clear c12b0
    obtain ⟨kq, x50_5, rfl, HA, HJ5, HB⟩ := hcut
    cases kq with
    | zero => exact absurd HA.out (by simp [escutcheonlaw18_AclFirst.j0])
    | succ kj5 =>
      have H := HA.out
      clear HA
      simp only [escutcheonlaw18_AclFirst.j0] at H
      by_cases c15 : x50_5 = true
      · subst c15
        have H1 : ((escutcheonlaw18_alive.f kj5).bind fun t104 => (some t104)) = some r := by rw [if_pos rfl] at H; exact H
        clear H
        have H := H1
        clear H1
        replace H := Option.bind_eq_some_iff.mp H
        obtain ⟨t104, A160, H⟩ := H
        replace H : (some t104) = some r := H
        have A16 := Aside0.mk A160
        clear A160
        obtain rfl := Option.some.inj H
        go_wp2_with (first | ((with_reducible refine gate_callee (f := 9) rfl ?_); refine goesL_ (some 51) rfl rfl Tryd.func9 (by kernel_rfl) rfl #[] rfl (by (try simp only [List.map_toArray, List.map_cons, List.map_nil]); first | done | rfl | (simp only [List.length_drop, List.length_take]; rfl)) ?_; ((with_reducible refine (escutcheonlaw18_alive.calls kj5  t104 _ A16.out ?sideL).mono ?_); (case sideL => exact HLd.out _ (by repeat (first | (with_reducible first | exact HB.out | apply below_alloc | apply pw_below_drewN | apply below_drew1) | exact HB.out)))); rintro e w17 ⟨rfl, hb⟩; refine ⟨_, rfl, ?_⟩; have n0_ := Aside0.mk (below_step (by repeat (first | (with_reducible first | exact HB.out | apply below_alloc | apply pw_below_drewN | apply below_drew1) | exact HB.out)) hb); clear HB; have HB := n0_; clear n0_; (try clear hb); (try clear hb2); (try clear hk); (try clear hi)))
        go_ret
        exact ⟨by first | rfl | (simp [errW_none, errW_some] <;> rfl) | (simp [*, errW_none, errW_some] <;> rfl), by repeat (first | (with_reducible first | exact HB.out | apply below_alloc | apply pw_below_drewN | apply below_drew1) | exact HB.out)⟩
      · replace c15 := Bool.eq_false_iff.mpr c15
        subst c15
        have H1 : (escutcheonlaw18_AclFirst.l0 kj5 l0 a1 a2 a3 a4 0) = some r := by rw [if_neg (show ¬ (false = true) by decide)] at H; exact H
        clear H
        have H := H1
        clear H1
        have H' := Aside0.mk H
        clear H
        go_wp2
        go_loopg [11] kj5 (fun kq v11 w' => ∃ (x11_2 : Int), v11 = .int .i64 x11_2 ∧ Aside0 (escutcheonlaw18_AclFirst.l0 kq l0 a1 a2 a3 a4 x11_2 = some r) ∧ Aside0 (kq ≤ kj5) ∧ Aside0 (Below w.heap.size w w'))
        case atStart => exact ⟨(0), (by first | rfl | (simp; done) | (simp [*]; done)), H', ⟨Nat.le_refl _⟩, ⟨by repeat (first | (with_reducible first | exact HB.out | apply below_alloc | apply pw_below_drewN | apply below_drew1) | exact HB.out)⟩⟩
        case round =>
          clear H'
          try clear c1
          try clear p2
          try clear c5
          try clear c7
          try clear c7b0
          try clear c7b1
          try clear c8
          try clear c8b0
          try clear c8b1
          try clear c9
          try clear c9b0
          try clear c9b1
          try clear c10
          try clear c10b0
          try clear c10b1
          try clear c11
          try clear c11b0
          try clear c12
          try clear c12b0
          try clear c15
          try clear p2
          obtain ⟨x11_2, rfl, HA, HK2, HB⟩ := hrel
          cases gk with
          | zero => exact absurd HA.out (by simp [escutcheonlaw18_AclFirst.l0])
          | succ k2 =>
            have H := HA.out
            clear HA
            simp only [escutcheonlaw18_AclFirst.l0] at H
            by_cases c18 : x11_2 < (l0.length : Int)
            · rw [if_pos c18] at H
              have c18b0 : decide (x11_2 < (l0.length : Int)) = true := decide_eq_true c18
              clear c18
              by_cases c19 : 0 ≤ x11_2
              · rw [if_pos c19] at H
                have c19b0 : decide (0 ≤ x11_2) = true := decide_eq_true c19
                clear c19
                by_cases c20 : (((rd_T25 l0 x11_2).f3).size : Int) > 60
                · rw [if_pos c20] at H
                  have c20b0 : decide (60 < (((rd_T25 l0 x11_2).f3).size : Int)) = true := decide_eq_true c20
                  have c20b1 : decide (60 < ((rd_T25 l0 x11_2).f3).size) = true := decide_eq_true (by omega)
                  clear c20
                  obtain rfl := Option.some.inj H
                  have p105 : 0 ≤ (x11_2 : Int) := of_decide_eq_true (by first | (with_reducible assumption) | assumption)
                  have q105 : x11_2 < (l0.length : Int) := of_decide_eq_true (by first | (with_reducible assumption) | assumption)
                  obtain ⟨ad105, e105, hx105_0, hx105_1, hx105_2, hx105_3⟩ := at_T25 HR0.out x11_2 p105 q105
                  cases e105
                  replace hx105_0 := (HB.out.cell (World.block_lt_of_cell? w _ hx105_0)).trans hx105_0
                  replace hx105_1 := (HB.out.cell (World.block_lt_of_cell? w _ hx105_1)).trans hx105_1
                  replace hx105_2 := (HB.out.cell (World.block_lt_of_cell? w _ hx105_2)).trans hx105_2
                  replace hx105_3 := (HB.out.cell (World.block_lt_of_cell? w _ hx105_3)).trans hx105_3
                  replace p105 := eq_true p105
                  replace q105 := eq_true q105
                  go_wp2
                  go_ret
                  exact ⟨by first | rfl | (simp [errW_none, errW_some] <;> rfl) | (simp [*, errW_none, errW_some] <;> rfl), by repeat (first | (with_reducible first | exact HB.out | apply below_alloc | apply pw_below_drewN | apply below_drew1) | exact HB.out)⟩
                · rw [if_neg c20] at H
                  have c20b0 : decide (60 < (((rd_T25 l0 x11_2).f3).size : Int)) = false := decide_eq_false c20
                  have c20b1 : decide (60 < ((rd_T25 l0 x11_2).f3).size) = false := decide_eq_false (by omega)
                  clear c20
                  have H' := Aside0.mk H
                  clear H
                  have p105 : 0 ≤ (x11_2 : Int) := of_decide_eq_true (by first | (with_reducible assumption) | assumption)
                  have q105 : x11_2 < (l0.length : Int) := of_decide_eq_true (by first | (with_reducible assumption) | assumption)
                  obtain ⟨ad105, e105, hx105_0, hx105_1, hx105_2, hx105_3⟩ := at_T25 HR0.out x11_2 p105 q105
                  cases e105
                  replace hx105_0 := (HB.out.cell (World.block_lt_of_cell? w _ hx105_0)).trans hx105_0
                  replace hx105_1 := (HB.out.cell (World.block_lt_of_cell? w _ hx105_1)).trans hx105_1
                  replace hx105_2 := (HB.out.cell (World.block_lt_of_cell? w _ hx105_2)).trans hx105_2
                  replace hx105_3 := (HB.out.cell (World.block_lt_of_cell? w _ hx105_3)).trans hx105_3
                  replace p105 := eq_true p105
                  replace q105 := eq_true q105
                  go_wp2
                  go_roundg k2
                  case measure => have := HJ5.out; have := HK2.out; omega
                  case rel => exact ⟨(wrap64 (x11_2 + 1)), (by first | rfl | (simp; done) | (simp [*]; done)), H', ⟨by have := HJ5.out; have := HK2.out; omega⟩, ⟨by repeat (first | (with_reducible first | exact HB.out | apply below_alloc | apply pw_below_drewN | apply below_drew1) | exact HB.out)⟩⟩
              · rw [if_neg c19] at H
                exact absurd H (by simp)
            · rw [if_neg c18] at H
              have c18b0 : decide (x11_2 < (l0.length : Int)) = false := decide_eq_false c18
              clear c18
              replace H := Option.bind_eq_some_iff.mp H
              obtain ⟨⟨t107, t108⟩, A210, H⟩ := H
              replace H : ((some (([(⟨a4, a1, 0, (⟨#[42]⟩ : ByteArray)⟩ : S25)] : List (S25)) : List (S25))).bind fun y109 => (if y109.length + l0.length < 2932031007402 then ((acl_Decide.f k2 (y109 ++ l0) a1 a2 a3).bind fun bt115 => (if ([] : List (S25)).length + l0.length < 2932031007402 then ((some (([] : List (S25)) ++ l0 : List (S25))).bind fun y117 => ((some (([(⟨a4, a1, 0, (⟨#[42]⟩ : ByteArray)⟩ : S25)] : List (S25)) : List (S25))).bind fun y120 => (if y117.length + y120.length < 2932031007402 then ((acl_Decide.f k2 (y117 ++ y120) a1 a2 a3).bind fun bt126 => ((acl_Decide.f k2 ([] : List (S25)) a1 a2 a3).bind fun bt128 => (if (bt115.1 != a4) = true then (escutcheonlaw18_AclFirst.j2 k2 l0 a1 a2 a3 a4 t107 t108 bt126.1 bt126.2 true) else (if bt115.2 = 0 then (if bt128.1 = true then (escutcheonlaw18_AclFirst.j2 k2 l0 a1 a2 a3 a4 t107 t108 bt126.1 bt126.2 true) else (escutcheonlaw18_AclFirst.j2 k2 l0 a1 a2 a3 a4 t107 t108 bt126.1 bt126.2 (bt128.2 != (-1)))) else (escutcheonlaw18_AclFirst.j2 k2 l0 a1 a2 a3 a4 t107 t108 bt126.1 bt126.2 true))))) else (none)))) else (none))) else (none))) = some r := H
              have A21 := Aside0.mk A210
              clear A210
              obtain ⟨y109, hy109⟩ : ∃ y_ : List (S25), y_ = (([(⟨a4, a1, 0, (⟨#[42]⟩ : ByteArray)⟩ : S25)] : List (S25))) := ⟨_, rfl⟩
              replace H : (if y109.length + l0.length < 2932031007402 then ((acl_Decide.f k2 (y109 ++ l0) a1 a2 a3).bind fun bt115 => (if ([] : List (S25)).length + l0.length < 2932031007402 then ((some (([] : List (S25)) ++ l0 : List (S25))).bind fun y117 => ((some (([(⟨a4, a1, 0, (⟨#[42]⟩ : ByteArray)⟩ : S25)] : List (S25)) : List (S25))).bind fun y120 => (if y117.length + y120.length < 2932031007402 then ((acl_Decide.f k2 (y117 ++ y120) a1 a2 a3).bind fun bt126 => ((acl_Decide.f k2 ([] : List (S25)) a1 a2 a3).bind fun bt128 => (if (bt115.1 != a4) = true then (escutcheonlaw18_AclFirst.j2 k2 l0 a1 a2 a3 a4 t107 t108 bt126.1 bt126.2 true) else (if bt115.2 = 0 then (if bt128.1 = true then (escutcheonlaw18_AclFirst.j2 k2 l0 a1 a2 a3 a4 t107 t108 bt126.1 bt126.2 true) else (escutcheonlaw18_AclFirst.j2 k2 l0 a1 a2 a3 a4 t107 t108 bt126.1 bt126.2 (bt128.2 != (-1)))) else (escutcheonlaw18_AclFirst.j2 k2 l0 a1 a2 a3 a4 t107 t108 bt126.1 bt126.2 true))))) else (none)))) else (none))) else (none)) = some r := by first | (rw [hy109]; with_reducible exact H) | (have H2_ := (Option.bind_some _ _).symm.trans H; rw [hy109]; with_reducible exact H2_) | (have H2_ := (Option.bind_some _ _).symm.trans H; with_reducible exact H2_) | with_reducible exact H | (rw [hy109]; exact H) | exact H
              have Ny109 := Aside0.mk hy109
              clear hy109
              by_cases c22 : y109.length + l0.length < 2932031007402
              · rw [if_pos c22] at H
                have LMc22 := Aside0.mk c22
                clear c22
                obtain ⟨y112, hy112⟩ : ∃ y_ : List (S25), y_ = (y109 ++ l0) := ⟨_, rfl⟩
                replace H : ((acl_Decide.f k2 y112 a1 a2 a3).bind fun bt115 => (if ([] : List (S25)).length + l0.length < 2932031007402 then ((some (([] : List (S25)) ++ l0 : List (S25))).bind fun y117 => ((some (([(⟨a4, a1, 0, (⟨#[42]⟩ : ByteArray)⟩ : S25)] : List (S25)) : List (S25))).bind fun y120 => (if y117.length + y120.length < 2932031007402 then ((acl_Decide.f k2 (y117 ++ y120) a1 a2 a3).bind fun bt126 => ((acl_Decide.f k2 ([] : List (S25)) a1 a2 a3).bind fun bt128 => (if (bt115.1 != a4) = true then (escutcheonlaw18_AclFirst.j2 k2 l0 a1 a2 a3 a4 t107 t108 bt126.1 bt126.2 true) else (if bt115.2 = 0 then (if bt128.1 = true then (escutcheonlaw18_AclFirst.j2 k2 l0 a1 a2 a3 a4 t107 t108 bt126.1 bt126.2 true) else (escutcheonlaw18_AclFirst.j2 k2 l0 a1 a2 a3 a4 t107 t108 bt126.1 bt126.2 (bt128.2 != (-1)))) else (escutcheonlaw18_AclFirst.j2 k2 l0 a1 a2 a3 a4 t107 t108 bt126.1 bt126.2 true))))) else (none)))) else (none))) = some r := by first | (rw [hy112]; with_reducible exact H) | (have H2_ := (Option.bind_some _ _).symm.trans H; rw [hy112]; with_reducible exact H2_) | (have H2_ := (Option.bind_some _ _).symm.trans H; with_reducible exact H2_) | with_reducible exact H | (rw [hy112]; exact H) | exact H
                have Ny112 := Aside0.mk hy112
                clear hy112
                replace H := Option.bind_eq_some_iff.mp H
                obtain ⟨⟨t115, t116⟩, A230, H⟩ := H
                replace H : (if ([] : List (S25)).length + l0.length < 2932031007402 then ((some (([] : List (S25)) ++ l0 : List (S25))).bind fun y117 => ((some (([(⟨a4, a1, 0, (⟨#[42]⟩ : ByteArray)⟩ : S25)] : List (S25)) : List (S25))).bind fun y120 => (if y117.length + y120.length < 2932031007402 then ((acl_Decide.f k2 (y117 ++ y120) a1 a2 a3).bind fun bt126 => ((acl_Decide.f k2 ([] : List (S25)) a1 a2 a3).bind fun bt128 => (if (t115 != a4) = true then (escutcheonlaw18_AclFirst.j2 k2 l0 a1 a2 a3 a4 t107 t108 bt126.1 bt126.2 true) else (if t116 = 0 then (if bt128.1 = true then (escutcheonlaw18_AclFirst.j2 k2 l0 a1 a2 a3 a4 t107 t108 bt126.1 bt126.2 true) else (escutcheonlaw18_AclFirst.j2 k2 l0 a1 a2 a3 a4 t107 t108 bt126.1 bt126.2 (bt128.2 != (-1)))) else (escutcheonlaw18_AclFirst.j2 k2 l0 a1 a2 a3 a4 t107 t108 bt126.1 bt126.2 true))))) else (none)))) else (none)) = some r := H
                have A23 := Aside0.mk A230
                clear A230
                by_cases c24 : ([] : List (S25)).length + l0.length < 2932031007402
                · rw [if_pos c24] at H
                  have LMc24 := Aside0.mk c24
                  clear c24
                  obtain ⟨y117, hy117⟩ : ∃ y_ : List (S25), y_ = (([] : List (S25)) ++ l0) := ⟨_, rfl⟩
                  replace H : ((some (([(⟨a4, a1, 0, (⟨#[42]⟩ : ByteArray)⟩ : S25)] : List (S25)) : List (S25))).bind fun y120 => (if y117.length + y120.length < 2932031007402 then ((acl_Decide.f k2 (y117 ++ y120) a1 a2 a3).bind fun bt126 => ((acl_Decide.f k2 ([] : List (S25)) a1 a2 a3).bind fun bt128 => (if (t115 != a4) = true then (escutcheonlaw18_AclFirst.j2 k2 l0 a1 a2 a3 a4 t107 t108 bt126.1 bt126.2 true) else (if t116 = 0 then (if bt128.1 = true then (escutcheonlaw18_AclFirst.j2 k2 l0 a1 a2 a3 a4 t107 t108 bt126.1 bt126.2 true) else (escutcheonlaw18_AclFirst.j2 k2 l0 a1 a2 a3 a4 t107 t108 bt126.1 bt126.2 (bt128.2 != (-1)))) else (escutcheonlaw18_AclFirst.j2 k2 l0 a1 a2 a3 a4 t107 t108 bt126.1 bt126.2 true))))) else (none))) = some r := by first | (rw [hy117]; with_reducible exact H) | (have H2_ := (Option.bind_some _ _).symm.trans H; rw [hy117]; with_reducible exact H2_) | (have H2_ := (Option.bind_some _ _).symm.trans H; with_reducible exact H2_) | with_reducible exact H | (rw [hy117]; exact H) | exact H
                  have Ny117 := Aside0.mk hy117
                  clear hy117
                  obtain ⟨y120, hy120⟩ : ∃ y_ : List (S25), y_ = (([(⟨a4, a1, 0, (⟨#[42]⟩ : ByteArray)⟩ : S25)] : List (S25))) := ⟨_, rfl⟩
                  replace H : (if y117.length + y120.length < 2932031007402 then ((acl_Decide.f k2 (y117 ++ y120) a1 a2 a3).bind fun bt126 => ((acl_Decide.f k2 ([] : List (S25)) a1 a2 a3).bind fun bt128 => (if (t115 != a4) = true then (escutcheonlaw18_AclFirst.j2 k2 l0 a1 a2 a3 a4 t107 t108 bt126.1 bt126.2 true) else (if t116 = 0 then (if bt128.1 = true then (escutcheonlaw18_AclFirst.j2 k2 l0 a1 a2 a3 a4 t107 t108 bt126.1 bt126.2 true) else (escutcheonlaw18_AclFirst.j2 k2 l0 a1 a2 a3 a4 t107 t108 bt126.1 bt126.2 (bt128.2 != (-1)))) else (escutcheonlaw18_AclFirst.j2 k2 l0 a1 a2 a3 a4 t107 t108 bt126.1 bt126.2 true))))) else (none)) = some r := by first | (rw [hy120]; with_reducible exact H) | (have H2_ := (Option.bind_some _ _).symm.trans H; rw [hy120]; with_reducible exact H2_) | (have H2_ := (Option.bind_some _ _).symm.trans H; with_reducible exact H2_) | with_reducible exact H | (rw [hy120]; exact H) | exact H
                  have Ny120 := Aside0.mk hy120
                  clear hy120
                  by_cases c25 : y117.length + y120.length < 2932031007402
                  · rw [if_pos c25] at H
                    have LMc25 := Aside0.mk c25
                    clear c25
                    obtain ⟨y123, hy123⟩ : ∃ y_ : List (S25), y_ = (y117 ++ y120) := ⟨_, rfl⟩
                    replace H : ((acl_Decide.f k2 y123 a1 a2 a3).bind fun bt126 => ((acl_Decide.f k2 ([] : List (S25)) a1 a2 a3).bind fun bt128 => (if (t115 != a4) = true then (escutcheonlaw18_AclFirst.j2 k2 l0 a1 a2 a3 a4 t107 t108 bt126.1 bt126.2 true) else (if t116 = 0 then (if bt128.1 = true then (escutcheonlaw18_AclFirst.j2 k2 l0 a1 a2 a3 a4 t107 t108 bt126.1 bt126.2 true) else (escutcheonlaw18_AclFirst.j2 k2 l0 a1 a2 a3 a4 t107 t108 bt126.1 bt126.2 (bt128.2 != (-1)))) else (escutcheonlaw18_AclFirst.j2 k2 l0 a1 a2 a3 a4 t107 t108 bt126.1 bt126.2 true))))) = some r := by first | (rw [hy123]; with_reducible exact H) | (have H2_ := (Option.bind_some _ _).symm.trans H; rw [hy123]; with_reducible exact H2_) | (have H2_ := (Option.bind_some _ _).symm.trans H; with_reducible exact H2_) | with_reducible exact H | (rw [hy123]; exact H) | exact H
                    have Ny123 := Aside0.mk hy123
                    clear hy123
                    replace H := Option.bind_eq_some_iff.mp H
                    obtain ⟨⟨t126, t127⟩, A260, H⟩ := H
                    replace H : ((acl_Decide.f k2 ([] : List (S25)) a1 a2 a3).bind fun bt128 => (if (t115 != a4) = true then (escutcheonlaw18_AclFirst.j2 k2 l0 a1 a2 a3 a4 t107 t108 t126 t127 true) else (if t116 = 0 then (if bt128.1 = true then (escutcheonlaw18_AclFirst.j2 k2 l0 a1 a2 a3 a4 t107 t108 t126 t127 true) else (escutcheonlaw18_AclFirst.j2 k2 l0 a1 a2 a3 a4 t107 t108 t126 t127 (bt128.2 != (-1)))) else (escutcheonlaw18_AclFirst.j2 k2 l0 a1 a2 a3 a4 t107 t108 t126 t127 true)))) = some r := H
                    have A26 := Aside0.mk A260
                    clear A260
                    replace H := Option.bind_eq_some_iff.mp H
                    obtain ⟨⟨t128, t129⟩, A270, H⟩ := H
                    replace H : (if (t115 != a4) = true then (escutcheonlaw18_AclFirst.j2 k2 l0 a1 a2 a3 a4 t107 t108 t126 t127 true) else (if t116 = 0 then (if t128 = true then (escutcheonlaw18_AclFirst.j2 k2 l0 a1 a2 a3 a4 t107 t108 t126 t127 true) else (escutcheonlaw18_AclFirst.j2 k2 l0 a1 a2 a3 a4 t107 t108 t126 t127 (t129 != (-1)))) else (escutcheonlaw18_AclFirst.j2 k2 l0 a1 a2 a3 a4 t107 t108 t126 t127 true))) = some r := H
                    have A27 := Aside0.mk A270
                    clear A270
                    have HC28 := Aside0.mk H
                    clear H
                    try go_wp2_with (first | ((with_reducible refine gate_dst (N := 12) rfl ?_); (try (refine gate_guard (by rfl) ?_; dsimp only)); refine box_event ?hg (N := 12) ?hd (cs := #[.bool false, .string (⟨#[]⟩ : ByteArray), .int .i64 0, .string (⟨#[]⟩ : ByteArray)]) (t := 25) ?hr ?_; (case hd => rfl); (case hg => rfl); (case hr => first | (go_simp; done) | (go_simp; rfl)); intro gb106 hg w29 hbox hb; have n0_ := Aside0.mk (below_step (by repeat (first | (with_reducible first | exact HB.out | apply below_alloc | apply pw_below_drewN | apply below_drew1) | exact HB.out)) hb); have n1_ := Aside0.mk (hbox); have n2_ := Aside0.mk ((by rw [hg]; exact (below_size (by repeat (first | (with_reducible first | exact HB.out | apply below_alloc | apply pw_below_drewN | apply below_drew1) | exact HB.out))) : w.heap.size ≤ gb106)); have n3_ := Aside0.mk ((by rw [hg]; exact (below_size (by repeat (first | (with_reducible first | exact HB.out | apply below_alloc | apply pw_below_drewN | apply below_drew1) | exact HB.out))) : w.heap.size ≤ gb106)); clear HB; have HB := n0_; have BK106 := n1_; have GW106 := n2_; have GE106 := n3_; clear n0_ n1_ n2_ n3_; clear hb hbox hg; have hcz30_0 : w29.cell? ⟨gb106, 0, none⟩ = some (.bool false) := (blk_cell BK106.out 0).trans rfl; have hcz30_1 : w29.cell? ⟨gb106, 1, none⟩ = some (.string (⟨#[]⟩ : ByteArray)) := (blk_cell BK106.out 1).trans rfl; have hcz30_2 : w29.cell? ⟨gb106, 2, none⟩ = some (.int .i64 0) := (blk_cell BK106.out 2).trans rfl; have hcz30_3 : w29.cell? ⟨gb106, 3, none⟩ = some (.string (⟨#[]⟩ : ByteArray)) := (blk_cell BK106.out 3).trans rfl; have hfz30_0 := blk_frozen BK106.out 0; have hfz30_1 := blk_frozen BK106.out 1; have hfz30_2 := blk_frozen BK106.out 2; have hfz30_3 := blk_frozen BK106.out 3) | ((with_reducible refine gate_callee (f := 15) rfl ?_); refine goesL_ (some 73) rfl rfl Tryd.func15 (by kernel_rfl) rfl #[.slice A0 l0.length c0, .string a1, .int .i64 a2, .string a3] rfl (by (try simp only [List.map_toArray, List.map_cons, List.map_nil]); first | done | rfl | (simp only [List.length_drop, List.length_take]; rfl)) ?_; (with_reducible refine (acl_Decide.calls k2 _ _ l0 a1 a2 a3 t107 t108 _ ?side1 ?side2 A21.out).mono ?_); (case side1 => exact Kd.C_below HR0.out (by repeat (first | (with_reducible first | exact HB.out | apply below_alloc | apply pw_below_drewN | apply below_drew1 | refine below_set ?_ GE106.out) | exact HB.out))); (case side2 => exact HC0.out); rintro e w31 ⟨rfl, hb⟩; refine ⟨_, rfl, ?_⟩; have n0_ := Aside0.mk (blk_below (g := gb106) (o := .cells #[.bool a4, .string a1, .int .i64 0, .string (⟨#[42]⟩ : ByteArray)] 25 (0, 0)) (by (with_reducible repeat (first | refine blk_drewN ?_ _ | refine blk_drew ?_ | refine blk_alloc ?_ _)); refine blk_put (cs := #[.bool a4, .string a1, .int .i64 0, .string (⟨#[]⟩ : ByteArray)]) ?_ 3 _ rfl; (with_reducible repeat (first | refine blk_drewN ?_ _ | refine blk_drew ?_ | refine blk_alloc ?_ _)); refine blk_put (cs := #[.bool a4, .string a1, .int .i64 0, .string (⟨#[]⟩ : ByteArray)]) ?_ 2 _ rfl; (with_reducible repeat (first | refine blk_drewN ?_ _ | refine blk_drew ?_ | refine blk_alloc ?_ _)); refine blk_put (cs := #[.bool a4, .string (⟨#[]⟩ : ByteArray), .int .i64 0, .string (⟨#[]⟩ : ByteArray)]) ?_ 1 _ rfl; (with_reducible repeat (first | refine blk_drewN ?_ _ | refine blk_drew ?_ | refine blk_alloc ?_ _)); refine blk_put (cs := #[.bool false, .string (⟨#[]⟩ : ByteArray), .int .i64 0, .string (⟨#[]⟩ : ByteArray)]) ?_ 0 _ rfl; (with_reducible repeat (first | refine blk_drewN ?_ _ | refine blk_drew ?_ | refine blk_alloc ?_ _)); exact BK106.out) hb); have n1_ := Aside0.mk (below_step (by repeat (first | (with_reducible first | exact HB.out | apply below_alloc | apply pw_below_drewN | apply below_drew1 | refine below_set ?_ GE106.out) | exact HB.out)) hb); clear BK106; clear HB; have BK106 := n0_; have HB := n1_; clear n0_ n1_; (try clear hb); (try clear hb2); (try clear hk); (try clear hi); have hcz32_0 : w31.cell? ⟨gb106, 0, none⟩ = some (.bool a4) := (blk_cell BK106.out 0).trans rfl; have hcz32_1 : w31.cell? ⟨gb106, 1, none⟩ = some (.string a1) := (blk_cell BK106.out 1).trans rfl; have hcz32_2 : w31.cell? ⟨gb106, 2, none⟩ = some (.int .i64 0) := (blk_cell BK106.out 2).trans rfl; have hcz32_3 : w31.cell? ⟨gb106, 3, none⟩ = some (.string (⟨#[42]⟩ : ByteArray)) := (blk_cell BK106.out 3).trans rfl; have hfz32_0 := blk_frozen BK106.out 0; have hfz32_1 := blk_frozen BK106.out 1; have hfz32_2 := blk_frozen BK106.out 2; have hfz32_3 := blk_frozen BK106.out 3) | ((with_reducible refine gate_dst (N := 78) rfl ?_); (try (refine gate_guard (by rfl) ?_; dsimp only)); refine Kd.R_lit k25 _ 25 ?hg (N := 78) ?hd (xs := ([(⟨a4, a1, 0, (⟨#[42]⟩ : ByteArray)⟩ : S25)] : List (S25))) (inner := [.bool a4, .string a1, .int .i64 0, .string (⟨#[42]⟩ : ByteArray)]) (ok := fun _ => True) (okp := fun _ => True) ?hr ?hp (fun _ hk => hk) trivial (Below.refl _ _) (Nat.le_refl _) (by simp) ?_; (case hd => rfl); (case hg => rfl); (case hr => first | (go_simp; done) | (go_simp; rfl)); (case hp => exact (Reps.c4 (show Kd.M k25 _ _ _ (⟨a4, a1, 0, (⟨#[42]⟩ : ByteArray)⟩ : S25) [.bool a4, .string a1, .int .i64 0, .string (⟨#[42]⟩ : ByteArray)] from (k25_mkM _ _ _ (⟨a4, a1, 0, (⟨#[42]⟩ : ByteArray)⟩ : S25) )) (Reps.none _ _))); intro v110 w33 ho34 hb hg_ hnew_; clear hg_ hnew_; (first | rw [← Ny109.out] at ho34 | (simp only [Int.reduceToNat] at ho34; rw [← Ny109.out] at ho34)); have n0_ := Aside0.mk (Kd.R_lower (Kd.R_newB ho34 (g := gb106) (o := .cells #[.bool a4, .string a1, .int .i64 0, .string (⟨#[42]⟩ : ByteArray)] 25 (0, 0)) (by (with_reducible repeat (first | refine blk_drewN ?_ _ | refine blk_drew ?_ | refine blk_alloc ?_ _)); exact BK106.out)) (below_size (by repeat (first | (with_reducible first | exact HB.out | apply below_alloc | apply pw_below_drewN | apply below_drew1 | refine below_set ?_ GE106.out) | exact HB.out)))); have n1_ := Aside0.mk (blk_below (g := gb106) (o := .cells #[.bool a4, .string a1, .int .i64 0, .string (⟨#[42]⟩ : ByteArray)] 25 (0, 0)) (by (with_reducible repeat (first | refine blk_drewN ?_ _ | refine blk_drew ?_ | refine blk_alloc ?_ _)); exact BK106.out) hb); have n2_ := Aside0.mk (below_step (by repeat (first | (with_reducible first | exact HB.out | apply below_alloc | apply pw_below_drewN | apply below_drew1 | refine below_set ?_ GE106.out) | exact HB.out)) hb); clear BK106; clear HB; have HO111 := n0_; have BK106 := n1_; have HB := n2_; clear n0_ n1_ n2_; clear hb ho34) | ((with_reducible refine gate_builtin (b := .append) (xs := #[.tmp 78, .tmp 79]) rfl ?_); (try (refine gate_guard (by rfl) ?_; dsimp only)); at_builtin; refine Kd.R_append_rows k25 (w0 := w) w.heap.size rfl (.tmp 78) (.tmp 79) 22 25 (.agg #[(.bool false), (.string ⟨#[]⟩), (.int .i64 0), (.string ⟨#[]⟩)]) 48 rfl Tryd.underlying22 info25 rfl (by decide) (by omega) v110 y109 l0 _ _ _ (fun k_ => k_ ≠ gb106) (fun _ => False) rfl rfl ?aO ?aR (fun _ _ h => h) (fun _ h => h.elim) ?aF ?aB ?aS ?aL ?_; (case aR => repeat (first | exact (Kd.C_below HR0.out HB.out) | (with_reducible refine Kd.C_alloc ?_ _) | (with_reducible refine Kd.C_drewN ?_ _) | (with_reducible refine Kd.C_drew ?_))); (case aB => exact (by repeat (first | (with_reducible first | exact HB.out | apply below_alloc | apply pw_below_drewN | apply below_drew1 | refine below_set ?_ GE106.out) | exact HB.out))); (case aF => exact (fun k_ hk => Kd.freshB (g := gb106) (o := .cells #[.bool a4, .string a1, .int .i64 0, .string (⟨#[42]⟩ : ByteArray)] 25 (0, 0)) (by (with_reducible repeat (first | refine blk_drewN ?_ _ | refine blk_drew ?_ | refine blk_alloc ?_ _)); exact BK106.out) k_ hk)); (case aO => exact (by (with_reducible repeat (first | apply Kd.R_alloc | apply Kd.R_drewN | apply Kd.R_drew)); exact Kd.R_mono HO111.out (fun _ hk => hk.2))); (case aS => exact (below_size (by repeat (first | (with_reducible first | exact HB.out | apply below_alloc | apply pw_below_drewN | apply below_drew1 | refine below_set ?_ GE106.out) | exact HB.out)))); (case aL => have := LMc22.out; omega); intro v113 w35 ho hb hg hat; rw [← Ny112.out] at ho; have n0_ := Aside0.mk (blk_grown (g := gb106) (o := .cells #[.bool a4, .string a1, .int .i64 0, .string (⟨#[42]⟩ : ByteArray)] 25 (0, 0)) (by (with_reducible repeat (first | refine blk_drewN ?_ _ | refine blk_drew ?_ | refine blk_alloc ?_ _)); exact BK106.out) hg (Kd.R_away HO111.out (fun _ hk => hk.2))); have n1_ := Aside0.mk (hb); have n2_ := Aside0.mk (ho); clear BK106; clear HB; clear HO111; have BK106 := n0_; have HB := n1_; have HO114 := n2_; clear n0_ n1_ n2_; clear ho hb hg hat; obtain ⟨Ao36, co36, eo36⟩ := Kd.R_slice HO114.out; subst eo36) | ((with_reducible refine gate_callee (f := 15) rfl ?_); refine goesL_ (some 84) rfl rfl Tryd.func15 (by kernel_rfl) rfl #[.slice Ao36 y112.length co36, .string a1, .int .i64 a2, .string a3] rfl (by (try simp only [List.map_toArray, List.map_cons, List.map_nil]); first | done | rfl | (simp only [List.length_drop, List.length_take]; rfl)) ?_; (with_reducible refine (acl_Decide.calls k2 _ _ y112 a1 a2 a3 t115 t116 _ ?side1 ?side2 A23.out).mono ?_); (case side1 => repeat (first | exact (Kd.R_reads' HO114.out).2.2 | (with_reducible refine Kd.C_alloc ?_ _) | (with_reducible refine Kd.C_drewN ?_ _) | (with_reducible refine Kd.C_drew ?_))); (case side2 => exact (Kd.R_reads' HO114.out).2.1); rintro e w37 ⟨rfl, hb⟩; refine ⟨_, rfl, ?_⟩; have n0_ := Aside0.mk (Kd.R_below (by (with_reducible repeat (first | apply Kd.R_alloc | apply Kd.R_drewN | apply Kd.R_drew)); exact HO114.out) hb); have n1_ := Aside0.mk (blk_below (g := gb106) (o := .cells #[.bool a4, .string a1, .int .i64 0, .string (⟨#[42]⟩ : ByteArray)] 25 (0, 0)) (by (with_reducible repeat (first | refine blk_drewN ?_ _ | refine blk_drew ?_ | refine blk_alloc ?_ _)); exact BK106.out) hb); have n2_ := Aside0.mk (below_step (by repeat (first | (with_reducible first | exact HB.out | apply below_alloc | apply pw_below_drewN | apply below_drew1 | refine below_set ?_ GE106.out) | exact HB.out)) hb); clear HO114; clear BK106; clear HB; have HO114 := n0_; have BK106 := n1_; have HB := n2_; clear n0_ n1_ n2_; (try clear hb); (try clear hb2); (try clear hk); (try clear hi)))
                    have n0_ := Aside0.mk (Kd.R_drew HO114.out)
                    have n1_ := Aside0.mk (blk_drew BK106.out)
                    have n2_ := Aside0.mk (below_drew1 HB.out)
                    clear HO114
                    clear BK106
                    clear HB
                    have HO114 := n0_
                    have BK106 := n1_
                    have HB := n2_
                    clear n0_ n1_ n2_
                    refine start_ (n := 14) (S := fun w' => w'.cell? ⟨gb106, 0, none⟩ = some (.bool a4) ∧ w'.cell? ⟨gb106, 1, none⟩ = some (.string a1) ∧ w'.cell? ⟨gb106, 2, none⟩ = some (.int .i64 0) ∧ w'.cell? ⟨gb106, 3, none⟩ = some (.string (⟨#[42]⟩ : ByteArray))) (ds := []) #[false, false, false, false, false, false, false, false, false, false, false, false, false, false] (by kernel_rfl) rfl rfl ⟨(blk_cell BK106.out 0).trans rfl, (blk_cell BK106.out 1).trans rfl, (blk_cell BK106.out 2).trans rfl, (blk_cell BK106.out 3).trans rfl⟩ (fun hHeld => ?_); refine with_tabW escutcheonlaw18_AclFirst.tab11 escutcheonlaw18_AclFirst.bits11 (fun HT_ HW_ => ?_)
                    generalize w37.drew = w38 at HO114 BK106 HB hHeld ⊢
                    refine pure_ (i := 0) (N := some 88) (v := ?_) (a' := ?_) #[true, false, false, false, false, false, false, false, false, false, false, false, false, false] rfl rfl (any_of HT_.out (by kernel_rfl)) (fun _ _ _ h => h) (Or.inl ⟨by rfl, ?_⟩) ?_ ?_
                    rotate_left
                    · intro w'
                      go_simp
                      with_reducible rfl
                    rotate_left
                    · simp only [Act.put, List.setIfInBounds_toArray, List.set_cons_zero, List.set_cons_succ, i64_w, i32_w]
                      rfl
                    refine pure_ (i := 5) (N := some 93) (v := ?_) (a' := ?_) #[true, false, false, false, false, true, false, false, false, false, false, false, false, false] rfl rfl (any_of HT_.out (by kernel_rfl)) (fun _ _ _ h => h) (Or.inl ⟨by rfl, ?_⟩) ?_ ?_
                    rotate_left
                    · intro w'
                      go_simp
                      with_reducible rfl
                    rotate_left
                    · simp only [Act.put, List.setIfInBounds_toArray, List.set_cons_zero, List.set_cons_succ, i64_w, i32_w]
                      rfl
                    refine pure_ (i := 6) (N := some 94) (v := ?_) (a' := ?_) #[true, false, false, false, false, true, true, false, false, false, false, false, false, false] rfl rfl (any_of HT_.out (by kernel_rfl)) (fun _ _ _ h => h) (Or.inl ⟨by rfl, ?_⟩) ?_ ?_
                    rotate_left
                    · intro w'
                      go_simp
                      with_reducible rfl
                    rotate_left
                    · simp only [Act.put, List.setIfInBounds_toArray, List.set_cons_zero, List.set_cons_succ, i64_w, i32_w]
                      rfl
                    refine pure_ (i := 7) (N := some 95) (v := ?_) (a' := ?_) #[true, false, false, false, false, true, true, true, false, false, false, false, false, false] rfl rfl (any_of HT_.out (by kernel_rfl)) (fun _ _ _ h => h) (Or.inl ⟨by rfl, ?_⟩) ?_ ?_
                    rotate_left
                    · intro w'
                      go_simp
                      with_reducible rfl
                    rotate_left
                    · simp only [Act.put, List.setIfInBounds_toArray, List.set_cons_zero, List.set_cons_succ, i64_w, i32_w]
                      rfl
                    refine take_ (i := 2) (N := some 90) (v := ?_) (a' := ?_) #[true, false, true, false, false, true, true, true, false, false, false, false, false, false] rfl rfl (take_ofW HT_.out HW_.out (by kernel_rfl)) (fun _ _ _ h => h) (Or.inl ⟨by rfl, ?_⟩) hHeld ?_ ?_
                    rotate_left
                    · rintro w' ⟨s0, s1, s2, s3⟩
                      go_simp
                      with_reducible rfl
                    rotate_left
                    · simp only [Act.put, List.setIfInBounds_toArray, List.set_cons_zero, List.set_cons_succ, i64_w, i32_w]
                      rfl
                    refine join_ (σ := Value × Value) 7 #[true, true, true, true, false, true, true, true, false, false, false, false, false, false] (fun s_ => [(89, s_.1), (91, s_.2)]) (fun s_ w' => (w'.cell? ⟨gb106, 0, none⟩ = some (.bool a4) ∧ w'.cell? ⟨gb106, 1, none⟩ = some (.string a1) ∧ w'.cell? ⟨gb106, 2, none⟩ = some (.int .i64 0) ∧ w'.cell? ⟨gb106, 3, none⟩ = some (.string (⟨#[42]⟩ : ByteArray))) ∧ (Kd.R k25 25 w' w.heap.size (fun k_ => some k_ ≠ (s_.1 : Value).ownBlock ∧ some k_ ≠ (s_.2 : Value).ownBlock ∧ k_ ≠ gb106) (.slice Ao36 y112.length co36) y112) ∧ (Kd.R k25 25 w' w.heap.size (fun k_ => some k_ ≠ (.slice Ao36 y112.length co36 : Value).ownBlock ∧ some k_ ≠ (s_.2 : Value).ownBlock ∧ k_ ≠ gb106) s_.1 y117) ∧ (Kd.R k25 25 w' w.heap.size (fun k_ => some k_ ≠ (.slice Ao36 y112.length co36 : Value).ownBlock ∧ some k_ ≠ (s_.1 : Value).ownBlock ∧ k_ ≠ gb106) s_.2 y120) ∧ (w'.heap[gb106]? = some (.cells #[.bool a4, .string a1, .int .i64 0, .string (⟨#[42]⟩ : ByteArray)] 25 (0, 0))) ∧ (Below w.heap.size w w')) ?_ ?_
                    rotate_left
                    · intro hCont
                      refine two_ (i := 1) (j := 3) (Ni := some 89) (Nj := some 91) #[true, true, true, false, false, true, true, true, false, false, false, false, false, false] #[true, false, true, true, false, true, true, true, false, false, false, false, false, false] rfl rfl rfl rfl (two_of HT_.out (by kernel_rfl)) (by decide) (by decide) (fun K hK => ?_) (fun K hK => ?_)
                      · skip
                        refine Kd.R_append_rows_step k25 (w0 := w) w.heap.size (by rfl) (.const (.slice none 0 0)) (.tmp 88) 22 25 (.agg #[(.bool false), (.string ⟨#[]⟩), (.int .i64 0), (.string ⟨#[]⟩)]) 48 rfl Tryd.underlying22 info25 rfl (by decide) (by omega) (.slice none 0 0) ([] : List (S25)) l0 _ _ _ (fun k_ => some k_ ≠ (.slice Ao36 y112.length co36 : Value).ownBlock ∧ k_ ≠ gb106) (fun _ => False) rfl rfl ?aO ?aR (fun _ _ h => h) (fun _ h => h.elim) ?aF ?aB ?aS ?aL ?_
                        (case aR => repeat (first | exact (Kd.C_below HR0.out HB.out) | (with_reducible refine Kd.C_alloc ?_ _) | (with_reducible refine Kd.C_drewN ?_ _) | (with_reducible refine Kd.C_drew ?_)))
                        (case aB => exact (by repeat (first | (with_reducible first | exact HB.out | apply below_alloc | apply pw_below_drewN | apply below_drew1 | refine below_set ?_ GE106.out) | exact HB.out)))
                        (case aF => exact (fun k_ hk => ⟨Kd.fresh' (Kd.R_lt (by (with_reducible repeat (first | apply Kd.R_alloc | apply Kd.R_drewN | apply Kd.R_drew)); exact HO114.out)) k_ hk, Kd.freshB (g := gb106) (o := .cells #[.bool a4, .string a1, .int .i64 0, .string (⟨#[42]⟩ : ByteArray)] 25 (0, 0)) (by (with_reducible repeat (first | refine blk_drewN ?_ _ | refine blk_drew ?_ | refine blk_alloc ?_ _)); exact BK106.out) k_ hk⟩))
                        (case aO => exact ((Kd.R_nil _ _ _ _ (fun k_ => some k_ ≠ (.slice Ao36 y112.length co36 : Value).ownBlock ∧ k_ ≠ gb106))))
                        (case aS => exact (below_size (by repeat (first | (with_reducible first | exact HB.out | apply below_alloc | apply pw_below_drewN | apply below_drew1 | refine below_set ?_ GE106.out) | exact HB.out))))
                        (case aL => have := LMc24.out; omega)
                        intro v118 w39 ho hb hg hat
                        rw [← Ny117.out] at ho
                        have n0_ := Aside0.mk (blk_grown (g := gb106) (o := .cells #[.bool a4, .string a1, .int .i64 0, .string (⟨#[42]⟩ : ByteArray)] 25 (0, 0)) (by (with_reducible repeat (first | refine blk_drewN ?_ _ | refine blk_drew ?_ | refine blk_alloc ?_ _)); exact BK106.out) hg (by simp [Value.ownBlock]))
                        have n1_ := Aside0.mk (Kd.R_after (Kd.R_apart_nil (by (with_reducible repeat (first | apply Kd.R_alloc | apply Kd.R_drewN | apply Kd.R_drew)); exact HO114.out)) hg hat)
                        have n2_ := Aside0.mk (hb)
                        have n3_ := Aside0.mk (ho)
                        clear BK106
                        clear HO114
                        clear HB
                        have BK106 := n0_
                        have HO114 := n1_
                        have HB := n2_
                        have HO119 := n3_
                        clear n0_ n1_ n2_ n3_
                        clear ho hb hg hat
                        refine hK.out _ _ ⟨(blk_cell BK106.out 0).trans rfl, (blk_cell BK106.out 1).trans rfl, (blk_cell BK106.out 2).trans rfl, (blk_cell BK106.out 3).trans rfl⟩ (fun hHeld => ?_)
                        clear hK K
                        refine norm_ (a' := ?_) ?_ ?_
                        rotate_left
                        · show Act.put _ (some 89) _ = _
                          simp only [Act.put, List.setIfInBounds_toArray, List.set_cons_zero, List.set_cons_succ, i64_w, i32_w]
                          rfl
                        refine one_ (i := 3) (N := some 91) #[true, true, true, true, false, true, true, true, false, false, false, false, false, false] rfl rfl (one_of HT_.out (by kernel_rfl)) (by decide) (fun K hK => ?_)
                        refine Kd.R_lit_step k25 _ 25 ?hg (N := 91) ?hd (xs := ([(⟨a4, a1, 0, (⟨#[42]⟩ : ByteArray)⟩ : S25)] : List (S25))) (inner := [.bool a4, .string a1, .int .i64 0, .string (⟨#[42]⟩ : ByteArray)]) (ok := fun _ => True) (okp := fun _ => True) ?hr ?hp (fun _ hk => hk) trivial (Below.refl _ _) (Nat.le_refl _) (by simp) ?_; (case hd => rfl); (case hg => rfl); (case hr => first | (go_simp; done) | (go_simp; rfl)); (case hp => exact (Reps.c4 (show Kd.M k25 _ _ _ (⟨a4, a1, 0, (⟨#[42]⟩ : ByteArray)⟩ : S25) [.bool a4, .string a1, .int .i64 0, .string (⟨#[42]⟩ : ByteArray)] from (k25_mkM _ _ _ (⟨a4, a1, 0, (⟨#[42]⟩ : ByteArray)⟩ : S25) )) (Reps.none _ _)))
                        intro v121 w40 ho41 hb hg_ hnew_
                        clear hg_ hnew_
                        (first | rw [← Ny120.out] at ho41 | (simp only [Int.reduceToNat] at ho41; rw [← Ny120.out] at ho41))
                        have n0_ := Aside0.mk (Kd.R_elder' (by (with_reducible repeat (first | apply Kd.R_alloc | apply Kd.R_drewN | apply Kd.R_drew)); exact HO114.out) (Kd.R_base ho41) hb)
                        have n1_ := Aside0.mk (Kd.R_elder' (by (with_reducible repeat (first | apply Kd.R_alloc | apply Kd.R_drewN | apply Kd.R_drew)); exact HO119.out) (Kd.R_base ho41) hb)
                        have n2_ := Aside0.mk (Kd.R_lower (Kd.R_newB (Kd.R_new' (Kd.R_new' ho41 (Kd.R_lt (by (with_reducible repeat (first | apply Kd.R_alloc | apply Kd.R_drewN | apply Kd.R_drew)); exact HO114.out))) (Kd.R_lt (by (with_reducible repeat (first | apply Kd.R_alloc | apply Kd.R_drewN | apply Kd.R_drew)); exact HO119.out))) (g := gb106) (o := .cells #[.bool a4, .string a1, .int .i64 0, .string (⟨#[42]⟩ : ByteArray)] 25 (0, 0)) (by (with_reducible repeat (first | refine blk_drewN ?_ _ | refine blk_drew ?_ | refine blk_alloc ?_ _)); exact BK106.out)) (below_size (by repeat (first | (with_reducible first | exact HB.out | apply below_alloc | apply pw_below_drewN | apply below_drew1 | refine below_set ?_ GE106.out) | exact HB.out))))
                        have n3_ := Aside0.mk (blk_below (g := gb106) (o := .cells #[.bool a4, .string a1, .int .i64 0, .string (⟨#[42]⟩ : ByteArray)] 25 (0, 0)) (by (with_reducible repeat (first | refine blk_drewN ?_ _ | refine blk_drew ?_ | refine blk_alloc ?_ _)); exact BK106.out) hb)
                        have n4_ := Aside0.mk (below_step (by repeat (first | (with_reducible first | exact HB.out | apply below_alloc | apply pw_below_drewN | apply below_drew1 | refine below_set ?_ GE106.out) | exact HB.out)) hb)
                        clear HO114
                        clear HO119
                        clear BK106
                        clear HB
                        have HO114 := n0_
                        have HO119 := n1_
                        have HO122 := n2_
                        have BK106 := n3_
                        have HB := n4_
                        clear n0_ n1_ n2_ n3_ n4_
                        clear hb ho41
                        refine hK.out _ _ ⟨(blk_cell BK106.out 0).trans rfl, (blk_cell BK106.out 1).trans rfl, (blk_cell BK106.out 2).trans rfl, (blk_cell BK106.out 3).trans rfl⟩ (fun hHeld => ?_)
                        clear hK K
                        refine norm_ (a' := ?_) ?_ ?_
                        rotate_left
                        · show Act.put _ (some 91) _ = _
                          simp only [Act.put, List.setIfInBounds_toArray, List.set_cons_zero, List.set_cons_succ, i64_w, i32_w]
                          rfl
                        exact norm_ (by simp only [putAll, Act.put, List.setIfInBounds_toArray, List.set_cons_zero, List.set_cons_succ]) (hCont (v118, v121) _ ⟨hHeld, (by (with_reducible repeat (first | apply Kd.R_alloc | apply Kd.R_drewN | apply Kd.R_drew)); exact Kd.R_mono HO114.out (fun _ hk => ⟨hk.1.2, ⟨hk.2, hk.1.1⟩⟩)), (by (with_reducible repeat (first | apply Kd.R_alloc | apply Kd.R_drewN | apply Kd.R_drew)); exact Kd.R_mono HO119.out (fun _ hk => ⟨hk.1.1, ⟨hk.2, hk.1.2⟩⟩)), (by (with_reducible repeat (first | apply Kd.R_alloc | apply Kd.R_drewN | apply Kd.R_drew)); exact Kd.R_mono HO122.out (fun _ hk => ⟨hk.1.1.2, ⟨hk.1.2, hk.2⟩⟩)), (by (with_reducible repeat (first | refine blk_drewN ?_ _ | refine blk_drew ?_ | refine blk_alloc ?_ _)); exact BK106.out), (by repeat (first | (with_reducible first | exact HB.out | apply below_alloc | apply pw_below_drewN | apply below_drew1 | refine below_set ?_ GE106.out) | exact HB.out))⟩)
                      · skip
                        refine Kd.R_lit_step k25 _ 25 ?hg (N := 91) ?hd (xs := ([(⟨a4, a1, 0, (⟨#[42]⟩ : ByteArray)⟩ : S25)] : List (S25))) (inner := [.bool a4, .string a1, .int .i64 0, .string (⟨#[42]⟩ : ByteArray)]) (ok := fun _ => True) (okp := fun _ => True) ?hr ?hp (fun _ hk => hk) trivial (Below.refl _ _) (Nat.le_refl _) (by simp) ?_; (case hd => rfl); (case hg => rfl); (case hr => first | (go_simp; done) | (go_simp; rfl)); (case hp => exact (Reps.c4 (show Kd.M k25 _ _ _ (⟨a4, a1, 0, (⟨#[42]⟩ : ByteArray)⟩ : S25) [.bool a4, .string a1, .int .i64 0, .string (⟨#[42]⟩ : ByteArray)] from (k25_mkM _ _ _ (⟨a4, a1, 0, (⟨#[42]⟩ : ByteArray)⟩ : S25) )) (Reps.none _ _)))
                        intro v121 w39 ho40 hb hg_ hnew_
                        clear hg_ hnew_
                        (first | rw [← Ny120.out] at ho40 | (simp only [Int.reduceToNat] at ho40; rw [← Ny120.out] at ho40))
                        have n0_ := Aside0.mk (Kd.R_elder' (by (with_reducible repeat (first | apply Kd.R_alloc | apply Kd.R_drewN | apply Kd.R_drew)); exact HO114.out) (Kd.R_base ho40) hb)
                        have n1_ := Aside0.mk (Kd.R_lower (Kd.R_newB (Kd.R_new' ho40 (Kd.R_lt (by (with_reducible repeat (first | apply Kd.R_alloc | apply Kd.R_drewN | apply Kd.R_drew)); exact HO114.out))) (g := gb106) (o := .cells #[.bool a4, .string a1, .int .i64 0, .string (⟨#[42]⟩ : ByteArray)] 25 (0, 0)) (by (with_reducible repeat (first | refine blk_drewN ?_ _ | refine blk_drew ?_ | refine blk_alloc ?_ _)); exact BK106.out)) (below_size (by repeat (first | (with_reducible first | exact HB.out | apply below_alloc | apply pw_below_drewN | apply below_drew1 | refine below_set ?_ GE106.out) | exact HB.out))))
                        have n2_ := Aside0.mk (blk_below (g := gb106) (o := .cells #[.bool a4, .string a1, .int .i64 0, .string (⟨#[42]⟩ : ByteArray)] 25 (0, 0)) (by (with_reducible repeat (first | refine blk_drewN ?_ _ | refine blk_drew ?_ | refine blk_alloc ?_ _)); exact BK106.out) hb)
                        have n3_ := Aside0.mk (below_step (by repeat (first | (with_reducible first | exact HB.out | apply below_alloc | apply pw_below_drewN | apply below_drew1 | refine below_set ?_ GE106.out) | exact HB.out)) hb)
                        clear HO114
                        clear BK106
                        clear HB
                        have HO114 := n0_
                        have HO122 := n1_
                        have BK106 := n2_
                        have HB := n3_
                        clear n0_ n1_ n2_ n3_
                        clear hb ho40
                        refine hK.out _ _ ⟨(blk_cell BK106.out 0).trans rfl, (blk_cell BK106.out 1).trans rfl, (blk_cell BK106.out 2).trans rfl, (blk_cell BK106.out 3).trans rfl⟩ (fun hHeld => ?_)
                        clear hK K
                        refine norm_ (a' := ?_) ?_ ?_
                        rotate_left
                        · show Act.put _ (some 91) _ = _
                          simp only [Act.put, List.setIfInBounds_toArray, List.set_cons_zero, List.set_cons_succ, i64_w, i32_w]
                          rfl
                        refine one_ (i := 1) (N := some 89) #[true, true, true, true, false, true, true, true, false, false, false, false, false, false] rfl rfl (one_of HT_.out (by kernel_rfl)) (by decide) (fun K hK => ?_)
                        refine Kd.R_append_rows_step k25 (w0 := w) w.heap.size (by rfl) (.const (.slice none 0 0)) (.tmp 88) 22 25 (.agg #[(.bool false), (.string ⟨#[]⟩), (.int .i64 0), (.string ⟨#[]⟩)]) 48 rfl Tryd.underlying22 info25 rfl (by decide) (by omega) (.slice none 0 0) ([] : List (S25)) l0 _ _ _ (fun k_ => some k_ ≠ (.slice Ao36 y112.length co36 : Value).ownBlock ∧ some k_ ≠ (v121 : Value).ownBlock ∧ k_ ≠ gb106) (fun _ => False) rfl rfl ?aO ?aR (fun _ _ h => h) (fun _ h => h.elim) ?aF ?aB ?aS ?aL ?_
                        (case aR => repeat (first | exact (Kd.C_below HR0.out HB.out) | (with_reducible refine Kd.C_alloc ?_ _) | (with_reducible refine Kd.C_drewN ?_ _) | (with_reducible refine Kd.C_drew ?_)))
                        (case aB => exact (by repeat (first | (with_reducible first | exact HB.out | apply below_alloc | apply pw_below_drewN | apply below_drew1 | refine below_set ?_ GE106.out) | exact HB.out)))
                        (case aF => exact (fun k_ hk => ⟨Kd.fresh' (Kd.R_lt (by (with_reducible repeat (first | apply Kd.R_alloc | apply Kd.R_drewN | apply Kd.R_drew)); exact HO114.out)) k_ hk, Kd.fresh' (Kd.R_lt (by (with_reducible repeat (first | apply Kd.R_alloc | apply Kd.R_drewN | apply Kd.R_drew)); exact HO122.out)) k_ hk, Kd.freshB (g := gb106) (o := .cells #[.bool a4, .string a1, .int .i64 0, .string (⟨#[42]⟩ : ByteArray)] 25 (0, 0)) (by (with_reducible repeat (first | refine blk_drewN ?_ _ | refine blk_drew ?_ | refine blk_alloc ?_ _)); exact BK106.out) k_ hk⟩))
                        (case aO => exact ((Kd.R_nil _ _ _ _ (fun k_ => some k_ ≠ (.slice Ao36 y112.length co36 : Value).ownBlock ∧ some k_ ≠ (v121 : Value).ownBlock ∧ k_ ≠ gb106))))
                        (case aS => exact (below_size (by repeat (first | (with_reducible first | exact HB.out | apply below_alloc | apply pw_below_drewN | apply below_drew1 | refine below_set ?_ GE106.out) | exact HB.out))))
                        (case aL => have := LMc24.out; omega)
                        intro v118 w41 ho hb hg hat
                        rw [← Ny117.out] at ho
                        have n0_ := Aside0.mk (blk_grown (g := gb106) (o := .cells #[.bool a4, .string a1, .int .i64 0, .string (⟨#[42]⟩ : ByteArray)] 25 (0, 0)) (by (with_reducible repeat (first | refine blk_drewN ?_ _ | refine blk_drew ?_ | refine blk_alloc ?_ _)); exact BK106.out) hg (by simp [Value.ownBlock]))
                        have n1_ := Aside0.mk (Kd.R_after (Kd.R_apart_nil (by (with_reducible repeat (first | apply Kd.R_alloc | apply Kd.R_drewN | apply Kd.R_drew)); exact HO114.out)) hg hat)
                        have n2_ := Aside0.mk (Kd.R_after (Kd.R_apart_nil (by (with_reducible repeat (first | apply Kd.R_alloc | apply Kd.R_drewN | apply Kd.R_drew)); exact HO122.out)) hg hat)
                        have n3_ := Aside0.mk (hb)
                        have n4_ := Aside0.mk (ho)
                        clear BK106
                        clear HO114
                        clear HO122
                        clear HB
                        have BK106 := n0_
                        have HO114 := n1_
                        have HO122 := n2_
                        have HB := n3_
                        have HO119 := n4_
                        clear n0_ n1_ n2_ n3_ n4_
                        clear ho hb hg hat
                        refine hK.out _ _ ⟨(blk_cell BK106.out 0).trans rfl, (blk_cell BK106.out 1).trans rfl, (blk_cell BK106.out 2).trans rfl, (blk_cell BK106.out 3).trans rfl⟩ (fun hHeld => ?_)
                        clear hK K
                        refine norm_ (a' := ?_) ?_ ?_
                        rotate_left
                        · show Act.put _ (some 89) _ = _
                          simp only [Act.put, List.setIfInBounds_toArray, List.set_cons_zero, List.set_cons_succ, i64_w, i32_w]
                          rfl
                        exact norm_ (by simp only [putAll, Act.put, List.setIfInBounds_toArray, List.set_cons_zero, List.set_cons_succ]) (hCont (v118, v121) _ ⟨hHeld, (by (with_reducible repeat (first | apply Kd.R_alloc | apply Kd.R_drewN | apply Kd.R_drew)); exact Kd.R_mono HO114.out (fun _ hk => ⟨hk.2, ⟨hk.1.2, hk.1.1⟩⟩)), (by (with_reducible repeat (first | apply Kd.R_alloc | apply Kd.R_drewN | apply Kd.R_drew)); exact HO119.out), (by (with_reducible repeat (first | apply Kd.R_alloc | apply Kd.R_drewN | apply Kd.R_drew)); exact Kd.R_mono HO122.out (fun _ hk => ⟨hk.1.1.2, ⟨hk.2, hk.1.2⟩⟩)), (by (with_reducible repeat (first | refine blk_drewN ?_ _ | refine blk_drew ?_ | refine blk_alloc ?_ _)); exact BK106.out), (by repeat (first | (with_reducible first | exact HB.out | apply below_alloc | apply pw_below_drewN | apply below_drew1 | refine below_set ?_ GE106.out) | exact HB.out))⟩)
                    rintro ⟨v118, v121⟩ w42 ⟨hS_, h0_, h1_, h2_, h3_, h4_⟩
                    have n0_ : Aside0 (Kd.R k25 25 w42 w.heap.size (fun k_ => some k_ ≠ (v118 : Value).ownBlock ∧ some k_ ≠ (v121 : Value).ownBlock ∧ k_ ≠ gb106) (.slice Ao36 y112.length co36) y112) := ⟨h0_⟩
                    have n1_ : Aside0 (Kd.R k25 25 w42 w.heap.size (fun k_ => some k_ ≠ (.slice Ao36 y112.length co36 : Value).ownBlock ∧ some k_ ≠ (v121 : Value).ownBlock ∧ k_ ≠ gb106) v118 y117) := ⟨h1_⟩
                    have n2_ : Aside0 (Kd.R k25 25 w42 w.heap.size (fun k_ => some k_ ≠ (.slice Ao36 y112.length co36 : Value).ownBlock ∧ some k_ ≠ (v118 : Value).ownBlock ∧ k_ ≠ gb106) v121 y120) := ⟨h2_⟩
                    have n3_ : Aside0 (w42.heap[gb106]? = some (.cells #[.bool a4, .string a1, .int .i64 0, .string (⟨#[42]⟩ : ByteArray)] 25 (0, 0))) := ⟨h3_⟩
                    have n4_ : Aside0 (Below w.heap.size w w42) := ⟨h4_⟩
                    clear HO114
                    clear BK106
                    clear HB
                    clear h0_ h1_ h2_ h3_ h4_
                    have HO114 := n0_
                    have HO119 := n1_
                    have HO122 := n2_
                    have BK106 := n3_
                    have HB := n4_
                    clear n0_ n1_ n2_ n3_ n4_
                    have hHeld : w42.cell? ⟨gb106, 0, none⟩ = some (.bool a4) ∧ w42.cell? ⟨gb106, 1, none⟩ = some (.string a1) ∧ w42.cell? ⟨gb106, 2, none⟩ = some (.int .i64 0) ∧ w42.cell? ⟨gb106, 3, none⟩ = some (.string (⟨#[42]⟩ : ByteArray)) := hS_
                    obtain ⟨Ao44, co44, eo44⟩ := Kd.R_slice HO122.out
                    (first | subst eo44 | (injection eo44 with f1_ f2_ f3_; have f4_ := f1_.symm; have f5_ := f3_.symm; clear f1_ f2_ f3_; subst f4_; subst f5_))
                    refine norm_ (a' := ?_) ?_ ?_
                    rotate_left
                    · simp only [putAll, Act.put, List.setIfInBounds_toArray, List.set_cons_zero, List.set_cons_succ]
                      rfl
                    refine one_ (i := 4) (N := some 92) #[true, true, true, true, true, true, true, true, false, false, false, false, false, false] rfl rfl (one_of HT_.out (by kernel_rfl)) (by decide) (fun K hK => ?_)
                    refine Kd.R_append_rows_step k25 (w0 := w) w.heap.size (by rfl) (.tmp 89) (.tmp 91) 22 25 (.agg #[(.bool false), (.string ⟨#[]⟩), (.int .i64 0), (.string ⟨#[]⟩)]) 48 rfl Tryd.underlying22 info25 rfl (by decide) (by omega) v118 y117 y120 _ _ _ (fun k_ => some k_ ≠ (.slice Ao36 y112.length co36 : Value).ownBlock ∧ some k_ ≠ (.slice Ao44 y120.length co44 : Value).ownBlock ∧ k_ ≠ gb106) (fun _ => False) rfl rfl ?aO ?aR (fun _ _ h => h) (fun _ h => h.elim) ?aF ?aB ?aS ?aL ?_
                    (case aR => repeat (first | exact (Kd.R_reads' HO122.out).2.2 | (with_reducible refine Kd.C_alloc ?_ _) | (with_reducible refine Kd.C_drewN ?_ _) | (with_reducible refine Kd.C_drew ?_)))
                    (case aB => exact (by repeat (first | (with_reducible first | exact HB.out | apply below_alloc | apply pw_below_drewN | apply below_drew1 | refine below_set ?_ GE106.out) | exact HB.out)))
                    (case aF => exact (fun k_ hk => ⟨Kd.fresh' (Kd.R_lt (by (with_reducible repeat (first | apply Kd.R_alloc | apply Kd.R_drewN | apply Kd.R_drew)); exact HO114.out)) k_ hk, Kd.fresh' (Kd.R_lt (by (with_reducible repeat (first | apply Kd.R_alloc | apply Kd.R_drewN | apply Kd.R_drew)); exact HO122.out)) k_ hk, Kd.freshB (g := gb106) (o := .cells #[.bool a4, .string a1, .int .i64 0, .string (⟨#[42]⟩ : ByteArray)] 25 (0, 0)) (by (with_reducible repeat (first | refine blk_drewN ?_ _ | refine blk_drew ?_ | refine blk_alloc ?_ _)); exact BK106.out) k_ hk⟩))
                    (case aO => exact (by (with_reducible repeat (first | apply Kd.R_alloc | apply Kd.R_drewN | apply Kd.R_drew)); exact HO119.out))
                    (case aS => exact (below_size (by repeat (first | (with_reducible first | exact HB.out | apply below_alloc | apply pw_below_drewN | apply below_drew1 | refine below_set ?_ GE106.out) | exact HB.out))))
                    (case aL => have := LMc25.out; omega)
                    intro v124 w43 ho hb hg hat
                    rw [← Ny123.out] at ho
                    have n0_ := Aside0.mk (blk_grown (g := gb106) (o := .cells #[.bool a4, .string a1, .int .i64 0, .string (⟨#[42]⟩ : ByteArray)] 25 (0, 0)) (by (with_reducible repeat (first | refine blk_drewN ?_ _ | refine blk_drew ?_ | refine blk_alloc ?_ _)); exact BK106.out) hg (Kd.R_away HO119.out (fun _ hk => hk.2.2)))
                    have n1_ := Aside0.mk (Kd.R_after (ok := (fun k_ => some k_ ≠ (.slice Ao44 y120.length co44 : Value).ownBlock ∧ k_ ≠ gb106)) (by (with_reducible repeat (first | apply Kd.R_alloc | apply Kd.R_drewN | apply Kd.R_drew)); exact Kd.R_mono HO114.out (fun _ hk => ⟨⟨hk.2.1, hk.2.2⟩, hk.1⟩)) hg hat)
                    have n2_ := Aside0.mk (Kd.R_after (ok := (fun k_ => some k_ ≠ (.slice Ao36 y112.length co36 : Value).ownBlock ∧ k_ ≠ gb106)) (by (with_reducible repeat (first | apply Kd.R_alloc | apply Kd.R_drewN | apply Kd.R_drew)); exact Kd.R_mono HO122.out (fun _ hk => ⟨⟨hk.1, hk.2.2⟩, hk.2.1⟩)) hg hat)
                    have n3_ := Aside0.mk (hb)
                    have n4_ := Aside0.mk (ho)
                    clear BK106
                    clear HO114
                    clear HO122
                    clear HB
                    clear HO119
                    have BK106 := n0_
                    have HO114 := n1_
                    have HO122 := n2_
                    have HB := n3_
                    have HO125 := n4_
                    clear n0_ n1_ n2_ n3_ n4_
                    clear ho hb hg hat
                    obtain ⟨Ao45, co45, eo45⟩ := Kd.R_slice HO125.out
                    (first | subst eo45 | (injection eo45 with f1_ f2_ f3_; have f4_ := f1_.symm; have f5_ := f3_.symm; clear f1_ f2_ f3_; subst f4_; subst f5_))
                    refine hK.out _ _ ⟨(blk_cell BK106.out 0).trans rfl, (blk_cell BK106.out 1).trans rfl, (blk_cell BK106.out 2).trans rfl, (blk_cell BK106.out 3).trans rfl⟩ (fun hHeld => ?_)
                    clear hK K
                    refine norm_ (a' := ?_) ?_ ?_
                    rotate_left
                    · show Act.put _ (some 92) _ = _
                      simp only [Act.put, List.setIfInBounds_toArray, List.set_cons_zero, List.set_cons_succ, i64_w, i32_w]
                      rfl
                    refine one_ (i := 8) (N := some 96) #[true, true, true, true, true, true, true, true, true, false, false, false, false, false] rfl rfl (one_of HT_.out (by kernel_rfl)) (by decide) (fun K hK => ?_)
                    refine goes_ Tryd.func15 (by kernel_rfl) rfl #[.slice Ao45 y123.length co45, .string a1, .int .i64 a2, .string a3] (by rfl) rfl rfl (by (try simp only [List.map_toArray, List.map_cons, List.map_nil]); first | done | rfl | (simp only [List.length_drop, List.length_take]; rfl)) ?_
                    with_reducible refine (acl_Decide.calls k2 _ _ y123 a1 a2 a3 t126 t127 _ ?side1 ?side2 A26.out).mono ?_
                    (case side1 => repeat (first | exact (Kd.R_reads' HO125.out).2.2 | (with_reducible refine Kd.C_alloc ?_ _) | (with_reducible refine Kd.C_drewN ?_ _) | (with_reducible refine Kd.C_drew ?_)))
                    (case side2 => exact (Kd.R_reads' HO125.out).2.1)
                    rintro e w46 ⟨rfl, hb⟩
                    refine ⟨_, rfl, ?_⟩
                    have n0_ := Aside0.mk (Kd.R_below (by (with_reducible repeat (first | apply Kd.R_alloc | apply Kd.R_drewN | apply Kd.R_drew)); exact HO114.out) hb)
                    have n1_ := Aside0.mk (Kd.R_below (by (with_reducible repeat (first | apply Kd.R_alloc | apply Kd.R_drewN | apply Kd.R_drew)); exact HO122.out) hb)
                    have n2_ := Aside0.mk (Kd.R_below (by (with_reducible repeat (first | apply Kd.R_alloc | apply Kd.R_drewN | apply Kd.R_drew)); exact HO125.out) hb)
                    have n3_ := Aside0.mk (blk_below (g := gb106) (o := .cells #[.bool a4, .string a1, .int .i64 0, .string (⟨#[42]⟩ : ByteArray)] 25 (0, 0)) (by (with_reducible repeat (first | refine blk_drewN ?_ _ | refine blk_drew ?_ | refine blk_alloc ?_ _)); exact BK106.out) hb)
                    have n4_ := Aside0.mk (below_step (by repeat (first | (with_reducible first | exact HB.out | apply below_alloc | apply pw_below_drewN | apply below_drew1 | refine below_set ?_ GE106.out) | exact HB.out)) hb)
                    clear HO114
                    clear HO122
                    clear HO125
                    clear BK106
                    clear HB
                    have HO114 := n0_
                    have HO122 := n1_
                    have HO125 := n2_
                    have BK106 := n3_
                    have HB := n4_
                    clear n0_ n1_ n2_ n3_ n4_
                    (try clear hb)
                    (try clear hb2)
                    (try clear hk)
                    (try clear hi)
                    refine hK.out _ _ ⟨(blk_cell BK106.out 0).trans rfl, (blk_cell BK106.out 1).trans rfl, (blk_cell BK106.out 2).trans rfl, (blk_cell BK106.out 3).trans rfl⟩ (fun hHeld => ?_)
                    clear hK K
                    refine norm_ (a' := ?_) ?_ ?_
                    rotate_left
                    · show Act.put _ (some 96) _ = _
                      simp only [Act.put, List.setIfInBounds_toArray, List.set_cons_zero, List.set_cons_succ, i64_w, i32_w]
                      rfl
                    refine pure_ (i := 9) (N := some 87) (v := ?_) (a' := ?_) #[true, true, true, true, true, true, true, true, true, true, false, false, false, false] rfl rfl (any_of HT_.out (by kernel_rfl)) (fun _ _ _ h => h) (Or.inl ⟨by rfl, ?_⟩) ?_ ?_
                    rotate_left
                    · intro w'
                      go_simp
                      with_reducible rfl
                    rotate_left
                    · simp only [Act.put, List.setIfInBounds_toArray, List.set_cons_zero, List.set_cons_succ, i64_w, i32_w]
                      rfl
                    refine pure_ (i := 10) (N := some 97) (v := ?_) (a' := ?_) #[true, true, true, true, true, true, true, true, true, true, true, false, false, false] rfl rfl (any_of HT_.out (by kernel_rfl)) (fun _ _ _ h => h) (Or.inl ⟨by rfl, ?_⟩) ?_ ?_
                    rotate_left
                    · intro w'
                      go_simp
                      with_reducible rfl
                    rotate_left
                    · simp only [Act.put, List.setIfInBounds_toArray, List.set_cons_zero, List.set_cons_succ, i64_w, i32_w]
                      rfl
                    refine pure_ (i := 11) (N := some 98) (v := ?_) (a' := ?_) #[true, true, true, true, true, true, true, true, true, true, true, true, false, false] rfl rfl (any_of HT_.out (by kernel_rfl)) (fun _ _ _ h => h) (Or.inl ⟨by rfl, ?_⟩) ?_ ?_
                    rotate_left
                    · intro w'
                      go_simp
                      with_reducible rfl
                    rotate_left
                    · simp only [Act.put, List.setIfInBounds_toArray, List.set_cons_zero, List.set_cons_succ, i64_w, i32_w]
                      rfl
                    refine pure_ (i := 12) (N := some 17) (v := ?_) (a' := ?_) #[true, true, true, true, true, true, true, true, true, true, true, true, true, false] rfl rfl (any_of HT_.out (by kernel_rfl)) (fun _ _ _ h => h) (Or.inl ⟨by rfl, ?_⟩) ?_ ?_
                    rotate_left
                    · intro w'
                      go_simp
                      with_reducible rfl
                    rotate_left
                    · simp only [Act.put, List.setIfInBounds_toArray, List.set_cons_zero, List.set_cons_succ, i64_w, i32_w]
                      rfl
                    refine pure_ (i := 13) (N := some 18) (v := ?_) (a' := ?_) #[true, true, true, true, true, true, true, true, true, true, true, true, true, true] rfl rfl (any_of HT_.out (by kernel_rfl)) (fun _ _ _ h => h) (Or.inl ⟨by rfl, ?_⟩) ?_ ?_
                    rotate_left
                    · intro w'
                      go_simp
                      with_reducible rfl
                    rotate_left
                    · simp only [Act.put, List.setIfInBounds_toArray, List.set_cons_zero, List.set_cons_succ, i64_w, i32_w]
                      rfl
                    refine done_ (done_of HT_.out (by kernel_rfl)) ?_
                    go_upto_region 13 with (first | ((with_reducible refine gate_callee (f := 15) rfl ?_); refine goesL_ (some 103) rfl rfl Tryd.func15 (by kernel_rfl) rfl #[.slice none 0 0, .string a1, .int .i64 a2, .string a3] rfl (by (try simp only [List.map_toArray, List.map_cons, List.map_nil]); first | done | rfl | (simp only [List.length_drop, List.length_take]; rfl)) ?_; (refine (acl_Decide.calls k2 _ _ ([] : List (S25)) a1 a2 a3 t128 t129 _ ?side1 ?side2 A27.out).mono ?_); (case side1 => exact Kd.C_nil _ _); (case side2 => exact Nat.le_refl _); rintro e w47 ⟨rfl, hb⟩; refine ⟨_, rfl, ?_⟩; have n0_ := Aside0.mk (Kd.R_below (by (with_reducible repeat (first | apply Kd.R_alloc | apply Kd.R_drewN | apply Kd.R_drew)); exact HO114.out) hb); have n1_ := Aside0.mk (Kd.R_below (by (with_reducible repeat (first | apply Kd.R_alloc | apply Kd.R_drewN | apply Kd.R_drew)); exact HO122.out) hb); have n2_ := Aside0.mk (Kd.R_below (by (with_reducible repeat (first | apply Kd.R_alloc | apply Kd.R_drewN | apply Kd.R_drew)); exact HO125.out) hb); have n3_ := Aside0.mk (blk_below (g := gb106) (o := .cells #[.bool a4, .string a1, .int .i64 0, .string (⟨#[42]⟩ : ByteArray)] 25 (0, 0)) (by (with_reducible repeat (first | refine blk_drewN ?_ _ | refine blk_drew ?_ | refine blk_alloc ?_ _)); exact BK106.out) hb); have n4_ := Aside0.mk (below_step (by repeat (first | (with_reducible first | exact HB.out | apply below_alloc | apply pw_below_drewN | apply below_drew1 | refine below_set ?_ GE106.out) | exact HB.out)) hb); clear HO114; clear HO122; clear HO125; clear BK106; clear HB; have HO114 := n0_; have HO122 := n1_; have HO125 := n2_; have BK106 := n3_; have HB := n4_; clear n0_ n1_ n2_ n3_ n4_; (try clear hb); (try clear hb2); (try clear hk); (try clear hi)))
                    (try simp only [Act.put, List.setIfInBounds_toArray, List.set_cons_zero, List.set_cons_succ])
                    go_cut [119] (fun v119 wc => ∃ (kq : Nat) (x119_27 : Bool), v119 = .bool x119_27 ∧ Aside0 (escutcheonlaw18_AclFirst.j2 kq l0 a1 a2 a3 a4 t107 t108 t126 t127 x119_27 = some r) ∧ Aside0 (kq ≤ k2) ∧ Aside0 (wc.heap[gb106]? = some (.cells #[.bool a4, .string a1, .int .i64 0, .string (⟨#[42]⟩ : ByteArray)] 25 (0, 0))) ∧ Aside0 (Below w.heap.size w wc))
                    case first =>
                      have H := HC28.out
                      clear HC28
                      by_cases c48 : (t115 != a4) = true
                      · rw [if_pos c48] at H
                        have c48b0 : (t115 != a4) = true := c48
                        (try (have c48b1 : decide (t115 = a4) = false := by simpa using c48))
                        (try (have c48b2 : (t115 == a4) = false := by simpa using c48))
                        (try (have c48b3 : ¬ (t115 = a4) := by simpa using c48))
                        clear c48
                        (first | rw [c48b0] | (simp only [i64_w, i32_w]; rw [c48b0]) | skip)
                        have H' := Aside0.mk H
                        clear H
                        go_wp2
                        go_meet
                        case rel => exact ⟨_, (true), (by first | rfl | (simp; done) | (simp [*]; done)), H', ⟨by have := HJ5.out; have := HK2.out; first | omega | exact Nat.le_refl _⟩, ⟨by (with_reducible repeat (first | refine blk_drewN ?_ _ | refine blk_drew ?_ | refine blk_alloc ?_ _)); exact BK106.out⟩, ⟨by repeat (first | (with_reducible first | exact HB.out | apply below_alloc | apply pw_below_drewN | apply below_drew1 | refine below_set ?_ GE106.out) | exact HB.out)⟩⟩
                      · rw [if_neg c48] at H
                        have c48b0 : (t115 != a4) = false := by simpa using c48
                        (try (have c48b1 : decide (t115 = a4) = true := by simpa using c48))
                        (try (have c48b2 : (t115 == a4) = true := by simpa using c48))
                        clear c48
                        (first | rw [c48b0] | (simp only [i64_w, i32_w]; rw [c48b0]) | skip)
                        by_cases c49 : t116 = 0
                        · rw [if_pos c49] at H
                          have c49b0 : (t116 == 0) = true := beq_iff_eq.mpr c49
                          have c49b1 : (t116 != 0) = false := bne_eq_false_iff_eq.mpr c49
                          clear c49
                          by_cases c50 : t128 = true
                          · subst c50
                            have H1 : (escutcheonlaw18_AclFirst.j2 k2 l0 a1 a2 a3 a4 t107 t108 t126 t127 true) = some r := by rw [if_pos rfl] at H; exact H
                            clear H
                            have H := H1
                            clear H1
                            have H' := Aside0.mk H
                            clear H
                            go_wp2
                            go_meet
                            case rel => exact ⟨_, (true), (by first | rfl | (simp; done) | (simp [*]; done)), H', ⟨by have := HJ5.out; have := HK2.out; first | omega | exact Nat.le_refl _⟩, ⟨by (with_reducible repeat (first | refine blk_drewN ?_ _ | refine blk_drew ?_ | refine blk_alloc ?_ _)); exact BK106.out⟩, ⟨by repeat (first | (with_reducible first | exact HB.out | apply below_alloc | apply pw_below_drewN | apply below_drew1 | refine below_set ?_ GE106.out) | exact HB.out)⟩⟩
                          · replace c50 := Bool.eq_false_iff.mpr c50
                            subst c50
                            have H1 : (escutcheonlaw18_AclFirst.j2 k2 l0 a1 a2 a3 a4 t107 t108 t126 t127 (t129 != (-1))) = some r := by rw [if_neg (show ¬ (false = true) by decide)] at H; exact H
                            clear H
                            have H := H1
                            clear H1
                            have H' := Aside0.mk H
                            clear H
                            go_wp2
                            go_meet
                            case rel => exact ⟨_, ((t129 != (-1))), (by first | rfl | (simp; done) | (simp [*]; done)), H', ⟨by have := HJ5.out; have := HK2.out; first | omega | exact Nat.le_refl _⟩, ⟨by (with_reducible repeat (first | refine blk_drewN ?_ _ | refine blk_drew ?_ | refine blk_alloc ?_ _)); exact BK106.out⟩, ⟨by repeat (first | (with_reducible first | exact HB.out | apply below_alloc | apply pw_below_drewN | apply below_drew1 | refine below_set ?_ GE106.out) | exact HB.out)⟩⟩
                        · rw [if_neg c49] at H
                          have c49b0 : (t116 == 0) = false := beq_eq_false_iff_ne.mpr c49
                          have c49b1 : (t116 != 0) = true := bne_iff_ne.mpr c49
                          have H' := Aside0.mk H
                          clear H
                          go_wp2
                          go_meet
                          case rel => exact ⟨_, (true), (by first | rfl | (simp; done) | (simp [*]; done)), H', ⟨by have := HJ5.out; have := HK2.out; first | omega | exact Nat.le_refl _⟩, ⟨by (with_reducible repeat (first | refine blk_drewN ?_ _ | refine blk_drew ?_ | refine blk_alloc ?_ _)); exact BK106.out⟩, ⟨by repeat (first | (with_reducible first | exact HB.out | apply below_alloc | apply pw_below_drewN | apply below_drew1 | refine below_set ?_ GE106.out) | exact HB.out)⟩⟩
                    case rest =>
                      clear HC28
                      try clear c1
                      try clear p1
                      try clear q1
                      try clear hx1
                      try clear c2
                      try clear p2
                      try clear c4
                      try clear c5
                      try clear p6
                      try clear c7
                      try clear c7b0
                      try clear c7b1
                      try clear c8
                      try clear c8b0
                      try clear c8b1
                      try clear c9
                      try clear c9b0
                      try clear c9b1
                      try clear c10
                      try clear c10b0
                      try clear c10b1
                      try clear p10
                      try clear q10
                      try clear hx10
                      try clear c11
                      try clear c11b0
                      try clear c12
                      try clear c12b0
                      try clear c15
                      try clear c18
                      try clear c18b0
                      try clear c19
                      try clear c19b0
                      try clear c20
                      try clear c20b0
                      try clear c20b1
                      try clear c22
                      try clear c24
                      try clear c25
                      try clear c48
                      try clear c48b0
                      try clear c48b1
                      try clear c48b2
                      try clear c49
                      try clear c49b0
                      try clear c49b1
                      try clear c50
                      try clear hcz30_0
                      try clear hcz30_1
                      try clear hcz30_2
                      try clear hcz30_3
                      try clear hcz32_0
                      try clear hcz32_1
                      try clear hcz32_2
                      try clear hcz32_3
                      try clear hfz30_0
                      try clear hfz30_1
                      try clear hfz30_2
                      try clear hfz30_3
                      try clear hfz32_0
                      try clear hfz32_1
                      try clear hfz32_2
                      try clear hfz32_3
                      try clear hx105_0
                      try clear hx105_1
                      try clear hx105_2
                      try clear hx105_3
                      try clear p105
                      try clear p2
                      try clear q105
                      obtain ⟨kq, x119_27, rfl, HA, HJ27, BK106, HB⟩ := hcut
                      cases kq with
                      | zero => exact absurd HA.out (by simp [escutcheonlaw18_AclFirst.j2])
                      | succ kj27 =>
                        have H := HA.out
                        clear HA
                        simp only [escutcheonlaw18_AclFirst.j2] at H
                        by_cases c51 : x119_27 = true
                        · subst c51
                          have H1 : (some false) = some r := by rw [if_pos rfl] at H; exact H
                          clear H
                          have H := H1
                          clear H1
                          obtain rfl := Option.some.inj H
                          go_wp2
                          go_ret
                          exact ⟨by first | rfl | (simp [errW_none, errW_some] <;> rfl) | (simp [*, errW_none, errW_some] <;> rfl), by repeat (first | (with_reducible first | exact HB.out | apply below_alloc | apply pw_below_drewN | apply below_drew1 | refine below_set ?_ GE106.out) | exact HB.out)⟩
                        · replace c51 := Bool.eq_false_iff.mpr c51
                          subst c51
                          have H1 : (if t108 < 0 then (if t107 = true then (some false) else (if (t126 == a4) = true then (some (t127 == (l0.length : Int))) else (some false))) else (if (t126 == t107) = true then (if t127 = t108 then (if t108 < (l0.length : Int) then (if 0 ≤ t108 then ((acl_Fits.f kj27 ((rd_T25 l0 t108).f0) ((rd_T25 l0 t108).f1) ((rd_T25 l0 t108).f2) ((rd_T25 l0 t108).f3) a1 a2 a3).bind fun t131 => (some t131)) else (none)) else (some false)) else (some false)) else (some false))) = some r := by rw [if_neg (show ¬ (false = true) by decide)] at H; exact H
                          clear H
                          have H := H1
                          clear H1
                          by_cases c52 : t108 < 0
                          · rw [if_pos c52] at H
                            have c52b0 : decide (t108 < 0) = true := decide_eq_true c52
                            clear c52
                            by_cases c53 : t107 = true
                            · subst c53
                              have H1 : (some false) = some r := by rw [if_pos rfl] at H; exact H
                              clear H
                              have H := H1
                              clear H1
                              obtain rfl := Option.some.inj H
                              go_wp2
                              go_ret
                              exact ⟨by first | rfl | (simp [errW_none, errW_some] <;> rfl) | (simp [*, errW_none, errW_some] <;> rfl), by repeat (first | (with_reducible first | exact HB.out | apply below_alloc | apply pw_below_drewN | apply below_drew1 | refine below_set ?_ GE106.out) | exact HB.out)⟩
                            · replace c53 := Bool.eq_false_iff.mpr c53
                              subst c53
                              have H1 : (if (t126 == a4) = true then (some (t127 == (l0.length : Int))) else (some false)) = some r := by rw [if_neg (show ¬ (false = true) by decide)] at H; exact H
                              clear H
                              have H := H1
                              clear H1
                              by_cases c54 : (t126 == a4) = true
                              · rw [if_pos c54] at H
                                have c54b0 : (t126 == a4) = true := c54
                                (try (have c54b1 : decide (t126 = a4) = true := by simpa using c54))
                                (try (have c54b2 : (t126 == a4) = true := by simpa using c54))
                                clear c54
                                obtain rfl := Option.some.inj H
                                go_wp2
                                go_ret
                                exact ⟨by first | rfl | (simp [errW_none, errW_some] <;> rfl) | (simp [*, errW_none, errW_some] <;> rfl), by repeat (first | (with_reducible first | exact HB.out | apply below_alloc | apply pw_below_drewN | apply below_drew1 | refine below_set ?_ GE106.out) | exact HB.out)⟩
                              · rw [if_neg c54] at H
                                have c54b0 : (t126 == a4) = false := by simpa using c54
                                (try (have c54b1 : decide (t126 = a4) = false := by simpa using c54))
                                (try (have c54b2 : (t126 == a4) = false := by simpa using c54))
                                (try (have c54b3 : ¬ (t126 = a4) := by simpa using c54))
                                clear c54
                                obtain rfl := Option.some.inj H
                                go_wp2
                                go_ret
                                exact ⟨by first | rfl | (simp [errW_none, errW_some] <;> rfl) | (simp [*, errW_none, errW_some] <;> rfl), by repeat (first | (with_reducible first | exact HB.out | apply below_alloc | apply pw_below_drewN | apply below_drew1 | refine below_set ?_ GE106.out) | exact HB.out)⟩
                          · rw [if_neg c52] at H
                            have c52b0 : decide (t108 < 0) = false := decide_eq_false c52
                            clear c52
                            by_cases c55 : (t126 == t107) = true
                            · rw [if_pos c55] at H
                              have c55b0 : (t126 == t107) = true := c55
                              (try (have c55b1 : decide (t126 = t107) = true := by simpa using c55))
                              (try (have c55b2 : (t126 == t107) = true := by simpa using c55))
                              clear c55
                              by_cases c56 : t127 = t108
                              · rw [if_pos c56] at H
                                have c56b0 : (t127 == t108) = true := beq_iff_eq.mpr c56
                                have c56b1 : (t127 != t108) = false := bne_eq_false_iff_eq.mpr c56
                                clear c56
                                by_cases c57 : t108 < (l0.length : Int)
                                · rw [if_pos c57] at H
                                  have c57b0 : decide (t108 < (l0.length : Int)) = true := decide_eq_true c57
                                  clear c57
                                  by_cases c58 : 0 ≤ t108
                                  · rw [if_pos c58] at H
                                    have c58b0 : decide (0 ≤ t108) = true := decide_eq_true c58
                                    clear c58
                                    replace H := Option.bind_eq_some_iff.mp H
                                    obtain ⟨t131, A590, H⟩ := H
                                    replace H : (some t131) = some r := H
                                    have A59 := Aside0.mk A590
                                    clear A590
                                    obtain rfl := Option.some.inj H
                                    have p130 : 0 ≤ (t108 : Int) := of_decide_eq_true (by first | (with_reducible assumption) | assumption)
                                    have q130 : t108 < (l0.length : Int) := of_decide_eq_true (by first | (with_reducible assumption) | assumption)
                                    obtain ⟨ad130, e130, hx130_0, hx130_1, hx130_2, hx130_3⟩ := at_T25 HR0.out t108 p130 q130
                                    cases e130
                                    replace hx130_0 := (HB.out.cell (World.block_lt_of_cell? w _ hx130_0)).trans hx130_0
                                    replace hx130_1 := (HB.out.cell (World.block_lt_of_cell? w _ hx130_1)).trans hx130_1
                                    replace hx130_2 := (HB.out.cell (World.block_lt_of_cell? w _ hx130_2)).trans hx130_2
                                    replace hx130_3 := (HB.out.cell (World.block_lt_of_cell? w _ hx130_3)).trans hx130_3
                                    replace p130 := eq_true p130
                                    replace q130 := eq_true q130
                                    go_wp2_with (first | (go_at_call 12; (with_reducible refine (acl_Fits.calls kj27 ((rd_T25 l0 t108).f0) ((rd_T25 l0 t108).f1) ((rd_T25 l0 t108).f2) ((rd_T25 l0 t108).f3) a1 a2 a3 t131 _ A59.out).mono ?_); rintro e w60 ⟨rfl, hb⟩; have n0_ := Aside0.mk (blk_below (g := gb106) (o := .cells #[.bool a4, .string a1, .int .i64 0, .string (⟨#[42]⟩ : ByteArray)] 25 (0, 0)) (by (with_reducible repeat (first | refine blk_drewN ?_ _ | refine blk_drew ?_ | refine blk_alloc ?_ _)); exact BK106.out) hb); have n1_ := Aside0.mk (below_step (by repeat (first | (with_reducible first | exact HB.out | apply below_alloc | apply pw_below_drewN | apply below_drew1 | refine below_set ?_ GE106.out) | exact HB.out)) hb); clear BK106; clear HB; have BK106 := n0_; have HB := n1_; clear n0_ n1_; (try clear hb); (try clear hb2); (try clear hk); (try clear hi)))
                                    go_ret
                                    exact ⟨by first | rfl | (simp [errW_none, errW_some] <;> rfl) | (simp [*, errW_none, errW_some] <;> rfl), by repeat (first | (with_reducible first | exact HB.out | apply below_alloc | apply pw_below_drewN | apply below_drew1 | refine below_set ?_ GE106.out) | exact HB.out)⟩
                                  · rw [if_neg c58] at H
                                    exact absurd H (by simp)
                                · rw [if_neg c57] at H
                                  have c57b0 : decide (t108 < (l0.length : Int)) = false := decide_eq_false c57
                                  clear c57
                                  obtain rfl := Option.some.inj H
                                  go_wp2
                                  go_ret
                                  exact ⟨by first | rfl | (simp [errW_none, errW_some] <;> rfl) | (simp [*, errW_none, errW_some] <;> rfl), by repeat (first | (with_reducible first | exact HB.out | apply below_alloc | apply pw_below_drewN | apply below_drew1 | refine below_set ?_ GE106.out) | exact HB.out)⟩
                              · rw [if_neg c56] at H
                                have c56b0 : (t127 == t108) = false := beq_eq_false_iff_ne.mpr c56
                                have c56b1 : (t127 != t108) = true := bne_iff_ne.mpr c56
                                obtain rfl := Option.some.inj H
                                go_wp2
                                go_ret
                                exact ⟨by first | rfl | (simp [errW_none, errW_some] <;> rfl) | (simp [*, errW_none, errW_some] <;> rfl), by repeat (first | (with_reducible first | exact HB.out | apply below_alloc | apply pw_below_drewN | apply below_drew1 | refine below_set ?_ GE106.out) | exact HB.out)⟩
                            · rw [if_neg c55] at H
                              have c55b0 : (t126 == t107) = false := by simpa using c55
                              (try (have c55b1 : decide (t126 = t107) = false := by simpa using c55))
                              (try (have c55b2 : (t126 == t107) = false := by simpa using c55))
                              (try (have c55b3 : ¬ (t126 = t107) := by simpa using c55))
                              clear c55
                              obtain rfl := Option.some.inj H
                              go_wp2
                              go_ret
                              exact ⟨by first | rfl | (simp [errW_none, errW_some] <;> rfl) | (simp [*, errW_none, errW_some] <;> rfl), by repeat (first | (with_reducible first | exact HB.out | apply below_alloc | apply pw_below_drewN | apply below_drew1 | refine below_set ?_ GE106.out) | exact HB.out)⟩
                  · rw [if_neg c25] at H
                    exact absurd H (by simp)
                · rw [if_neg c24] at H
                  exact absurd H (by simp)
              · rw [if_neg c22] at H
                exact absurd H (by simp)

end Go.Proofs.YthngjjeilcfhgaaDoor.Pf
