-- Laid by wip/tools/ext.py, a program of this repo, over the kit's printer: Go functions as plain Lean functions, and their contracts.
import Derived.Test.YthngjjeilcfhgaaGreatDoorPl0
import Derived.Test.YthngjjeilcfhgaaGreatDoorPl2
import Derived.Test.YthngjjeilcfhgaaGreatDoorPl3
namespace Go.Proofs.YthngjjeilcfhgaaGreatDoor.Pl
open Go.Proofs.YthngjjeilcfhgaaGreatDoor.Pa Go.Proofs.YthngjjeilcfhgaaGreatDoor.Pb
open Go.RowKit Go.Proofs.YthngjjeilcfhgaaGreatDoorW.PrintWords Go.Proofs.YthngjjeilcfhgaaGreatDoorW.PrintLast Go.Proofs.YthngjjeilcfhgaaGreatDoorW.PrintMore
attribute [local go_sem] max2_int min2_int max_two min_two max_three min_three max_four min_four   -- for this text's walks alone
set_option linter.unusedVariables false
set_option linter.unusedSimpArgs false

/-! ### escutcheonref14_Rules: function 7 -/
mutual
def escutcheonref14_Rules.l0 : Nat → ByteArray → List (S45) → Int → Int → Int → Option ((List (S45)) × Int × Bool)
  | 0, _, _, _, _, _ => none
  | k + 1, x0, x5, x6, x7, x8 => if x8 ≤ (x0.size : Int) then (if x8 < (x0.size : Int) then (if 0 ≤ x8 then (escutcheonref14_Rules.j1 k x0 x5 x6 x7 x8 ((bt x0 x8) != 10)) else (none)) else (escutcheonref14_Rules.j1 k x0 x5 x6 x7 x8 false)) else (some (x5, 0, true))
def escutcheonref14_Rules.j1 : Nat → ByteArray → List (S45) → Int → Int → Int → Bool → Option ((List (S45)) × Int × Bool)
  | 0, _, _, _, _, _, _ => none
  | k + 1, x0, x5, x6, x7, x8, x31 => if x31 = true then (escutcheonref14_Rules.l0 k x0 x5 x6 x7 (wrap64 (x8 + 1))) else (if 0 ≤ x7 then (if x7 ≤ x8 then (if x8 ≤ (x0.size : Int) then (if (x0.extract (x7 : Int).toNat (x8 : Int).toNat).toList = ([] : List UInt8) then (escutcheonref14_Rules.j2 k x0 x5 x6 (wrap64 (x8 + 1)) x8 (x0.extract (x7 : Int).toNat (x8 : Int).toNat) false) else (if 0 < ((x0.extract (x7 : Int).toNat (x8 : Int).toNat).size : Int) then (escutcheonref14_Rules.j2 k x0 x5 x6 (wrap64 (x8 + 1)) x8 (x0.extract (x7 : Int).toNat (x8 : Int).toNat) ((bt (x0.extract (x7 : Int).toNat (x8 : Int).toNat) 0) != 35)) else (none))) else (none)) else (none)) else (none))
def escutcheonref14_Rules.j2 : Nat → ByteArray → List (S45) → Int → Int → Int → ByteArray → Bool → Option ((List (S45)) × Int × Bool)
  | 0, _, _, _, _, _, _, _ => none
  | k + 1, x0, x5, x6, x7, x8, x9, x44 => if x44 = true then ((escutcheonref14_words.f k x9).bind fun t121 => (if (t121.length : Int) = 4 then (if 0 < (t121.length : Int) then (if 1 < (t121.length : Int) then (if 3 < (t121.length : Int) then (escutcheonref14_Rules.l1 k x0 x5 x6 x7 x8 x9 t121 0 ((rdOf ByteArray.empty t121 0).toList == ([97, 108, 108, 111, 119] : List UInt8)) (rdOf ByteArray.empty t121 1) (-1) (rdOf ByteArray.empty t121 3)) else (none)) else (none)) else (none)) else (some (([] : List (S45)), x6, false)))) else (escutcheonref14_Rules.l0 k x0 x5 (wrap64 (x6 + 1)) x7 (wrap64 (x8 + 1)))
def escutcheonref14_Rules.l1 : Nat → ByteArray → List (S45) → Int → Int → Int → ByteArray → List ByteArray → Int → Bool → ByteArray → Int → ByteArray → Option ((List (S45)) × Int × Bool)
  | 0, _, _, _, _, _, _, _, _, _, _, _, _ => none
  | k + 1, x0, x5, x6, x7, x8, x9, x10, x12, x128000, x128001, x128002, x128003 => if x12 < 4 then (if 2 < (x10.length : Int) then ((some (([(⟨#[97, 110, 121]⟩ : ByteArray), (⟨#[114, 101, 97, 100]⟩ : ByteArray), (⟨#[119, 114, 105, 116, 101]⟩ : ByteArray), (⟨#[97, 100, 109, 105, 110]⟩ : ByteArray)] : List ByteArray) : List ByteArray)).bind fun y129 => (if 0 ≤ x12 then (if x12 < (y129.length : Int) then (if (rdOf ByteArray.empty x10 2).toList = (rdOf ByteArray.empty y129 x12).toList then (escutcheonref14_Rules.l1 k x0 x5 x6 x7 x8 x9 x10 (wrap64 (x12 + 1)) x128000 x128001 x12 x128003) else (escutcheonref14_Rules.l1 k x0 x5 x6 x7 x8 x9 x10 (wrap64 (x12 + 1)) x128000 x128001 x128002 x128003)) else (none)) else (none))) else (none)) else ((escutcheonref14_Rule.f k x128000 x128001 x128002 x128003).bind fun t133 => (if t133 = true then ((escutcheonref14_Line.f x128000 x128001 x128002 x128003).bind fun t134 => (if t134.toList = x9.toList then (if (x5.length : Int) ≥ 40 then (some (([] : List (S45)), x6, false)) else (if x5.length < 2932031007402 then (escutcheonref14_Rules.l0 k x0 (x5 ++ [(⟨x128000, x128001, x128002, x128003⟩ : S45)]) (wrap64 (x6 + 1)) x7 (wrap64 (x8 + 1))) else (none))) else (some (([] : List (S45)), x6, false)))) else (some (([] : List (S45)), x6, false))))
end
def escutcheonref14_Rules.f (k : Nat) (a0 : ByteArray) : Option ((List (S45)) × Int × Bool) := if (a0.size : Int) > 5000 then (some (([] : List (S45)), 0, false)) else (escutcheonref14_Rules.l0 k a0 ([] : List (S45)) 1 0 0)
theorem escutcheonref14_Rules.mono_l : ∀ k, (∀ y0 y1 y2 y3 y4, LeO (escutcheonref14_Rules.l0 k y0 y1 y2 y3 y4) (escutcheonref14_Rules.l0 (k + 1) y0 y1 y2 y3 y4)) ∧ (∀ y0 y1 y2 y3 y4 y5, LeO (escutcheonref14_Rules.j1 k y0 y1 y2 y3 y4 y5) (escutcheonref14_Rules.j1 (k + 1) y0 y1 y2 y3 y4 y5)) ∧ (∀ y0 y1 y2 y3 y4 y5 y6, LeO (escutcheonref14_Rules.j2 k y0 y1 y2 y3 y4 y5 y6) (escutcheonref14_Rules.j2 (k + 1) y0 y1 y2 y3 y4 y5 y6)) ∧ (∀ y0 y1 y2 y3 y4 y5 y6 y7 y8 y9 y10 y11, LeO (escutcheonref14_Rules.l1 k y0 y1 y2 y3 y4 y5 y6 y7 y8 y9 y10 y11) (escutcheonref14_Rules.l1 (k + 1) y0 y1 y2 y3 y4 y5 y6 y7 y8 y9 y10 y11))
  | 0 => ⟨fun _ _ _ _ _ r h => by simp [escutcheonref14_Rules.l0] at h, fun _ _ _ _ _ _ r h => by simp [escutcheonref14_Rules.j1] at h, fun _ _ _ _ _ _ _ r h => by simp [escutcheonref14_Rules.j2] at h, fun _ _ _ _ _ _ _ _ _ _ _ _ r h => by simp [escutcheonref14_Rules.l1] at h⟩
  | k + 1 => by
    obtain ⟨ih0, ih1, ih2, ih3⟩ := escutcheonref14_Rules.mono_l k
    refine ⟨?_, ?_, ?_, ?_⟩
    · intro y0 y1 y2 y3 y4
      unfold escutcheonref14_Rules.l0
      repeat' first
      | (with_reducible exact ih0 _ _ _ _ _)
      | (with_reducible exact ih1 _ _ _ _ _ _)
      | (with_reducible exact ih2 _ _ _ _ _ _ _)
      | (with_reducible exact ih3 _ _ _ _ _ _ _ _ _ _ _ _)
      | (with_reducible exact escutcheonref14_Rule.mono _ _ _ _ _)
      | (with_reducible exact escutcheonref14_words.mono _ _)
      | (with_reducible exact LeO.refl _)
      | (with_reducible exact LeO.none _)
      | (with_reducible refine LeO.ite ?_ ?_)
      | (with_reducible refine LeO.bind ?_ (fun _ => ?_))
      | exact ih0 _ _ _ _ _
      | exact ih1 _ _ _ _ _ _
      | exact ih2 _ _ _ _ _ _ _
      | exact ih3 _ _ _ _ _ _ _ _ _ _ _ _
      | exact escutcheonref14_Rule.mono _ _ _ _ _
      | exact escutcheonref14_words.mono _ _
      | exact LeO.none _
      | refine LeO.ite ?_ ?_
      | refine LeO.bind ?_ (fun _ => ?_)
    · intro y0 y1 y2 y3 y4 y5
      unfold escutcheonref14_Rules.j1
      repeat' first
      | (with_reducible exact ih0 _ _ _ _ _)
      | (with_reducible exact ih1 _ _ _ _ _ _)
      | (with_reducible exact ih2 _ _ _ _ _ _ _)
      | (with_reducible exact ih3 _ _ _ _ _ _ _ _ _ _ _ _)
      | (with_reducible exact escutcheonref14_Rule.mono _ _ _ _ _)
      | (with_reducible exact escutcheonref14_words.mono _ _)
      | (with_reducible exact LeO.refl _)
      | (with_reducible exact LeO.none _)
      | (with_reducible refine LeO.ite ?_ ?_)
      | (with_reducible refine LeO.bind ?_ (fun _ => ?_))
      | exact ih0 _ _ _ _ _
      | exact ih1 _ _ _ _ _ _
      | exact ih2 _ _ _ _ _ _ _
      | exact ih3 _ _ _ _ _ _ _ _ _ _ _ _
      | exact escutcheonref14_Rule.mono _ _ _ _ _
      | exact escutcheonref14_words.mono _ _
      | exact LeO.none _
      | refine LeO.ite ?_ ?_
      | refine LeO.bind ?_ (fun _ => ?_)
    · intro y0 y1 y2 y3 y4 y5 y6
      unfold escutcheonref14_Rules.j2
      repeat' first
      | (with_reducible exact ih0 _ _ _ _ _)
      | (with_reducible exact ih1 _ _ _ _ _ _)
      | (with_reducible exact ih2 _ _ _ _ _ _ _)
      | (with_reducible exact ih3 _ _ _ _ _ _ _ _ _ _ _ _)
      | (with_reducible exact escutcheonref14_Rule.mono _ _ _ _ _)
      | (with_reducible exact escutcheonref14_words.mono _ _)
      | (with_reducible exact LeO.refl _)
      | (with_reducible exact LeO.none _)
      | (with_reducible refine LeO.ite ?_ ?_)
      | (with_reducible refine LeO.bind ?_ (fun _ => ?_))
      | exact ih0 _ _ _ _ _
      | exact ih1 _ _ _ _ _ _
      | exact ih2 _ _ _ _ _ _ _
      | exact ih3 _ _ _ _ _ _ _ _ _ _ _ _
      | exact escutcheonref14_Rule.mono _ _ _ _ _
      | exact escutcheonref14_words.mono _ _
      | exact LeO.none _
      | refine LeO.ite ?_ ?_
      | refine LeO.bind ?_ (fun _ => ?_)
    · intro y0 y1 y2 y3 y4 y5 y6 y7 y8 y9 y10 y11
      unfold escutcheonref14_Rules.l1
      repeat' first
      | (with_reducible exact ih0 _ _ _ _ _)
      | (with_reducible exact ih1 _ _ _ _ _ _)
      | (with_reducible exact ih2 _ _ _ _ _ _ _)
      | (with_reducible exact ih3 _ _ _ _ _ _ _ _ _ _ _ _)
      | (with_reducible exact escutcheonref14_Rule.mono _ _ _ _ _)
      | (with_reducible exact escutcheonref14_words.mono _ _)
      | (with_reducible exact LeO.refl _)
      | (with_reducible exact LeO.none _)
      | (with_reducible refine LeO.ite ?_ ?_)
      | (with_reducible refine LeO.bind ?_ (fun _ => ?_))
      | exact ih0 _ _ _ _ _
      | exact ih1 _ _ _ _ _ _
      | exact ih2 _ _ _ _ _ _ _
      | exact ih3 _ _ _ _ _ _ _ _ _ _ _ _
      | exact escutcheonref14_Rule.mono _ _ _ _ _
      | exact escutcheonref14_words.mono _ _
      | exact LeO.none _
      | refine LeO.ite ?_ ?_
      | refine LeO.bind ?_ (fun _ => ?_)
theorem escutcheonref14_Rules.mono : ∀ a0 k, LeO (escutcheonref14_Rules.f k a0) (escutcheonref14_Rules.f (k + 1) a0) := by
  intro a0 k
  obtain ⟨ih0, ih1, ih2, ih3⟩ := escutcheonref14_Rules.mono_l k
  unfold escutcheonref14_Rules.f
  repeat' first
      | (with_reducible exact ih0 _ _ _ _ _)
      | (with_reducible exact ih1 _ _ _ _ _ _)
      | (with_reducible exact ih2 _ _ _ _ _ _ _)
      | (with_reducible exact ih3 _ _ _ _ _ _ _ _ _ _ _ _)
      | (with_reducible exact escutcheonref14_Rule.mono _ _ _ _ _)
      | (with_reducible exact escutcheonref14_words.mono _ _)
      | (with_reducible exact LeO.refl _)
      | (with_reducible exact LeO.none _)
      | (with_reducible refine LeO.ite ?_ ?_)
      | (with_reducible refine LeO.bind ?_ (fun _ => ?_))
      | exact ih0 _ _ _ _ _
      | exact ih1 _ _ _ _ _ _
      | exact ih2 _ _ _ _ _ _ _
      | exact ih3 _ _ _ _ _ _ _ _ _ _ _ _
      | exact escutcheonref14_Rule.mono _ _ _ _ _
      | exact escutcheonref14_words.mono _ _
      | exact LeO.none _
      | refine LeO.ite ?_ ?_
      | refine LeO.bind ?_ (fun _ => ?_)
def escutcheonref14_Rules.T15 : Bool × List (List Nat × List Nat) := (true, [([], []), ([0], [0]), ([1], [1]), ([2], [2]), ([], []), ([4], [4]), ([5], [5]), ([], []), ([7], [7]), ([8], [8]), ([3, 6, 9], [3, 6, 9]), ([], []), ([11, 10, 0, 1, 2, 3, 4, 5, 6, 7, 8, 9, 10, 11], [10, 11])])
def escutcheonref14_Rules.B15 : List Nat := [0, 1, 3, 7, 0, 16, 48, 0, 128, 384, 1023, 0, 4095]
theorem escutcheonref14_Rules.tab15 : rtab .any (opsOf Tryz.f7 15) = escutcheonref14_Rules.T15 := by kernel_rfl
theorem escutcheonref14_Rules.bits15 : waitsOk escutcheonref14_Rules.T15.2 escutcheonref14_Rules.B15 = true := by kernel_rfl
def escutcheonref14_Rules.T19 : Bool × List (List Nat × List Nat) := (true, [([], []), ([0], [0]), ([1], [1]), ([], []), ([], []), ([3, 4], [3, 4]), ([5], [5]), ([2, 6], [2, 6])])
def escutcheonref14_Rules.B19 : List Nat := [0, 1, 3, 0, 0, 24, 56, 127]
theorem escutcheonref14_Rules.tab19 : rtab .any (opsOf Tryz.f7 19) = escutcheonref14_Rules.T19 := by kernel_rfl
theorem escutcheonref14_Rules.bits19 : waitsOk escutcheonref14_Rules.T19.2 escutcheonref14_Rules.B19 = true := by kernel_rfl
set_option maxHeartbeats 8000000 in
set_option maxRecDepth 100000 in
theorem escutcheonref14_Rules.calls (k : Nat) (a0 : ByteArray) (r1 : List (S45)) (r2 : Int) (r3 : Bool) (w : World) (h : escutcheonref14_Rules.f k a0 = some (r1, r2, r3)) :
    Calls Tryz.prog 7 #[.string a0] w fun e w' => ∃ v0_ : Value, e = .returned (.tuple #[v0_, .int .i64 r2, .bool r3]) ∧ Kd.R k45 45 w' w.heap.size (fun _ => True) v0_ r1 ∧ Below w.heap.size w w' := by
  have hu45 := Tryz.underlying45
  have HB := Aside0.mk (Below.refl w.heap.size w)
  have H : (if (a0.size : Int) > 5000 then (some (([] : List (S45)), 0, false)) else (escutcheonref14_Rules.l0 k a0 ([] : List (S45)) 1 0 0)) = some (r1, r2, r3) := h
  clear h
  by_cases c2 : (a0.size : Int) > 5000
  · rw [if_pos c2] at H
    have c2b0 : decide (5000 < (a0.size : Int)) = true := decide_eq_true c2
    have c2b1 : decide (5000 < a0.size) = true := decide_eq_true (by omega)
    clear c2
    simp only [Option.some.injEq, Prod.mk.injEq] at H
    obtain ⟨rfl, rfl, rfl⟩ := H
    go_enter Tryz.func7, Tryz.ntmps7
    go_wp2
    go_ret3
    exact ⟨_, by first | rfl | (simp [errW_none, errW_some] <;> rfl) | (simp [*, errW_none, errW_some] <;> rfl), by first | exact Kd.R_nil _ _ _ _ _ | exact Kd.N_nil _ _ _ _ _ | exact Kd.V_nil _ _ _ _ _ | exact Kd.Q_nil _ _ _ _ _ | exact Kd.S_nil _ _ _ _ _, by repeat (first | (with_reducible first | exact HB.out | apply below_alloc | apply pw_below_drewN | apply below_drew1) | exact HB.out)⟩
  · rw [if_neg c2] at H
    have c2b0 : decide (5000 < (a0.size : Int)) = false := decide_eq_false c2
    have c2b1 : decide (5000 < a0.size) = false := decide_eq_false (by omega)
    clear c2
    have H' := Aside0.mk H
    clear H
    go_enter Tryz.func7, Tryz.ntmps7
    go_wp2
    go_loopg [5, 6, 7, 8] k (fun kq v5 v6 v7 v8 w' => ∃ (x5_1 : List (S45)) (x6_1 : Int) (x7_1 : Int) (x8_1 : Int), v6 = .int .i64 x6_1 ∧ v7 = .int .i64 x7_1 ∧ v8 = .int .i64 x8_1 ∧ Aside0 (escutcheonref14_Rules.l0 kq a0 x5_1 x6_1 x7_1 x8_1 = some (r1, r2, r3)) ∧ Aside0 (kq ≤ k) ∧ Aside0 (Kd.R k45 45 w' w.heap.size (fun _ => True) v5 x5_1) ∧ Aside0 (Below w.heap.size w w'))
    case atStart => exact ⟨(([] : List (S45))), (1), (0), (0), (by first | rfl | (simp; done) | (simp [*]; done)), (by first | rfl | (simp; done) | (simp [*]; done)), (by first | rfl | (simp; done) | (simp [*]; done)), H', ⟨Nat.le_refl _⟩, ⟨by first | exact Kd.R_nil _ _ _ _ _ | exact Kd.N_nil _ _ _ _ _ | exact Kd.V_nil _ _ _ _ _ | exact Kd.Q_nil _ _ _ _ _ | exact Kd.S_nil _ _ _ _ _⟩, ⟨by repeat (first | (with_reducible first | exact HB.out | apply below_alloc | apply pw_below_drewN | apply below_drew1) | exact HB.out)⟩⟩
    case round =>
      clear H'
      try clear c2
      try clear c2b0
      try clear c2b1
      try clear p2
      obtain ⟨x5_1, x6_1, x7_1, x8_1, rfl, rfl, rfl, HA, HK1, HO_5, HB⟩ := hrel
      cases gk with
      | zero => exact absurd HA.out (by simp [escutcheonref14_Rules.l0])
      | succ k1 =>
        have H := HA.out
        clear HA
        simp only [escutcheonref14_Rules.l0] at H
        by_cases c3 : x8_1 ≤ (a0.size : Int)
        · rw [if_pos c3] at H
          have c3b0 : decide (x8_1 ≤ (a0.size : Int)) = true := decide_eq_true c3
          clear c3
          have HC4 := Aside0.mk H
          clear H
          go_upto_region 8 with (fail)
          go_cut [31] (fun v31 wc => ∃ (kq : Nat) (x31_3 : Bool), v31 = .bool x31_3 ∧ Aside0 (escutcheonref14_Rules.j1 kq a0 x5_1 x6_1 x7_1 x8_1 x31_3 = some (r1, r2, r3)) ∧ Aside0 (kq ≤ k1) ∧ Aside0 (Kd.R k45 45 wc w.heap.size (fun _ => True) u5 x5_1) ∧ Aside0 (Below w.heap.size w wc))
          case first =>
            have H := HC4.out
            clear HC4
            by_cases c5 : x8_1 < (a0.size : Int)
            · rw [if_pos c5] at H
              have c5b0 : decide (x8_1 < (a0.size : Int)) = true := decide_eq_true c5
              clear c5
              (first | rw [c5b0] | (simp only [i64_w, i32_w]; rw [c5b0]) | skip)
              by_cases c6 : 0 ≤ x8_1
              · rw [if_pos c6] at H
                have c6b0 : decide (0 ≤ x8_1) = true := decide_eq_true c6
                clear c6
                have H' := Aside0.mk H
                clear H
                have p7 : 0 ≤ (x8_1 : Int) := of_decide_eq_true (by first | (with_reducible assumption) | assumption)
                have q7 : x8_1 < (a0.size : Int) := of_decide_eq_true (by first | (with_reducible assumption) | assumption)
                have hx7 := bt_at a0 x8_1
                replace p7 := eq_true p7
                replace q7 := eq_true q7
                go_wp2
                go_meet
                case rel => exact ⟨_, (((bt a0 x8_1) != 10)), (by first | rfl | (simp; done) | (simp [*]; done)), H', ⟨by have := HK1.out; first | omega | exact Nat.le_refl _⟩, ⟨by (with_reducible repeat (first | apply Kd.R_alloc | apply Kd.R_drewN | apply Kd.R_drew)); exact HO_5.out⟩, ⟨by repeat (first | (with_reducible first | exact HB.out | apply below_alloc | apply pw_below_drewN | apply below_drew1) | exact HB.out)⟩⟩
              · rw [if_neg c6] at H
                exact absurd H (by simp)
            · rw [if_neg c5] at H
              have c5b0 : decide (x8_1 < (a0.size : Int)) = false := decide_eq_false c5
              clear c5
              (first | rw [c5b0] | (simp only [i64_w, i32_w]; rw [c5b0]) | skip)
              have H' := Aside0.mk H
              clear H
              go_wp2
              go_meet
              case rel => exact ⟨_, (false), (by first | rfl | (simp; done) | (simp [*]; done)), H', ⟨by have := HK1.out; first | omega | exact Nat.le_refl _⟩, ⟨by (with_reducible repeat (first | apply Kd.R_alloc | apply Kd.R_drewN | apply Kd.R_drew)); exact HO_5.out⟩, ⟨by repeat (first | (with_reducible first | exact HB.out | apply below_alloc | apply pw_below_drewN | apply below_drew1) | exact HB.out)⟩⟩
          case rest =>
            clear HC4
            try clear c2
            try clear c2b0
            try clear c2b1
            try clear p2
            try clear c3
            try clear c3b0
            try clear c5
            try clear c5b0
            try clear c6
            try clear c6b0
            try clear c7
            try clear p7
            try clear q7
            try clear hx7
            try clear p2
            try clear p7
            try clear q7
            obtain ⟨kq, x31_3, rfl, HA, HJ3, HO_5, HB⟩ := hcut
            cases kq with
            | zero => exact absurd HA.out (by simp [escutcheonref14_Rules.j1])
            | succ kj3 =>
              have H := HA.out
              clear HA
              simp only [escutcheonref14_Rules.j1] at H
              by_cases c8 : x31_3 = true
              · subst c8
                have H1 : (escutcheonref14_Rules.l0 kj3 a0 x5_1 x6_1 x7_1 (wrap64 (x8_1 + 1))) = some (r1, r2, r3) := by rw [if_pos rfl] at H; exact H
                clear H
                have H := H1
                clear H1
                have H' := Aside0.mk H
                clear H
                go_wp2
                go_roundg kj3
                case measure => have := HK1.out; have := HJ3.out; omega
                case rel => exact ⟨(x5_1), (x6_1), (x7_1), (wrap64 (x8_1 + 1)), (by first | rfl | (simp; done) | (simp [*]; done)), (by first | rfl | (simp; done) | (simp [*]; done)), (by first | rfl | (simp; done) | (simp [*]; done)), H', ⟨by have := HK1.out; have := HJ3.out; omega⟩, ⟨by (with_reducible repeat (first | apply Kd.R_alloc | apply Kd.R_drewN | apply Kd.R_drew)); exact HO_5.out⟩, ⟨by repeat (first | (with_reducible first | exact HB.out | apply below_alloc | apply pw_below_drewN | apply below_drew1) | exact HB.out)⟩⟩
              · replace c8 := Bool.eq_false_iff.mpr c8
                subst c8
                have H1 : (if 0 ≤ x7_1 then (if x7_1 ≤ x8_1 then (if x8_1 ≤ (a0.size : Int) then (if (a0.extract (x7_1 : Int).toNat (x8_1 : Int).toNat).toList = ([] : List UInt8) then (escutcheonref14_Rules.j2 kj3 a0 x5_1 x6_1 (wrap64 (x8_1 + 1)) x8_1 (a0.extract (x7_1 : Int).toNat (x8_1 : Int).toNat) false) else (if 0 < ((a0.extract (x7_1 : Int).toNat (x8_1 : Int).toNat).size : Int) then (escutcheonref14_Rules.j2 kj3 a0 x5_1 x6_1 (wrap64 (x8_1 + 1)) x8_1 (a0.extract (x7_1 : Int).toNat (x8_1 : Int).toNat) ((bt (a0.extract (x7_1 : Int).toNat (x8_1 : Int).toNat) 0) != 35)) else (none))) else (none)) else (none)) else (none)) = some (r1, r2, r3) := by rw [if_neg (show ¬ (false = true) by decide)] at H; exact H
                clear H
                have H := H1
                clear H1
                by_cases c9 : 0 ≤ x7_1
                · rw [if_pos c9] at H
                  have c9b0 := eq_true c9
                  have c9b1 : decide (0 ≤ x7_1) = true := decide_eq_true c9
                  clear c9
                  by_cases c10 : x7_1 ≤ x8_1
                  · rw [if_pos c10] at H
                    have c10b0 := eq_true c10
                    have c10b1 : decide (x7_1 ≤ x8_1) = true := decide_eq_true c10
                    clear c10
                    by_cases c11 : x8_1 ≤ (a0.size : Int)
                    · rw [if_pos c11] at H
                      have c11b0 := eq_true c11
                      have c11b1 : decide (x8_1 ≤ (a0.size : Int)) = true := decide_eq_true c11
                      clear c11
                      have HC12 := Aside0.mk H
                      clear H
                      go_upto_region 11 with (fail)
                      go_cut [44] (fun v44 wc => ∃ (kq : Nat) (x44_11 : Bool), v44 = .bool x44_11 ∧ Aside0 (escutcheonref14_Rules.j2 kq a0 x5_1 x6_1 (wrap64 (x8_1 + 1)) x8_1 (a0.extract (x7_1 : Int).toNat (x8_1 : Int).toNat) x44_11 = some (r1, r2, r3)) ∧ Aside0 (kq ≤ kj3) ∧ Aside0 (Kd.R k45 45 wc w.heap.size (fun _ => True) u5 x5_1) ∧ Aside0 (Below w.heap.size w wc))
                      case first =>
                        have H := HC12.out
                        clear HC12
                        by_cases c13 : (a0.extract (x7_1 : Int).toNat (x8_1 : Int).toNat).toList = ([] : List UInt8)
                        · rw [if_pos c13] at H
                          have c13b0 : ((a0.extract (x7_1 : Int).toNat (x8_1 : Int).toNat).toList == ([] : List UInt8)) = true := beq_iff_eq.mpr c13
                          have c13b1 : ((a0.extract (x7_1 : Int).toNat (x8_1 : Int).toNat).toList != ([] : List UInt8)) = false := bne_eq_false_iff_eq.mpr c13
                          clear c13
                          (first | rw [c13b0] | (simp only [i64_w, i32_w]; rw [c13b0]) | skip)
                          have H' := Aside0.mk H
                          clear H
                          go_wp2
                          go_meet
                          case rel => exact ⟨_, (false), (by first | rfl | (simp; done) | (simp [*]; done)), H', ⟨by have := HK1.out; have := HJ3.out; first | omega | exact Nat.le_refl _⟩, ⟨by (with_reducible repeat (first | apply Kd.R_alloc | apply Kd.R_drewN | apply Kd.R_drew)); exact HO_5.out⟩, ⟨by repeat (first | (with_reducible first | exact HB.out | apply below_alloc | apply pw_below_drewN | apply below_drew1) | exact HB.out)⟩⟩
                        · rw [if_neg c13] at H
                          have c13b0 : ((a0.extract (x7_1 : Int).toNat (x8_1 : Int).toNat).toList == ([] : List UInt8)) = false := beq_eq_false_iff_ne.mpr c13
                          have c13b1 : ((a0.extract (x7_1 : Int).toNat (x8_1 : Int).toNat).toList != ([] : List UInt8)) = true := bne_iff_ne.mpr c13
                          (first | rw [c13b0] | (simp only [i64_w, i32_w]; rw [c13b0]) | skip)
                          by_cases c14 : 0 < ((a0.extract (x7_1 : Int).toNat (x8_1 : Int).toNat).size : Int)
                          · rw [if_pos c14] at H
                            have c14b0 : decide (0 < ((a0.extract (x7_1 : Int).toNat (x8_1 : Int).toNat).size : Int)) = true := decide_eq_true c14
                            have c14b1 : decide (0 < (a0.extract (x7_1 : Int).toNat (x8_1 : Int).toNat).size) = true := decide_eq_true (by omega)
                            clear c14
                            have H' := Aside0.mk H
                            clear H
                            have p15 : 0 ≤ (0 : Int) := (by omega)
                            have q15 : 0 < (a0.extract (x7_1 : Int).toNat (x8_1 : Int).toNat).size := (by have : (0 : Int) < ((a0.extract (x7_1 : Int).toNat (x8_1 : Int).toNat).size : Int) := of_decide_eq_true (by first | (with_reducible assumption) | assumption); omega)
                            have hx15 : ∀ h : 0 < (a0.extract (x7_1 : Int).toNat (x8_1 : Int).toNat).size, (((a0.extract (x7_1 : Int).toNat (x8_1 : Int).toNat)[0]'h).toNat : Int) = bt (a0.extract (x7_1 : Int).toNat (x8_1 : Int).toNat) 0 := bt_at (a0.extract (x7_1 : Int).toNat (x8_1 : Int).toNat) 0
                            clear p15
                            have qi15 : (0 < ((a0.extract (x7_1 : Int).toNat (x8_1 : Int).toNat).size : Int)) = True := eq_true (of_decide_eq_true (by first | (with_reducible assumption) | assumption))
                            have qk15 : (0 < x8_1.toNat - x7_1.toNat) = True := eq_true (by have h_ := of_eq_true qi15; rw [ByteArray.size_extract] at h_; omega)
                            have ql15 : decide (0 < x8_1.toNat - x7_1.toNat) = true := decide_eq_true (of_eq_true qk15)
                            replace q15 := eq_true q15
                            go_wp2
                            go_meet
                            case rel => exact ⟨_, (((bt (a0.extract (x7_1 : Int).toNat (x8_1 : Int).toNat) 0) != 35)), (by first | rfl | (simp; done) | (simp [*]; done)), H', ⟨by have := HK1.out; have := HJ3.out; first | omega | exact Nat.le_refl _⟩, ⟨by (with_reducible repeat (first | apply Kd.R_alloc | apply Kd.R_drewN | apply Kd.R_drew)); exact HO_5.out⟩, ⟨by repeat (first | (with_reducible first | exact HB.out | apply below_alloc | apply pw_below_drewN | apply below_drew1) | exact HB.out)⟩⟩
                          · rw [if_neg c14] at H
                            exact absurd H (by simp)
                      case rest =>
                        clear HC12
                        try clear c1
                        try clear p1
                        try clear q1
                        try clear hx1
                        try clear qi1
                        try clear c2
                        try clear c2b0
                        try clear c2b1
                        try clear p2
                        try clear c3
                        try clear c3b0
                        try clear c5
                        try clear c5b0
                        try clear c6
                        try clear c6b0
                        try clear p6
                        try clear c7
                        try clear p7
                        try clear q7
                        try clear hx7
                        try clear c8
                        try clear c9
                        try clear c9b0
                        try clear c9b1
                        try clear c10
                        try clear c10b0
                        try clear c10b1
                        try clear c11
                        try clear c11b0
                        try clear c11b1
                        try clear c13
                        try clear c13b0
                        try clear c13b1
                        try clear c14
                        try clear c14b0
                        try clear c14b1
                        try clear p15
                        try clear q15
                        try clear hx15
                        try clear qi15
                        try clear p15
                        try clear p2
                        try clear p7
                        try clear q15
                        try clear q7
                        obtain ⟨kq, x44_11, rfl, HA, HJ11, HO_5, HB⟩ := hcut
                        cases kq with
                        | zero => exact absurd HA.out (by simp [escutcheonref14_Rules.j2])
                        | succ kj11 =>
                          have H := HA.out
                          clear HA
                          simp only [escutcheonref14_Rules.j2] at H
                          by_cases c16 : x44_11 = true
                          · subst c16
                            have H1 : ((escutcheonref14_words.f kj11 (a0.extract (x7_1 : Int).toNat (x8_1 : Int).toNat)).bind fun t121 => (if (t121.length : Int) = 4 then (if 0 < (t121.length : Int) then (if 1 < (t121.length : Int) then (if 3 < (t121.length : Int) then (escutcheonref14_Rules.l1 kj11 a0 x5_1 x6_1 (wrap64 (x8_1 + 1)) x8_1 (a0.extract (x7_1 : Int).toNat (x8_1 : Int).toNat) t121 0 ((rdOf ByteArray.empty t121 0).toList == ([97, 108, 108, 111, 119] : List UInt8)) (rdOf ByteArray.empty t121 1) (-1) (rdOf ByteArray.empty t121 3)) else (none)) else (none)) else (none)) else (some (([] : List (S45)), x6_1, false)))) = some (r1, r2, r3) := by rw [if_pos rfl] at H; exact H
                            clear H
                            have H := H1
                            clear H1
                            replace H := Option.bind_eq_some_iff.mp H
                            obtain ⟨t121, A170, H⟩ := H
                            replace H : (if (t121.length : Int) = 4 then (if 0 < (t121.length : Int) then (if 1 < (t121.length : Int) then (if 3 < (t121.length : Int) then (escutcheonref14_Rules.l1 kj11 a0 x5_1 x6_1 (wrap64 (x8_1 + 1)) x8_1 (a0.extract (x7_1 : Int).toNat (x8_1 : Int).toNat) t121 0 ((rdOf ByteArray.empty t121 0).toList == ([97, 108, 108, 111, 119] : List UInt8)) (rdOf ByteArray.empty t121 1) (-1) (rdOf ByteArray.empty t121 3)) else (none)) else (none)) else (none)) else (some (([] : List (S45)), x6_1, false))) = some (r1, r2, r3) := H
                            have A17 := Aside0.mk A170
                            clear A170
                            by_cases c18 : (t121.length : Int) = 4
                            · rw [if_pos c18] at H
                              have c18b0 : ((t121.length : Int) == 4) = true := beq_iff_eq.mpr c18
                              have c18b1 : ((t121.length : Int) != 4) = false := bne_eq_false_iff_eq.mpr c18
                              clear c18
                              by_cases c19 : 0 < (t121.length : Int)
                              · rw [if_pos c19] at H
                                have c19b0 : decide (0 < (t121.length : Int)) = true := decide_eq_true c19
                                have c19b1 : decide (0 < t121.length) = true := decide_eq_true (by omega)
                                clear c19
                                by_cases c20 : 1 < (t121.length : Int)
                                · rw [if_pos c20] at H
                                  have c20b0 : decide (1 < (t121.length : Int)) = true := decide_eq_true c20
                                  have c20b1 : decide (1 < t121.length) = true := decide_eq_true (by omega)
                                  clear c20
                                  by_cases c21 : 3 < (t121.length : Int)
                                  · rw [if_pos c21] at H
                                    have c21b0 : decide (3 < (t121.length : Int)) = true := decide_eq_true c21
                                    have c21b1 : decide (3 < t121.length) = true := decide_eq_true (by omega)
                                    clear c21
                                    have H' := Aside0.mk H
                                    clear H
                                    try go_wp2_with (first | ((with_reducible refine gate_callee (f := 15) rfl ?_); refine goesL_ (some 46) rfl rfl Tryz.func15 (by kernel_rfl) rfl #[.string (a0.extract (x7_1 : Int).toNat (x8_1 : Int).toNat)] rfl (by (try simp only [List.map_toArray, List.map_cons, List.map_nil]); first | done | rfl | (simp only [List.length_drop, List.length_take]; rfl)) ?_; (with_reducible refine (escutcheonref14_words.calls kj11 (a0.extract (x7_1 : Int).toNat (x8_1 : Int).toNat) t121 _ A17.out).mono ?_); rintro e w22 ⟨v122, rfl, ho0, hb⟩; refine ⟨_, rfl, ?_⟩; have n0_ := Aside0.mk (Kd.R_below (by (with_reducible repeat (first | apply Kd.R_alloc | apply Kd.R_drewN | apply Kd.R_drew)); exact HO_5.out) hb); have n1_ := Aside0.mk (Kd.R_lower ho0 (below_size (by repeat (first | (with_reducible first | exact HB.out | apply below_alloc | apply pw_below_drewN | apply below_drew1) | exact HB.out)))); have n2_ := Aside0.mk (below_step (by repeat (first | (with_reducible first | exact HB.out | apply below_alloc | apply pw_below_drewN | apply below_drew1) | exact HB.out)) hb); clear HO_5; clear HB; have HO_5 := n0_; have HO123 := n1_; have HB := n2_; clear n0_ n1_ n2_; (try clear hb); (try clear hb2); (try clear hk); (try clear hi); (try clear ho0); obtain ⟨Ao23, co23, eo23⟩ := Kd.R_slice HO123.out; subst eo23))
                                    have n0_ := Aside0.mk (Kd.R_drew HO_5.out)
                                    have n1_ := Aside0.mk (Kd.R_drew HO123.out)
                                    have n2_ := Aside0.mk (below_drew1 HB.out)
                                    clear HO_5
                                    clear HO123
                                    clear HB
                                    have HO_5 := n0_
                                    have HO123 := n1_
                                    have HB := n2_
                                    clear n0_ n1_ n2_
                                    have p124 : 0 ≤ (0 : Int) := (by omega)
                                    have q124 : 0 < (t121.length : Int) := of_decide_eq_true (by first | (with_reducible assumption) | assumption)
                                    obtain ⟨ad124, e124, hx124_0⟩ := Kd.at_string (Kd.R_reads' HO123.out).2.2 0 p124 q124
                                    cases e124
                                    have qi124 : (0 < t121.length) = True := eq_true (by omega)
                                    (try rw [show ((0 : Int)).toNat = 0 from rfl] at hx124_0)
                                    (try rw [Addr.add_zero'] at hx124_0)
                                    replace p124 := eq_true p124
                                    replace q124 := eq_true q124
                                    have p125 : 0 ≤ (1 : Int) := (by omega)
                                    have q125 : 1 < (t121.length : Int) := of_decide_eq_true (by first | (with_reducible assumption) | assumption)
                                    obtain ⟨ad125, e125, hx125_0⟩ := Kd.at_string (Kd.R_reads' HO123.out).2.2 1 p125 q125
                                    obtain rfl : ad124 = ad125 := (by injection e125)
                                    (try simp only [show (1 : Int).toNat = 1 from rfl, Nat.reduceMul, Nat.reduceEqDiff, Go.Addr.add, ↓reduceIte] at hx125_0)
                                    have qi125 : (1 < t121.length) = True := eq_true (by omega)
                                    (try rw [show ((1 : Int)).toNat = 1 from rfl] at hx125_0)
                                    replace p125 := eq_true p125
                                    replace q125 := eq_true q125
                                    have p126 : 0 ≤ (3 : Int) := (by omega)
                                    have q126 : 3 < (t121.length : Int) := of_decide_eq_true (by first | (with_reducible assumption) | assumption)
                                    obtain ⟨ad126, e126, hx126_0⟩ := Kd.at_string (Kd.R_reads' HO123.out).2.2 3 p126 q126
                                    obtain rfl : ad124 = ad126 := (by injection e126)
                                    (try simp only [show (3 : Int).toNat = 3 from rfl, Nat.reduceMul, Nat.reduceEqDiff, Go.Addr.add, ↓reduceIte] at hx126_0)
                                    have qi126 : (3 < t121.length) = True := eq_true (by omega)
                                    (try rw [show ((3 : Int)).toNat = 3 from rfl] at hx126_0)
                                    replace p126 := eq_true p126
                                    replace q126 := eq_true q126
                                    refine start_ (n := 13) (S := fun w' => w'.cell? ad124 = some (.string (rdOf ByteArray.empty t121 0)) ∧ w'.cell? ⟨ad124.block, ad124.off + 1, none⟩ = some (.string (rdOf ByteArray.empty t121 1)) ∧ w'.cell? ⟨ad124.block, ad124.off + 3, none⟩ = some (.string (rdOf ByteArray.empty t121 3))) (ds := []) #[false, false, false, false, false, false, false, false, false, false, false, false, false] (by kernel_rfl) rfl rfl ⟨hx124_0, hx125_0, hx126_0⟩ (fun hHeld => ?_); refine with_tabW escutcheonref14_Rules.tab15 escutcheonref14_Rules.bits15 (fun HT_ HW_ => ?_)
                                    generalize w22.drew = w24 at HO_5 HO123 HB hx124_0 hx125_0 hx126_0 hHeld ⊢
                                    refine pure_ (i := 0) (N := some 51) (v := ?_) (a' := ?_) #[true, false, false, false, false, false, false, false, false, false, false, false, false] rfl rfl (any_of HT_.out (by kernel_rfl)) (fun _ _ _ h => h) (Or.inl ⟨by rfl, ?_⟩) ?_ ?_
                                    rotate_left
                                    · intro w'
                                      go_simp
                                      with_reducible rfl
                                    rotate_left
                                    · simp only [Act.put, List.setIfInBounds_toArray, List.set_cons_zero, List.set_cons_succ, i64_w, i32_w]
                                      rfl
                                    refine pure_ (i := 1) (N := some 52) (v := ?_) (a' := ?_) #[true, true, false, false, false, false, false, false, false, false, false, false, false] rfl rfl (any_of HT_.out (by kernel_rfl)) (fun _ _ _ h => h) (Or.inl ⟨by rfl, ?_⟩) ?_ ?_
                                    rotate_left
                                    · intro w'
                                      go_simp
                                      with_reducible rfl
                                    rotate_left
                                    · simp only [Act.put, List.setIfInBounds_toArray, List.set_cons_zero, List.set_cons_succ, i64_w, i32_w]
                                      rfl
                                    refine pure_ (i := 4) (N := some 55) (v := ?_) (a' := ?_) #[true, true, false, false, true, false, false, false, false, false, false, false, false] rfl rfl (any_of HT_.out (by kernel_rfl)) (fun _ _ _ h => h) (Or.inl ⟨by rfl, ?_⟩) ?_ ?_
                                    rotate_left
                                    · intro w'
                                      go_simp
                                      with_reducible rfl
                                    rotate_left
                                    · simp only [Act.put, List.setIfInBounds_toArray, List.set_cons_zero, List.set_cons_succ, i64_w, i32_w]
                                      rfl
                                    refine pure_ (i := 5) (N := some 56) (v := ?_) (a' := ?_) #[true, true, false, false, true, true, false, false, false, false, false, false, false] rfl rfl (any_of HT_.out (by kernel_rfl)) (fun _ _ _ h => h) (Or.inl ⟨by rfl, ?_⟩) ?_ ?_
                                    rotate_left
                                    · intro w'
                                      go_simp
                                      with_reducible rfl
                                    rotate_left
                                    · simp only [Act.put, List.setIfInBounds_toArray, List.set_cons_zero, List.set_cons_succ, i64_w, i32_w]
                                      rfl
                                    refine pure_ (i := 7) (N := some 58) (v := ?_) (a' := ?_) #[true, true, false, false, true, true, false, true, false, false, false, false, false] rfl rfl (any_of HT_.out (by kernel_rfl)) (fun _ _ _ h => h) (Or.inl ⟨by rfl, ?_⟩) ?_ ?_
                                    rotate_left
                                    · intro w'
                                      go_simp
                                      with_reducible rfl
                                    rotate_left
                                    · simp only [Act.put, List.setIfInBounds_toArray, List.set_cons_zero, List.set_cons_succ, i64_w, i32_w]
                                      rfl
                                    refine pure_ (i := 8) (N := some 59) (v := ?_) (a' := ?_) #[true, true, false, false, true, true, false, true, true, false, false, false, false] rfl rfl (any_of HT_.out (by kernel_rfl)) (fun _ _ _ h => h) (Or.inl ⟨by rfl, ?_⟩) ?_ ?_
                                    rotate_left
                                    · intro w'
                                      go_simp
                                      with_reducible rfl
                                    rotate_left
                                    · simp only [Act.put, List.setIfInBounds_toArray, List.set_cons_zero, List.set_cons_succ, i64_w, i32_w]
                                      rfl
                                    refine take_ (i := 2) (N := some 53) (v := ?_) (a' := ?_) #[true, true, true, false, true, true, false, true, true, false, false, false, false] rfl rfl (take_ofW HT_.out HW_.out (by kernel_rfl)) (fun _ _ _ h => h) (Or.inl ⟨by rfl, ?_⟩) hHeld ?_ ?_
                                    rotate_left
                                    · rintro w' ⟨s0, s1, s2⟩
                                      go_simp
                                      with_reducible rfl
                                    rotate_left
                                    · simp only [Act.put, List.setIfInBounds_toArray, List.set_cons_zero, List.set_cons_succ, i64_w, i32_w]
                                      rfl
                                    refine pure_ (i := 3) (N := some 54) (v := ?_) (a' := ?_) #[true, true, true, true, true, true, false, true, true, false, false, false, false] rfl rfl (any_of HT_.out (by kernel_rfl)) (fun _ _ _ h => h) (Or.inl ⟨by rfl, ?_⟩) ?_ ?_
                                    rotate_left
                                    · intro w'
                                      go_simp
                                      with_reducible rfl
                                    rotate_left
                                    · simp only [Act.put, List.setIfInBounds_toArray, List.set_cons_zero, List.set_cons_succ, i64_w, i32_w]
                                      rfl
                                    refine take_ (i := 6) (N := some 57) (v := ?_) (a' := ?_) #[true, true, true, true, true, true, true, true, true, false, false, false, false] rfl rfl (take_ofW HT_.out HW_.out (by kernel_rfl)) (fun _ _ _ h => h) (Or.inl ⟨by rfl, ?_⟩) hHeld ?_ ?_
                                    rotate_left
                                    · rintro w' ⟨s0, s1, s2⟩
                                      go_simp
                                      with_reducible rfl
                                    rotate_left
                                    · simp only [Act.put, List.setIfInBounds_toArray, List.set_cons_zero, List.set_cons_succ, i64_w, i32_w]
                                      rfl
                                    refine take_ (i := 9) (N := some 60) (v := ?_) (a' := ?_) #[true, true, true, true, true, true, true, true, true, true, false, false, false] rfl rfl (take_ofW HT_.out HW_.out (by kernel_rfl)) (fun _ _ _ h => h) (Or.inl ⟨by rfl, ?_⟩) hHeld ?_ ?_
                                    rotate_left
                                    · rintro w' ⟨s0, s1, s2⟩
                                      go_simp
                                      with_reducible rfl
                                    rotate_left
                                    · simp only [Act.put, List.setIfInBounds_toArray, List.set_cons_zero, List.set_cons_succ, i64_w, i32_w]
                                      rfl
                                    refine pure_ (i := 10) (N := some 61) (v := ?_) (a' := ?_) #[true, true, true, true, true, true, true, true, true, true, true, false, false] rfl rfl (any_of HT_.out (by kernel_rfl)) (fun _ _ _ h => h) (Or.inl ⟨by rfl, ?_⟩) ?_ ?_
                                    rotate_left
                                    · intro w'
                                      go_simp
                                      with_reducible rfl
                                    rotate_left
                                    · simp only [Act.put, List.setIfInBounds_toArray, List.set_cons_zero, List.set_cons_succ, i64_w, i32_w]
                                      rfl
                                    refine one_ (i := 11) (N := some 11) #[true, true, true, true, true, true, true, true, true, true, true, true, false] rfl rfl (one_of HT_.out (by kernel_rfl)) (by decide) (fun K hK => ?_)
                                    refine box_step ?hg (N := 11) ?hd (cs := #[.bool false, .string (⟨#[]⟩ : ByteArray), .int .i64 0, .string (⟨#[]⟩ : ByteArray)]) (t := 45) ?hr ?_; (case hd => rfl); (case hg => rfl); (case hr => first | (go_simp; done) | (go_simp; rfl))
                                    intro gb127 hg w25 hbox hb
                                    have HS0_ := (hb.cell (World.block_lt_of_cell? _ _ (hHeld.1))).trans (hHeld.1)
                                    have HS1_ := (hb.cell (World.block_lt_of_cell? _ _ (hHeld.2.1))).trans (hHeld.2.1)
                                    have HS2_ := (hb.cell (World.block_lt_of_cell? _ _ (hHeld.2.2))).trans (hHeld.2.2)
                                    have n0_ := Aside0.mk (Kd.R_below (Kd.R_elderB (by (with_reducible repeat (first | apply Kd.R_alloc | apply Kd.R_drewN | apply Kd.R_drew)); exact HO_5.out) gb127 (Nat.le_of_eq hg.symm)) hb)
                                    have n1_ := Aside0.mk (Kd.R_below (by (with_reducible repeat (first | apply Kd.R_alloc | apply Kd.R_drewN | apply Kd.R_drew)); exact HO123.out) hb)
                                    have n2_ := Aside0.mk (below_step (by repeat (first | (with_reducible first | exact HB.out | apply below_alloc | apply pw_below_drewN | apply below_drew1) | exact HB.out)) hb)
                                    have n3_ := Aside0.mk (hbox)
                                    have n4_ := Aside0.mk ((by rw [hg]; exact (below_size (by repeat (first | (with_reducible first | exact HB.out | apply below_alloc | apply pw_below_drewN | apply below_drew1) | exact HB.out))) : w.heap.size ≤ gb127))
                                    have n5_ := Aside0.mk ((by rw [hg]; exact (below_size (by repeat (first | (with_reducible first | exact HB.out | apply below_alloc | apply pw_below_drewN | apply below_drew1) | exact HB.out))) : w.heap.size ≤ gb127))
                                    clear HO_5
                                    clear HO123
                                    clear HB
                                    have HO_5 := n0_
                                    have HO123 := n1_
                                    have HB := n2_
                                    have BK127 := n3_
                                    have GW127 := n4_
                                    have GE127 := n5_
                                    clear n0_ n1_ n2_ n3_ n4_ n5_
                                    clear hb hbox hg
                                    refine hK.out _ _ ⟨HS0_, HS1_, HS2_⟩ (fun hHeld => ?_)
                                    clear hK K
                                    refine norm_ (a' := ?_) ?_ ?_
                                    rotate_left
                                    · show Act.put _ (some 11) _ = _
                                      simp only [Act.put, List.setIfInBounds_toArray, List.set_cons_zero, List.set_cons_succ, i64_w, i32_w]
                                      rfl
                                    refine one_ (i := 12) (N := none) #[true, true, true, true, true, true, true, true, true, true, true, true, true] rfl rfl (one_of HT_.out (by kernel_rfl)) (by decide) (fun K hK => ?_)
                                    have hs26 : w25.cell? ⟨gb127, 0, none⟩ = some (.bool false) := (blk_cell BK127.out 0).trans rfl
                                    have hfs26 := blk_frozen BK127.out 0
                                    have hs27 : w25.cell? ⟨gb127, 1, none⟩ = some (.string (⟨#[]⟩ : ByteArray)) := (blk_cell BK127.out 1).trans rfl
                                    have hfs27 := blk_frozen BK127.out 1
                                    have hs28 : w25.cell? ⟨gb127, 2, none⟩ = some (.int .i64 0) := (blk_cell BK127.out 2).trans rfl
                                    have hfs28 := blk_frozen BK127.out 2
                                    have hs29 : w25.cell? ⟨gb127, 3, none⟩ = some (.string (⟨#[]⟩ : ByteArray)) := (blk_cell BK127.out 3).trans rfl
                                    have hfs29 := blk_frozen BK127.out 3
                                    refine skip_ (w1 := ?_) (by rfl) rfl ?_ ?_
                                    rotate_left
                                    · go_simp
                                      rfl
                                    refine hK.out _ _ ⟨((cell_far (p := ⟨gb127, _, none⟩) (by first | exact Kd.own_blk (Kd.R_ne HO123.out BK127.out (by decide)) | (rw [add_block]; exact Kd.own_blk (Kd.R_ne HO123.out BK127.out (by decide))) | (show (Addr.add _ _).block ≠ _; rw [add_block]; exact Kd.own_blk (Kd.R_ne HO123.out BK127.out (by decide))) | (dsimp only; exact Kd.own_blk (Kd.R_ne HO123.out BK127.out (by decide)))) _).trans (((cell_far (p := ⟨gb127, _, none⟩) (by first | exact Kd.own_blk (Kd.R_ne HO123.out BK127.out (by decide)) | (rw [add_block]; exact Kd.own_blk (Kd.R_ne HO123.out BK127.out (by decide))) | (show (Addr.add _ _).block ≠ _; rw [add_block]; exact Kd.own_blk (Kd.R_ne HO123.out BK127.out (by decide))) | (dsimp only; exact Kd.own_blk (Kd.R_ne HO123.out BK127.out (by decide)))) _).trans (((cell_far (p := ⟨gb127, _, none⟩) (by first | exact Kd.own_blk (Kd.R_ne HO123.out BK127.out (by decide)) | (rw [add_block]; exact Kd.own_blk (Kd.R_ne HO123.out BK127.out (by decide))) | (show (Addr.add _ _).block ≠ _; rw [add_block]; exact Kd.own_blk (Kd.R_ne HO123.out BK127.out (by decide))) | (dsimp only; exact Kd.own_blk (Kd.R_ne HO123.out BK127.out (by decide)))) _).trans (((cell_far (p := ⟨gb127, _, none⟩) (by first | exact Kd.own_blk (Kd.R_ne HO123.out BK127.out (by decide)) | (rw [add_block]; exact Kd.own_blk (Kd.R_ne HO123.out BK127.out (by decide))) | (show (Addr.add _ _).block ≠ _; rw [add_block]; exact Kd.own_blk (Kd.R_ne HO123.out BK127.out (by decide))) | (dsimp only; exact Kd.own_blk (Kd.R_ne HO123.out BK127.out (by decide)))) _).trans (hHeld.1)))))))), ((cell_far (p := ⟨gb127, _, none⟩) (by first | exact Kd.own_blk (Kd.R_ne HO123.out BK127.out (by decide)) | (rw [add_block]; exact Kd.own_blk (Kd.R_ne HO123.out BK127.out (by decide))) | (show (Addr.add _ _).block ≠ _; rw [add_block]; exact Kd.own_blk (Kd.R_ne HO123.out BK127.out (by decide))) | (dsimp only; exact Kd.own_blk (Kd.R_ne HO123.out BK127.out (by decide)))) _).trans (((cell_far (p := ⟨gb127, _, none⟩) (by first | exact Kd.own_blk (Kd.R_ne HO123.out BK127.out (by decide)) | (rw [add_block]; exact Kd.own_blk (Kd.R_ne HO123.out BK127.out (by decide))) | (show (Addr.add _ _).block ≠ _; rw [add_block]; exact Kd.own_blk (Kd.R_ne HO123.out BK127.out (by decide))) | (dsimp only; exact Kd.own_blk (Kd.R_ne HO123.out BK127.out (by decide)))) _).trans (((cell_far (p := ⟨gb127, _, none⟩) (by first | exact Kd.own_blk (Kd.R_ne HO123.out BK127.out (by decide)) | (rw [add_block]; exact Kd.own_blk (Kd.R_ne HO123.out BK127.out (by decide))) | (show (Addr.add _ _).block ≠ _; rw [add_block]; exact Kd.own_blk (Kd.R_ne HO123.out BK127.out (by decide))) | (dsimp only; exact Kd.own_blk (Kd.R_ne HO123.out BK127.out (by decide)))) _).trans (((cell_far (p := ⟨gb127, _, none⟩) (by first | exact Kd.own_blk (Kd.R_ne HO123.out BK127.out (by decide)) | (rw [add_block]; exact Kd.own_blk (Kd.R_ne HO123.out BK127.out (by decide))) | (show (Addr.add _ _).block ≠ _; rw [add_block]; exact Kd.own_blk (Kd.R_ne HO123.out BK127.out (by decide))) | (dsimp only; exact Kd.own_blk (Kd.R_ne HO123.out BK127.out (by decide)))) _).trans (hHeld.2.1)))))))), ((cell_far (p := ⟨gb127, _, none⟩) (by first | exact Kd.own_blk (Kd.R_ne HO123.out BK127.out (by decide)) | (rw [add_block]; exact Kd.own_blk (Kd.R_ne HO123.out BK127.out (by decide))) | (show (Addr.add _ _).block ≠ _; rw [add_block]; exact Kd.own_blk (Kd.R_ne HO123.out BK127.out (by decide))) | (dsimp only; exact Kd.own_blk (Kd.R_ne HO123.out BK127.out (by decide)))) _).trans (((cell_far (p := ⟨gb127, _, none⟩) (by first | exact Kd.own_blk (Kd.R_ne HO123.out BK127.out (by decide)) | (rw [add_block]; exact Kd.own_blk (Kd.R_ne HO123.out BK127.out (by decide))) | (show (Addr.add _ _).block ≠ _; rw [add_block]; exact Kd.own_blk (Kd.R_ne HO123.out BK127.out (by decide))) | (dsimp only; exact Kd.own_blk (Kd.R_ne HO123.out BK127.out (by decide)))) _).trans (((cell_far (p := ⟨gb127, _, none⟩) (by first | exact Kd.own_blk (Kd.R_ne HO123.out BK127.out (by decide)) | (rw [add_block]; exact Kd.own_blk (Kd.R_ne HO123.out BK127.out (by decide))) | (show (Addr.add _ _).block ≠ _; rw [add_block]; exact Kd.own_blk (Kd.R_ne HO123.out BK127.out (by decide))) | (dsimp only; exact Kd.own_blk (Kd.R_ne HO123.out BK127.out (by decide)))) _).trans (((cell_far (p := ⟨gb127, _, none⟩) (by first | exact Kd.own_blk (Kd.R_ne HO123.out BK127.out (by decide)) | (rw [add_block]; exact Kd.own_blk (Kd.R_ne HO123.out BK127.out (by decide))) | (show (Addr.add _ _).block ≠ _; rw [add_block]; exact Kd.own_blk (Kd.R_ne HO123.out BK127.out (by decide))) | (dsimp only; exact Kd.own_blk (Kd.R_ne HO123.out BK127.out (by decide)))) _).trans (hHeld.2.2))))))))⟩ (fun hHeld => ?_)
                                    clear hK K
                                    refine done_ (done_of HT_.out (by kernel_rfl)) ?_
                                    try go_wp2
                                    go_loopg [12] kj11 (fun kq v12 w' => ∃ (x12_4 : Int) (x128002_4 : Int), v12 = .int .i64 x12_4 ∧ Aside0 (escutcheonref14_Rules.l1 kq a0 x5_1 x6_1 (wrap64 (x8_1 + 1)) x8_1 (a0.extract (x7_1 : Int).toNat (x8_1 : Int).toNat) t121 x12_4 ((rdOf ByteArray.empty t121 0).toList == ([97, 108, 108, 111, 119] : List UInt8)) (rdOf ByteArray.empty t121 1) x128002_4 (rdOf ByteArray.empty t121 3) = some (r1, r2, r3)) ∧ Aside0 (kq ≤ kj11) ∧ Aside0 (Kd.R k45 45 w' w.heap.size (fun k_ => k_ ≠ gb127) u5 x5_1) ∧ Aside0 (Kd.R Kd.string 9 w' w.heap.size (fun _ => True) (.slice (some ad124) t121.length co23) t121) ∧ Aside0 (w'.heap[gb127]? = some (.cells #[.bool ((rdOf ByteArray.empty t121 0).toList == ([97, 108, 108, 111, 119] : List UInt8)), .string (rdOf ByteArray.empty t121 1), .int .i64 x128002_4, .string (rdOf ByteArray.empty t121 3)] 45 (0, 0))) ∧ Aside0 (Below w.heap.size w w'))
                                    case atStart => exact ⟨(0), ((-1)), (by first | rfl | (simp; done) | (simp [*]; done)), H', ⟨Nat.le_refl _⟩, ⟨by (with_reducible repeat (first | apply Kd.R_alloc | apply Kd.R_drewN | apply Kd.R_drew)); exact Kd.R_mono (Kd.R_far (p := ⟨gb127, 3, none⟩) (Kd.R_far (p := ⟨gb127, 2, none⟩) (Kd.R_far (p := ⟨gb127, 1, none⟩) (Kd.R_far (p := ⟨gb127, 0, none⟩) (Kd.R_mono HO_5.out (fun k_ hk => (⟨hk, hk.2⟩ : _ ∧ k_ ≠ gb127))) (fun _ hk => hk.2) (.bool ((rdOf ByteArray.empty t121 0).toList == ([97, 108, 108, 111, 119] : List UInt8)))) (fun _ hk => hk.2) (.string (rdOf ByteArray.empty t121 1))) (fun _ hk => hk.2) (.int .i64 (-1))) (fun _ hk => hk.2) (.string (rdOf ByteArray.empty t121 3))) (fun _ hk => hk.1.2)⟩, ⟨by (with_reducible repeat (first | apply Kd.R_alloc | apply Kd.R_drewN | apply Kd.R_drew)); exact Kd.R_mono (Kd.R_far (p := ⟨gb127, 3, none⟩) (Kd.R_far (p := ⟨gb127, 2, none⟩) (Kd.R_far (p := ⟨gb127, 1, none⟩) (Kd.R_far (p := ⟨gb127, 0, none⟩) (Kd.R_types HO123.out BK127.out (by decide)) (fun _ hk => hk.2) (.bool ((rdOf ByteArray.empty t121 0).toList == ([97, 108, 108, 111, 119] : List UInt8)))) (fun _ hk => hk.2) (.string (rdOf ByteArray.empty t121 1))) (fun _ hk => hk.2) (.int .i64 (-1))) (fun _ hk => hk.2) (.string (rdOf ByteArray.empty t121 3))) (fun _ hk => trivial)⟩, ⟨by (with_reducible repeat (first | refine blk_drewN ?_ _ | refine blk_drew ?_ | refine blk_alloc ?_ _)); refine blk_put (cs := #[.bool ((rdOf ByteArray.empty t121 0).toList == ([97, 108, 108, 111, 119] : List UInt8)), .string (rdOf ByteArray.empty t121 1), .int .i64 (-1), .string (⟨#[]⟩ : ByteArray)]) ?_ 3 _ rfl; (with_reducible repeat (first | refine blk_drewN ?_ _ | refine blk_drew ?_ | refine blk_alloc ?_ _)); refine blk_put (cs := #[.bool ((rdOf ByteArray.empty t121 0).toList == ([97, 108, 108, 111, 119] : List UInt8)), .string (rdOf ByteArray.empty t121 1), .int .i64 0, .string (⟨#[]⟩ : ByteArray)]) ?_ 2 _ rfl; (with_reducible repeat (first | refine blk_drewN ?_ _ | refine blk_drew ?_ | refine blk_alloc ?_ _)); refine blk_put (cs := #[.bool ((rdOf ByteArray.empty t121 0).toList == ([97, 108, 108, 111, 119] : List UInt8)), .string (⟨#[]⟩ : ByteArray), .int .i64 0, .string (⟨#[]⟩ : ByteArray)]) ?_ 1 _ rfl; (with_reducible repeat (first | refine blk_drewN ?_ _ | refine blk_drew ?_ | refine blk_alloc ?_ _)); refine blk_put (cs := #[.bool false, .string (⟨#[]⟩ : ByteArray), .int .i64 0, .string (⟨#[]⟩ : ByteArray)]) ?_ 0 _ rfl; (with_reducible repeat (first | refine blk_drewN ?_ _ | refine blk_drew ?_ | refine blk_alloc ?_ _)); exact BK127.out⟩, ⟨by repeat (first | (with_reducible first | exact HB.out | apply below_alloc | apply pw_below_drewN | apply below_drew1 | refine below_set ?_ GE127.out) | exact HB.out)⟩⟩
                                    case round =>
                                      clear H'
                                      try clear c1
                                      try clear p1
                                      try clear q1
                                      try clear hx1
                                      try clear qi1
                                      try clear c2
                                      try clear c2b0
                                      try clear c2b1
                                      try clear p2
                                      try clear c3
                                      try clear c3b0
                                      try clear c5
                                      try clear c5b0
                                      try clear c6
                                      try clear c6b0
                                      try clear p6
                                      try clear c7
                                      try clear p7
                                      try clear q7
                                      try clear hx7
                                      try clear c8
                                      try clear c9
                                      try clear c9b0
                                      try clear c9b1
                                      try clear c10
                                      try clear c10b0
                                      try clear c10b1
                                      try clear c11
                                      try clear c11b0
                                      try clear c11b1
                                      try clear p12
                                      try clear q12
                                      try clear hx12
                                      try clear qi12
                                      try clear c13
                                      try clear c13b0
                                      try clear c13b1
                                      try clear c14
                                      try clear c14b0
                                      try clear c14b1
                                      try clear c15
                                      try clear p15
                                      try clear q15
                                      try clear hx15
                                      try clear qi15
                                      try clear c16
                                      try clear c18
                                      try clear c18b0
                                      try clear c18b1
                                      try clear c19
                                      try clear c19b0
                                      try clear c19b1
                                      try clear c20
                                      try clear c20b0
                                      try clear c20b1
                                      try clear c21
                                      try clear c21b0
                                      try clear c21b1
                                      try clear hx124_0
                                      try clear hx125_0
                                      try clear hx126_0
                                      try clear p1
                                      try clear p124
                                      try clear p125
                                      try clear p126
                                      try clear p15
                                      try clear p2
                                      try clear p6
                                      try clear p7
                                      try clear q1
                                      try clear q124
                                      try clear q125
                                      try clear q126
                                      try clear q15
                                      try clear q7
                                      obtain ⟨x12_4, x128002_4, rfl, HA, HK4, HO_5, HO_10, BK127, HB⟩ := hrel
                                      cases gk with
                                      | zero => exact absurd HA.out (by simp [escutcheonref14_Rules.l1])
                                      | succ k4 =>
                                        have H := HA.out
                                        clear HA
                                        simp only [escutcheonref14_Rules.l1] at H
                                        by_cases c30 : x12_4 < 4
                                        · rw [if_pos c30] at H
                                          have c30b0 : decide (x12_4 < 4) = true := decide_eq_true c30
                                          clear c30
                                          by_cases c31 : 2 < (t121.length : Int)
                                          · rw [if_pos c31] at H
                                            have c31b0 : decide (2 < (t121.length : Int)) = true := decide_eq_true c31
                                            have c31b1 : decide (2 < t121.length) = true := decide_eq_true (by omega)
                                            clear c31
                                            obtain ⟨y129, hy129⟩ : ∃ y_ : List ByteArray, y_ = (([(⟨#[97, 110, 121]⟩ : ByteArray), (⟨#[114, 101, 97, 100]⟩ : ByteArray), (⟨#[119, 114, 105, 116, 101]⟩ : ByteArray), (⟨#[97, 100, 109, 105, 110]⟩ : ByteArray)] : List ByteArray)) := ⟨_, rfl⟩
                                            replace H : (if 0 ≤ x12_4 then (if x12_4 < (y129.length : Int) then (if (rdOf ByteArray.empty t121 2).toList = (rdOf ByteArray.empty y129 x12_4).toList then (escutcheonref14_Rules.l1 k4 a0 x5_1 x6_1 (wrap64 (x8_1 + 1)) x8_1 (a0.extract (x7_1 : Int).toNat (x8_1 : Int).toNat) t121 (wrap64 (x12_4 + 1)) ((rdOf ByteArray.empty t121 0).toList == ([97, 108, 108, 111, 119] : List UInt8)) (rdOf ByteArray.empty t121 1) x12_4 (rdOf ByteArray.empty t121 3)) else (escutcheonref14_Rules.l1 k4 a0 x5_1 x6_1 (wrap64 (x8_1 + 1)) x8_1 (a0.extract (x7_1 : Int).toNat (x8_1 : Int).toNat) t121 (wrap64 (x12_4 + 1)) ((rdOf ByteArray.empty t121 0).toList == ([97, 108, 108, 111, 119] : List UInt8)) (rdOf ByteArray.empty t121 1) x128002_4 (rdOf ByteArray.empty t121 3))) else (none)) else (none)) = some (r1, r2, r3) := by first | (rw [hy129]; with_reducible exact H) | (have H2_ := (Option.bind_some _ _).symm.trans H; rw [hy129]; with_reducible exact H2_) | (have H2_ := (Option.bind_some _ _).symm.trans H; with_reducible exact H2_) | with_reducible exact H | (rw [hy129]; exact H) | exact H
                                            have Ny129 := Aside0.mk hy129
                                            clear hy129
                                            by_cases c32 : 0 ≤ x12_4
                                            · rw [if_pos c32] at H
                                              have c32b0 : decide (0 ≤ x12_4) = true := decide_eq_true c32
                                              clear c32
                                              by_cases c33 : x12_4 < (y129.length : Int)
                                              · rw [if_pos c33] at H
                                                have c33b0 : decide (x12_4 < (y129.length : Int)) = true := decide_eq_true c33
                                                clear c33
                                                by_cases c34 : (rdOf ByteArray.empty t121 2).toList = (rdOf ByteArray.empty y129 x12_4).toList
                                                · rw [if_pos c34] at H
                                                  have c34b0 : ((rdOf ByteArray.empty t121 2).toList == (rdOf ByteArray.empty y129 x12_4).toList) = true := beq_iff_eq.mpr c34
                                                  have c34b1 : ((rdOf ByteArray.empty t121 2).toList != (rdOf ByteArray.empty y129 x12_4).toList) = false := bne_eq_false_iff_eq.mpr c34
                                                  clear c34
                                                  have H' := Aside0.mk H
                                                  clear H
                                                  try go_wp2
                                                  have pi132 : (0 ≤ (x12_4 : Int)) = True := eq_true (of_decide_eq_true (by first | (with_reducible assumption) | assumption))
                                                  have qi132 : (x12_4 < (y129.length : Int)) = True := eq_true (of_decide_eq_true (by first | (with_reducible assumption) | assumption))
                                                  have n0_ := Aside0.mk (Kd.R_drew HO_5.out)
                                                  have n1_ := Aside0.mk (Kd.R_drew HO_10.out)
                                                  have n2_ := Aside0.mk (blk_drew BK127.out)
                                                  have n3_ := Aside0.mk (below_drew1 HB.out)
                                                  clear HO_5
                                                  clear HO_10
                                                  clear BK127
                                                  clear HB
                                                  have HO_5 := n0_
                                                  have HO_10 := n1_
                                                  have BK127 := n2_
                                                  have HB := n3_
                                                  clear n0_ n1_ n2_ n3_
                                                  have p128 : 0 ≤ (2 : Int) := (by omega)
                                                  have q128 : 2 < (t121.length : Int) := of_decide_eq_true (by first | (with_reducible assumption) | assumption)
                                                  obtain ⟨ad128, e128, hx128_0⟩ := Kd.at_string (Kd.R_reads' HO_10.out).2.2 2 p128 q128
                                                  obtain rfl : ad124 = ad128 := (by injection e128)
                                                  (try simp only [show (2 : Int).toNat = 2 from rfl, Nat.reduceMul, Nat.reduceEqDiff, Go.Addr.add, ↓reduceIte] at hx128_0)
                                                  have qi128 : (2 < t121.length) = True := eq_true (by omega)
                                                  (try rw [show ((2 : Int)).toNat = 2 from rfl] at hx128_0)
                                                  replace p128 := eq_true p128
                                                  replace q128 := eq_true q128
                                                  refine start_ (n := 8) (S := fun w' => w'.cell? ⟨ad124.block, ad124.off + 2, none⟩ = some (.string (rdOf ByteArray.empty t121 2))) (ds := []) #[false, false, false, false, false, false, false, false] (by kernel_rfl) rfl rfl (hx128_0) (fun hHeld => ?_); refine with_tabW escutcheonref14_Rules.tab19 escutcheonref14_Rules.bits19 (fun HT_ HW_ => ?_)
                                                  generalize wr.drew = w35 at HO_5 HO_10 BK127 HB hx128_0 hHeld ⊢
                                                  refine pure_ (i := 0) (N := some 66) (v := ?_) (a' := ?_) #[true, false, false, false, false, false, false, false] rfl rfl (any_of HT_.out (by kernel_rfl)) (fun _ _ _ h => h) (Or.inl ⟨by rfl, ?_⟩) ?_ ?_
                                                  rotate_left
                                                  · intro w'
                                                    go_simp
                                                    with_reducible rfl
                                                  rotate_left
                                                  · simp only [Act.put, List.setIfInBounds_toArray, List.set_cons_zero, List.set_cons_succ, i64_w, i32_w]
                                                    rfl
                                                  refine pure_ (i := 1) (N := some 67) (v := ?_) (a' := ?_) #[true, true, false, false, false, false, false, false] rfl rfl (any_of HT_.out (by kernel_rfl)) (fun _ _ _ h => h) (Or.inl ⟨by rfl, ?_⟩) ?_ ?_
                                                  rotate_left
                                                  · intro w'
                                                    go_simp
                                                    with_reducible rfl
                                                  rotate_left
                                                  · simp only [Act.put, List.setIfInBounds_toArray, List.set_cons_zero, List.set_cons_succ, i64_w, i32_w]
                                                    rfl
                                                  refine pure_ (i := 4) (N := some 70) (v := ?_) (a' := ?_) #[true, true, false, false, true, false, false, false] rfl rfl (any_of HT_.out (by kernel_rfl)) (fun _ _ _ h => h) (Or.inl ⟨by rfl, ?_⟩) ?_ ?_
                                                  rotate_left
                                                  · intro w'
                                                    go_simp
                                                    with_reducible rfl
                                                  rotate_left
                                                  · simp only [Act.put, List.setIfInBounds_toArray, List.set_cons_zero, List.set_cons_succ, i64_w, i32_w]
                                                    rfl
                                                  refine take_ (i := 2) (N := some 68) (v := ?_) (a' := ?_) #[true, true, true, false, true, false, false, false] rfl rfl (take_ofW HT_.out HW_.out (by kernel_rfl)) (fun _ _ _ h => h) (Or.inl ⟨by rfl, ?_⟩) hHeld ?_ ?_
                                                  rotate_left
                                                  · intro w' s0
                                                    go_simp
                                                    with_reducible rfl
                                                  rotate_left
                                                  · simp only [Act.put, List.setIfInBounds_toArray, List.set_cons_zero, List.set_cons_succ, i64_w, i32_w]
                                                    rfl
                                                  refine one_ (i := 3) (N := some 69) #[true, true, true, true, true, false, false, false] rfl rfl (one_of HT_.out (by kernel_rfl)) (by decide) (fun K hK => ?_)
                                                  refine Kd.R_lit_step Kd.string _ 9 ?hg (N := 69) ?hd (xs := ([(⟨#[97, 110, 121]⟩ : ByteArray), (⟨#[114, 101, 97, 100]⟩ : ByteArray), (⟨#[119, 114, 105, 116, 101]⟩ : ByteArray), (⟨#[97, 100, 109, 105, 110]⟩ : ByteArray)] : List ByteArray)) (inner := [.string (⟨#[97, 110, 121]⟩ : ByteArray), .string (⟨#[114, 101, 97, 100]⟩ : ByteArray), .string (⟨#[119, 114, 105, 116, 101]⟩ : ByteArray), .string (⟨#[97, 100, 109, 105, 110]⟩ : ByteArray)]) (ok := fun _ => True) (okp := fun _ => True) ?hr ?hp (fun _ hk => hk) trivial (Below.refl _ _) (Nat.le_refl _) (by simp) ?_; (case hd => rfl); (case hg => rfl); (case hr => first | (go_simp; done) | (go_simp; rfl)); (case hp => exact (Reps.one (show Kd.M Kd.string _ _ _ (⟨#[97, 110, 121]⟩ : ByteArray) [.string (⟨#[97, 110, 121]⟩ : ByteArray)] from rfl) (Reps.one (show Kd.M Kd.string _ _ _ (⟨#[114, 101, 97, 100]⟩ : ByteArray) [.string (⟨#[114, 101, 97, 100]⟩ : ByteArray)] from rfl) (Reps.one (show Kd.M Kd.string _ _ _ (⟨#[119, 114, 105, 116, 101]⟩ : ByteArray) [.string (⟨#[119, 114, 105, 116, 101]⟩ : ByteArray)] from rfl) (Reps.one (show Kd.M Kd.string _ _ _ (⟨#[97, 100, 109, 105, 110]⟩ : ByteArray) [.string (⟨#[97, 100, 109, 105, 110]⟩ : ByteArray)] from rfl) (Reps.none _ _))))))
                                                  intro v130 w36 ho37 hb hg_ hnew_
                                                  have HS0_ := (hb.cell (World.block_lt_of_cell? _ _ (hHeld))).trans (hHeld)
                                                  clear hg_ hnew_
                                                  (first | rw [← Ny129.out] at ho37 | (simp only [Int.reduceToNat] at ho37; rw [← Ny129.out] at ho37))
                                                  have n0_ := Aside0.mk (Kd.R_below (by (with_reducible repeat (first | apply Kd.R_alloc | apply Kd.R_drewN | apply Kd.R_drew)); exact HO_5.out) hb)
                                                  have n1_ := Aside0.mk (Kd.R_elder' (by (with_reducible repeat (first | apply Kd.R_alloc | apply Kd.R_drewN | apply Kd.R_drew)); exact HO_10.out) (Kd.R_base ho37) hb)
                                                  have n2_ := Aside0.mk (Kd.R_lower (Kd.R_new' ho37 (Kd.R_lt (by (with_reducible repeat (first | apply Kd.R_alloc | apply Kd.R_drewN | apply Kd.R_drew)); exact HO_10.out))) (below_size (by repeat (first | (with_reducible first | exact HB.out | apply below_alloc | apply pw_below_drewN | apply below_drew1 | refine below_set ?_ GE127.out) | exact HB.out))))
                                                  have n3_ := Aside0.mk (blk_below (g := gb127) (o := .cells #[.bool ((rdOf ByteArray.empty t121 0).toList == ([97, 108, 108, 111, 119] : List UInt8)), .string (rdOf ByteArray.empty t121 1), .int .i64 x128002_4, .string (rdOf ByteArray.empty t121 3)] 45 (0, 0)) (by (with_reducible repeat (first | refine blk_drewN ?_ _ | refine blk_drew ?_ | refine blk_alloc ?_ _)); exact BK127.out) hb)
                                                  have n4_ := Aside0.mk (below_step (by repeat (first | (with_reducible first | exact HB.out | apply below_alloc | apply pw_below_drewN | apply below_drew1 | refine below_set ?_ GE127.out) | exact HB.out)) hb)
                                                  clear HO_5
                                                  clear HO_10
                                                  clear BK127
                                                  clear HB
                                                  have HO_5 := n0_
                                                  have HO_10 := n1_
                                                  have HO131 := n2_
                                                  have BK127 := n3_
                                                  have HB := n4_
                                                  clear n0_ n1_ n2_ n3_ n4_
                                                  clear hb ho37
                                                  obtain ⟨Ao38, co38, eo38⟩ := Kd.R_slice HO131.out
                                                  subst eo38
                                                  obtain ⟨ado38, fo38, _⟩ := Kd.at_string (Kd.R_reads' HO131.out).2.2 0 (by decide) (by rw [Ny129.out]; simp)
                                                  cases fo38
                                                  refine hK.out _ _ (HS0_) (fun hHeld => ?_)
                                                  clear hK K
                                                  refine norm_ (a' := ?_) ?_ ?_
                                                  rotate_left
                                                  · show Act.put _ (some 69) _ = _
                                                    simp only [Act.put, List.setIfInBounds_toArray, List.set_cons_zero, List.set_cons_succ, i64_w, i32_w]
                                                    rfl
                                                  refine pure_ (i := 5) (N := some 71) (v := ?_) (a' := ?_) #[true, true, true, true, true, true, false, false] rfl rfl (any_of HT_.out (by kernel_rfl)) (fun _ _ _ h => h) (Or.inl ⟨by rfl, ?_⟩) ?_ ?_
                                                  rotate_left
                                                  · intro w'
                                                    go_simp
                                                    with_reducible rfl
                                                  rotate_left
                                                  · simp only [Act.put, List.setIfInBounds_toArray, List.set_cons_zero, List.set_cons_succ, i64_w, i32_w]
                                                    rfl
                                                  refine one_ (i := 6) (N := some 72) #[true, true, true, true, true, true, true, false] rfl rfl (one_of HT_.out (by kernel_rfl)) (by decide) (fun K hK => ?_)
                                                  (have p132 : 0 ≤ (x12_4 : Int) := of_decide_eq_true (by first | (with_reducible assumption) | assumption); have q132 : x12_4 < (y129.length : Int) := of_decide_eq_true (by first | (with_reducible assumption) | assumption); obtain ⟨ad132, e132, hx132_0⟩ := Kd.at_string (Kd.R_reads' HO131.out).2.2 x12_4 p132 q132; obtain rfl : ado38 = ad132 := (by injection e132))
                                                  refine value_ (w1 := ?_) (v := ?_) (by rfl) rfl ?_ ?_
                                                  rotate_left 2
                                                  · go_simp
                                                    constructor
                                                    · rfl
                                                    · rfl
                                                  clear hx132_0
                                                  refine hK.out _ _ (hHeld) (fun hHeld => ?_)
                                                  clear hK K
                                                  refine norm_ (a' := ?_) ?_ ?_
                                                  rotate_left
                                                  · show Act.put _ (some 72) _ = _
                                                    simp only [Act.put, List.setIfInBounds_toArray, List.set_cons_zero, List.set_cons_succ, i64_w, i32_w]
                                                    rfl
                                                  refine pure_ (i := 7) (N := some 73) (v := ?_) (a' := ?_) #[true, true, true, true, true, true, true, true] rfl rfl (any_of HT_.out (by kernel_rfl)) (fun _ _ _ h => h) (Or.inl ⟨by rfl, ?_⟩) ?_ ?_
                                                  rotate_left
                                                  · intro w'
                                                    go_simp
                                                    with_reducible rfl
                                                  rotate_left
                                                  · simp only [Act.put, List.setIfInBounds_toArray, List.set_cons_zero, List.set_cons_succ, i64_w, i32_w]
                                                    rfl
                                                  refine done_ (done_of HT_.out (by kernel_rfl)) ?_
                                                  have hcz39_0 : w36.cell? ⟨gb127, 0, none⟩ = some (.bool ((rdOf ByteArray.empty t121 0).toList == ([97, 108, 108, 111, 119] : List UInt8))) := (blk_cell BK127.out 0).trans rfl
                                                  have hcz39_1 : w36.cell? ⟨gb127, 1, none⟩ = some (.string (rdOf ByteArray.empty t121 1)) := (blk_cell BK127.out 1).trans rfl
                                                  have hcz39_2 : w36.cell? ⟨gb127, 2, none⟩ = some (.int .i64 x128002_4) := (blk_cell BK127.out 2).trans rfl
                                                  have hcz39_3 : w36.cell? ⟨gb127, 3, none⟩ = some (.string (rdOf ByteArray.empty t121 3)) := (blk_cell BK127.out 3).trans rfl
                                                  have hfz39_0 := blk_frozen BK127.out 0
                                                  have hfz39_1 := blk_frozen BK127.out 1
                                                  have hfz39_2 := blk_frozen BK127.out 2
                                                  have hfz39_3 := blk_frozen BK127.out 3
                                                  try go_wp2
                                                  go_roundg k4
                                                  case measure => have := HK1.out; have := HJ3.out; have := HJ11.out; have := HK4.out; omega
                                                  case rel => exact ⟨(wrap64 (x12_4 + 1)), (x12_4), (by first | rfl | (simp; done) | (simp [*]; done)), H', ⟨by have := HK1.out; have := HJ3.out; have := HJ11.out; have := HK4.out; omega⟩, ⟨by (with_reducible repeat (first | apply Kd.R_alloc | apply Kd.R_drewN | apply Kd.R_drew)); exact Kd.R_mono (Kd.R_far (p := ⟨gb127, 2, none⟩) (Kd.R_mono HO_5.out (fun k_ hk => (⟨hk, hk⟩ : _ ∧ k_ ≠ gb127))) (fun _ hk => hk.2) (.int .i64 x12_4)) (fun _ hk => hk.1)⟩, ⟨by (with_reducible repeat (first | apply Kd.R_alloc | apply Kd.R_drewN | apply Kd.R_drew)); exact Kd.R_mono (Kd.R_far (p := ⟨gb127, 2, none⟩) (Kd.R_types HO_10.out BK127.out (by decide)) (fun _ hk => hk.2) (.int .i64 x12_4)) (fun _ hk => trivial)⟩, ⟨by (with_reducible repeat (first | refine blk_drewN ?_ _ | refine blk_drew ?_ | refine blk_alloc ?_ _)); refine blk_put (cs := #[.bool ((rdOf ByteArray.empty t121 0).toList == ([97, 108, 108, 111, 119] : List UInt8)), .string (rdOf ByteArray.empty t121 1), .int .i64 x128002_4, .string (rdOf ByteArray.empty t121 3)]) ?_ 2 _ rfl; (with_reducible repeat (first | refine blk_drewN ?_ _ | refine blk_drew ?_ | refine blk_alloc ?_ _)); exact BK127.out⟩, ⟨by repeat (first | (with_reducible first | exact HB.out | apply below_alloc | apply pw_below_drewN | apply below_drew1 | refine below_set ?_ GE127.out) | exact HB.out)⟩⟩
                                                · rw [if_neg c34] at H
                                                  have c34b0 : ((rdOf ByteArray.empty t121 2).toList == (rdOf ByteArray.empty y129 x12_4).toList) = false := beq_eq_false_iff_ne.mpr c34
                                                  have c34b1 : ((rdOf ByteArray.empty t121 2).toList != (rdOf ByteArray.empty y129 x12_4).toList) = true := bne_iff_ne.mpr c34
                                                  have H' := Aside0.mk H
                                                  clear H
                                                  try go_wp2
                                                  have pi132 : (0 ≤ (x12_4 : Int)) = True := eq_true (of_decide_eq_true (by first | (with_reducible assumption) | assumption))
                                                  have qi132 : (x12_4 < (y129.length : Int)) = True := eq_true (of_decide_eq_true (by first | (with_reducible assumption) | assumption))
                                                  have n0_ := Aside0.mk (Kd.R_drew HO_5.out)
                                                  have n1_ := Aside0.mk (Kd.R_drew HO_10.out)
                                                  have n2_ := Aside0.mk (blk_drew BK127.out)
                                                  have n3_ := Aside0.mk (below_drew1 HB.out)
                                                  clear HO_5
                                                  clear HO_10
                                                  clear BK127
                                                  clear HB
                                                  have HO_5 := n0_
                                                  have HO_10 := n1_
                                                  have BK127 := n2_
                                                  have HB := n3_
                                                  clear n0_ n1_ n2_ n3_
                                                  have p128 : 0 ≤ (2 : Int) := (by omega)
                                                  have q128 : 2 < (t121.length : Int) := of_decide_eq_true (by first | (with_reducible assumption) | assumption)
                                                  obtain ⟨ad128, e128, hx128_0⟩ := Kd.at_string (Kd.R_reads' HO_10.out).2.2 2 p128 q128
                                                  obtain rfl : ad124 = ad128 := (by injection e128)
                                                  (try simp only [show (2 : Int).toNat = 2 from rfl, Nat.reduceMul, Nat.reduceEqDiff, Go.Addr.add, ↓reduceIte] at hx128_0)
                                                  have qi128 : (2 < t121.length) = True := eq_true (by omega)
                                                  (try rw [show ((2 : Int)).toNat = 2 from rfl] at hx128_0)
                                                  replace p128 := eq_true p128
                                                  replace q128 := eq_true q128
                                                  refine start_ (n := 8) (S := fun w' => w'.cell? ⟨ad124.block, ad124.off + 2, none⟩ = some (.string (rdOf ByteArray.empty t121 2))) (ds := []) #[false, false, false, false, false, false, false, false] (by kernel_rfl) rfl rfl (hx128_0) (fun hHeld => ?_); refine with_tabW escutcheonref14_Rules.tab19 escutcheonref14_Rules.bits19 (fun HT_ HW_ => ?_)
                                                  generalize wr.drew = w40 at HO_5 HO_10 BK127 HB hx128_0 hHeld ⊢
                                                  refine pure_ (i := 0) (N := some 66) (v := ?_) (a' := ?_) #[true, false, false, false, false, false, false, false] rfl rfl (any_of HT_.out (by kernel_rfl)) (fun _ _ _ h => h) (Or.inl ⟨by rfl, ?_⟩) ?_ ?_
                                                  rotate_left
                                                  · intro w'
                                                    go_simp
                                                    with_reducible rfl
                                                  rotate_left
                                                  · simp only [Act.put, List.setIfInBounds_toArray, List.set_cons_zero, List.set_cons_succ, i64_w, i32_w]
                                                    rfl
                                                  refine pure_ (i := 1) (N := some 67) (v := ?_) (a' := ?_) #[true, true, false, false, false, false, false, false] rfl rfl (any_of HT_.out (by kernel_rfl)) (fun _ _ _ h => h) (Or.inl ⟨by rfl, ?_⟩) ?_ ?_
                                                  rotate_left
                                                  · intro w'
                                                    go_simp
                                                    with_reducible rfl
                                                  rotate_left
                                                  · simp only [Act.put, List.setIfInBounds_toArray, List.set_cons_zero, List.set_cons_succ, i64_w, i32_w]
                                                    rfl
                                                  refine pure_ (i := 4) (N := some 70) (v := ?_) (a' := ?_) #[true, true, false, false, true, false, false, false] rfl rfl (any_of HT_.out (by kernel_rfl)) (fun _ _ _ h => h) (Or.inl ⟨by rfl, ?_⟩) ?_ ?_
                                                  rotate_left
                                                  · intro w'
                                                    go_simp
                                                    with_reducible rfl
                                                  rotate_left
                                                  · simp only [Act.put, List.setIfInBounds_toArray, List.set_cons_zero, List.set_cons_succ, i64_w, i32_w]
                                                    rfl
                                                  refine take_ (i := 2) (N := some 68) (v := ?_) (a' := ?_) #[true, true, true, false, true, false, false, false] rfl rfl (take_ofW HT_.out HW_.out (by kernel_rfl)) (fun _ _ _ h => h) (Or.inl ⟨by rfl, ?_⟩) hHeld ?_ ?_
                                                  rotate_left
                                                  · intro w' s0
                                                    go_simp
                                                    with_reducible rfl
                                                  rotate_left
                                                  · simp only [Act.put, List.setIfInBounds_toArray, List.set_cons_zero, List.set_cons_succ, i64_w, i32_w]
                                                    rfl
                                                  refine one_ (i := 3) (N := some 69) #[true, true, true, true, true, false, false, false] rfl rfl (one_of HT_.out (by kernel_rfl)) (by decide) (fun K hK => ?_)
                                                  refine Kd.R_lit_step Kd.string _ 9 ?hg (N := 69) ?hd (xs := ([(⟨#[97, 110, 121]⟩ : ByteArray), (⟨#[114, 101, 97, 100]⟩ : ByteArray), (⟨#[119, 114, 105, 116, 101]⟩ : ByteArray), (⟨#[97, 100, 109, 105, 110]⟩ : ByteArray)] : List ByteArray)) (inner := [.string (⟨#[97, 110, 121]⟩ : ByteArray), .string (⟨#[114, 101, 97, 100]⟩ : ByteArray), .string (⟨#[119, 114, 105, 116, 101]⟩ : ByteArray), .string (⟨#[97, 100, 109, 105, 110]⟩ : ByteArray)]) (ok := fun _ => True) (okp := fun _ => True) ?hr ?hp (fun _ hk => hk) trivial (Below.refl _ _) (Nat.le_refl _) (by simp) ?_; (case hd => rfl); (case hg => rfl); (case hr => first | (go_simp; done) | (go_simp; rfl)); (case hp => exact (Reps.one (show Kd.M Kd.string _ _ _ (⟨#[97, 110, 121]⟩ : ByteArray) [.string (⟨#[97, 110, 121]⟩ : ByteArray)] from rfl) (Reps.one (show Kd.M Kd.string _ _ _ (⟨#[114, 101, 97, 100]⟩ : ByteArray) [.string (⟨#[114, 101, 97, 100]⟩ : ByteArray)] from rfl) (Reps.one (show Kd.M Kd.string _ _ _ (⟨#[119, 114, 105, 116, 101]⟩ : ByteArray) [.string (⟨#[119, 114, 105, 116, 101]⟩ : ByteArray)] from rfl) (Reps.one (show Kd.M Kd.string _ _ _ (⟨#[97, 100, 109, 105, 110]⟩ : ByteArray) [.string (⟨#[97, 100, 109, 105, 110]⟩ : ByteArray)] from rfl) (Reps.none _ _))))))
                                                  intro v130 w41 ho42 hb hg_ hnew_
                                                  have HS0_ := (hb.cell (World.block_lt_of_cell? _ _ (hHeld))).trans (hHeld)
                                                  clear hg_ hnew_
                                                  (first | rw [← Ny129.out] at ho42 | (simp only [Int.reduceToNat] at ho42; rw [← Ny129.out] at ho42))
                                                  have n0_ := Aside0.mk (Kd.R_below (by (with_reducible repeat (first | apply Kd.R_alloc | apply Kd.R_drewN | apply Kd.R_drew)); exact HO_5.out) hb)
                                                  have n1_ := Aside0.mk (Kd.R_elder' (by (with_reducible repeat (first | apply Kd.R_alloc | apply Kd.R_drewN | apply Kd.R_drew)); exact HO_10.out) (Kd.R_base ho42) hb)
                                                  have n2_ := Aside0.mk (Kd.R_lower (Kd.R_new' ho42 (Kd.R_lt (by (with_reducible repeat (first | apply Kd.R_alloc | apply Kd.R_drewN | apply Kd.R_drew)); exact HO_10.out))) (below_size (by repeat (first | (with_reducible first | exact HB.out | apply below_alloc | apply pw_below_drewN | apply below_drew1 | refine below_set ?_ GE127.out) | exact HB.out))))
                                                  have n3_ := Aside0.mk (blk_below (g := gb127) (o := .cells #[.bool ((rdOf ByteArray.empty t121 0).toList == ([97, 108, 108, 111, 119] : List UInt8)), .string (rdOf ByteArray.empty t121 1), .int .i64 x128002_4, .string (rdOf ByteArray.empty t121 3)] 45 (0, 0)) (by (with_reducible repeat (first | refine blk_drewN ?_ _ | refine blk_drew ?_ | refine blk_alloc ?_ _)); exact BK127.out) hb)
                                                  have n4_ := Aside0.mk (below_step (by repeat (first | (with_reducible first | exact HB.out | apply below_alloc | apply pw_below_drewN | apply below_drew1 | refine below_set ?_ GE127.out) | exact HB.out)) hb)
                                                  clear HO_5
                                                  clear HO_10
                                                  clear BK127
                                                  clear HB
                                                  have HO_5 := n0_
                                                  have HO_10 := n1_
                                                  have HO131 := n2_
                                                  have BK127 := n3_
                                                  have HB := n4_
                                                  clear n0_ n1_ n2_ n3_ n4_
                                                  clear hb ho42
                                                  obtain ⟨Ao43, co43, eo43⟩ := Kd.R_slice HO131.out
                                                  subst eo43
                                                  obtain ⟨ado43, fo43, _⟩ := Kd.at_string (Kd.R_reads' HO131.out).2.2 0 (by decide) (by rw [Ny129.out]; simp)
                                                  cases fo43
                                                  refine hK.out _ _ (HS0_) (fun hHeld => ?_)
                                                  clear hK K
                                                  refine norm_ (a' := ?_) ?_ ?_
                                                  rotate_left
                                                  · show Act.put _ (some 69) _ = _
                                                    simp only [Act.put, List.setIfInBounds_toArray, List.set_cons_zero, List.set_cons_succ, i64_w, i32_w]
                                                    rfl
                                                  refine pure_ (i := 5) (N := some 71) (v := ?_) (a' := ?_) #[true, true, true, true, true, true, false, false] rfl rfl (any_of HT_.out (by kernel_rfl)) (fun _ _ _ h => h) (Or.inl ⟨by rfl, ?_⟩) ?_ ?_
                                                  rotate_left
                                                  · intro w'
                                                    go_simp
                                                    with_reducible rfl
                                                  rotate_left
                                                  · simp only [Act.put, List.setIfInBounds_toArray, List.set_cons_zero, List.set_cons_succ, i64_w, i32_w]
                                                    rfl
                                                  refine one_ (i := 6) (N := some 72) #[true, true, true, true, true, true, true, false] rfl rfl (one_of HT_.out (by kernel_rfl)) (by decide) (fun K hK => ?_)
                                                  (have p132 : 0 ≤ (x12_4 : Int) := of_decide_eq_true (by first | (with_reducible assumption) | assumption); have q132 : x12_4 < (y129.length : Int) := of_decide_eq_true (by first | (with_reducible assumption) | assumption); obtain ⟨ad132, e132, hx132_0⟩ := Kd.at_string (Kd.R_reads' HO131.out).2.2 x12_4 p132 q132; obtain rfl : ado43 = ad132 := (by injection e132))
                                                  refine value_ (w1 := ?_) (v := ?_) (by rfl) rfl ?_ ?_
                                                  rotate_left 2
                                                  · go_simp
                                                    constructor
                                                    · rfl
                                                    · rfl
                                                  clear hx132_0
                                                  refine hK.out _ _ (hHeld) (fun hHeld => ?_)
                                                  clear hK K
                                                  refine norm_ (a' := ?_) ?_ ?_
                                                  rotate_left
                                                  · show Act.put _ (some 72) _ = _
                                                    simp only [Act.put, List.setIfInBounds_toArray, List.set_cons_zero, List.set_cons_succ, i64_w, i32_w]
                                                    rfl
                                                  refine pure_ (i := 7) (N := some 73) (v := ?_) (a' := ?_) #[true, true, true, true, true, true, true, true] rfl rfl (any_of HT_.out (by kernel_rfl)) (fun _ _ _ h => h) (Or.inl ⟨by rfl, ?_⟩) ?_ ?_
                                                  rotate_left
                                                  · intro w'
                                                    go_simp
                                                    with_reducible rfl
                                                  rotate_left
                                                  · simp only [Act.put, List.setIfInBounds_toArray, List.set_cons_zero, List.set_cons_succ, i64_w, i32_w]
                                                    rfl
                                                  refine done_ (done_of HT_.out (by kernel_rfl)) ?_
                                                  try go_wp2
                                                  go_roundg k4
                                                  case measure => have := HK1.out; have := HJ3.out; have := HJ11.out; have := HK4.out; omega
                                                  case rel => exact ⟨(wrap64 (x12_4 + 1)), (x128002_4), (by first | rfl | (simp; done) | (simp [*]; done)), H', ⟨by have := HK1.out; have := HJ3.out; have := HJ11.out; have := HK4.out; omega⟩, ⟨by (with_reducible repeat (first | apply Kd.R_alloc | apply Kd.R_drewN | apply Kd.R_drew)); exact HO_5.out⟩, ⟨by (with_reducible repeat (first | apply Kd.R_alloc | apply Kd.R_drewN | apply Kd.R_drew)); exact Kd.R_mono HO_10.out (fun _ hk => trivial)⟩, ⟨by (with_reducible repeat (first | refine blk_drewN ?_ _ | refine blk_drew ?_ | refine blk_alloc ?_ _)); exact BK127.out⟩, ⟨by repeat (first | (with_reducible first | exact HB.out | apply below_alloc | apply pw_below_drewN | apply below_drew1 | refine below_set ?_ GE127.out) | exact HB.out)⟩⟩
                                              · rw [if_neg c33] at H
                                                exact absurd H (by simp)
                                            · rw [if_neg c32] at H
                                              exact absurd H (by simp)
                                          · rw [if_neg c31] at H
                                            exact absurd H (by simp)
                                        · rw [if_neg c30] at H
                                          have c30b0 : decide (x12_4 < 4) = false := decide_eq_false c30
                                          clear c30
                                          replace H := Option.bind_eq_some_iff.mp H
                                          obtain ⟨t133, A440, H⟩ := H
                                          replace H : (if t133 = true then ((escutcheonref14_Line.f ((rdOf ByteArray.empty t121 0).toList == ([97, 108, 108, 111, 119] : List UInt8)) (rdOf ByteArray.empty t121 1) x128002_4 (rdOf ByteArray.empty t121 3)).bind fun t134 => (if t134.toList = (a0.extract (x7_1 : Int).toNat (x8_1 : Int).toNat).toList then (if (x5_1.length : Int) ≥ 40 then (some (([] : List (S45)), x6_1, false)) else (if x5_1.length < 2932031007402 then (escutcheonref14_Rules.l0 k4 a0 (x5_1 ++ [(⟨((rdOf ByteArray.empty t121 0).toList == ([97, 108, 108, 111, 119] : List UInt8)), (rdOf ByteArray.empty t121 1), x128002_4, (rdOf ByteArray.empty t121 3)⟩ : S45)]) (wrap64 (x6_1 + 1)) (wrap64 (x8_1 + 1)) (wrap64 (x8_1 + 1))) else (none))) else (some (([] : List (S45)), x6_1, false)))) else (some (([] : List (S45)), x6_1, false))) = some (r1, r2, r3) := H
                                          have A44 := Aside0.mk A440
                                          clear A440
                                          by_cases c45 : t133 = true
                                          · subst c45
                                            have H1 : ((escutcheonref14_Line.f ((rdOf ByteArray.empty t121 0).toList == ([97, 108, 108, 111, 119] : List UInt8)) (rdOf ByteArray.empty t121 1) x128002_4 (rdOf ByteArray.empty t121 3)).bind fun t134 => (if t134.toList = (a0.extract (x7_1 : Int).toNat (x8_1 : Int).toNat).toList then (if (x5_1.length : Int) ≥ 40 then (some (([] : List (S45)), x6_1, false)) else (if x5_1.length < 2932031007402 then (escutcheonref14_Rules.l0 k4 a0 (x5_1 ++ [(⟨((rdOf ByteArray.empty t121 0).toList == ([97, 108, 108, 111, 119] : List UInt8)), (rdOf ByteArray.empty t121 1), x128002_4, (rdOf ByteArray.empty t121 3)⟩ : S45)]) (wrap64 (x6_1 + 1)) (wrap64 (x8_1 + 1)) (wrap64 (x8_1 + 1))) else (none))) else (some (([] : List (S45)), x6_1, false)))) = some (r1, r2, r3) := by rw [if_pos rfl] at H; exact H
                                            clear H
                                            have H := H1
                                            clear H1
                                            replace H := Option.bind_eq_some_iff.mp H
                                            obtain ⟨t134, A460, H⟩ := H
                                            replace H : (if t134.toList = (a0.extract (x7_1 : Int).toNat (x8_1 : Int).toNat).toList then (if (x5_1.length : Int) ≥ 40 then (some (([] : List (S45)), x6_1, false)) else (if x5_1.length < 2932031007402 then (escutcheonref14_Rules.l0 k4 a0 (x5_1 ++ [(⟨((rdOf ByteArray.empty t121 0).toList == ([97, 108, 108, 111, 119] : List UInt8)), (rdOf ByteArray.empty t121 1), x128002_4, (rdOf ByteArray.empty t121 3)⟩ : S45)]) (wrap64 (x6_1 + 1)) (wrap64 (x8_1 + 1)) (wrap64 (x8_1 + 1))) else (none))) else (some (([] : List (S45)), x6_1, false))) = some (r1, r2, r3) := H
                                            have A46 := Aside0.mk A460
                                            clear A460
                                            by_cases c47 : t134.toList = (a0.extract (x7_1 : Int).toNat (x8_1 : Int).toNat).toList
                                            · rw [if_pos c47] at H
                                              have c47b0 : (t134.toList == (a0.extract (x7_1 : Int).toNat (x8_1 : Int).toNat).toList) = true := beq_iff_eq.mpr c47
                                              have c47b1 : (t134.toList != (a0.extract (x7_1 : Int).toNat (x8_1 : Int).toNat).toList) = false := bne_eq_false_iff_eq.mpr c47
                                              clear c47
                                              by_cases c48 : (x5_1.length : Int) ≥ 40
                                              · rw [if_pos c48] at H
                                                have c48b0 : decide (40 ≤ (x5_1.length : Int)) = true := decide_eq_true c48
                                                have c48b1 : decide (40 ≤ x5_1.length) = true := decide_eq_true (by omega)
                                                clear c48
                                                simp only [Option.some.injEq, Prod.mk.injEq] at H
                                                obtain ⟨rfl, rfl, rfl⟩ := H
                                                have hcz49_0 : wr.cell? ⟨gb127, 0, none⟩ = some (.bool ((rdOf ByteArray.empty t121 0).toList == ([97, 108, 108, 111, 119] : List UInt8))) := (blk_cell BK127.out 0).trans rfl
                                                have hcz49_1 : wr.cell? ⟨gb127, 1, none⟩ = some (.string (rdOf ByteArray.empty t121 1)) := (blk_cell BK127.out 1).trans rfl
                                                have hcz49_2 : wr.cell? ⟨gb127, 2, none⟩ = some (.int .i64 x128002_4) := (blk_cell BK127.out 2).trans rfl
                                                have hcz49_3 : wr.cell? ⟨gb127, 3, none⟩ = some (.string (rdOf ByteArray.empty t121 3)) := (blk_cell BK127.out 3).trans rfl
                                                have hfz49_0 := blk_frozen BK127.out 0
                                                have hfz49_1 := blk_frozen BK127.out 1
                                                have hfz49_2 := blk_frozen BK127.out 2
                                                have hfz49_3 := blk_frozen BK127.out 3
                                                go_wp2_with (first | ((with_reducible refine gate_callee (f := 16) rfl ?_); refine goesL_ (some 77) rfl rfl Tryz.func16 (by kernel_rfl) rfl #[.agg #[.bool ((rdOf ByteArray.empty t121 0).toList == ([97, 108, 108, 111, 119] : List UInt8)), .string (rdOf ByteArray.empty t121 1), .int .i64 x128002_4, .string (rdOf ByteArray.empty t121 3)]] rfl (by (try simp only [List.map_toArray, List.map_cons, List.map_nil]); first | done | rfl | (simp only [List.length_drop, List.length_take]; rfl)) ?_; (with_reducible refine (escutcheonref14_Rule.calls k4 ((rdOf ByteArray.empty t121 0).toList == ([97, 108, 108, 111, 119] : List UInt8)) (rdOf ByteArray.empty t121 1) x128002_4 (rdOf ByteArray.empty t121 3) true _ A44.out).mono ?_); rintro e w50 ⟨rfl, hb⟩; refine ⟨_, rfl, ?_⟩; have n0_ := Aside0.mk (Kd.R_below (by (with_reducible repeat (first | apply Kd.R_alloc | apply Kd.R_drewN | apply Kd.R_drew)); exact HO_5.out) hb); have n1_ := Aside0.mk (Kd.R_below (by (with_reducible repeat (first | apply Kd.R_alloc | apply Kd.R_drewN | apply Kd.R_drew)); exact HO_10.out) hb); have n2_ := Aside0.mk (blk_below (g := gb127) (o := .cells #[.bool ((rdOf ByteArray.empty t121 0).toList == ([97, 108, 108, 111, 119] : List UInt8)), .string (rdOf ByteArray.empty t121 1), .int .i64 x128002_4, .string (rdOf ByteArray.empty t121 3)] 45 (0, 0)) (by (with_reducible repeat (first | refine blk_drewN ?_ _ | refine blk_drew ?_ | refine blk_alloc ?_ _)); exact BK127.out) hb); have n3_ := Aside0.mk (below_step (by repeat (first | (with_reducible first | exact HB.out | apply below_alloc | apply pw_below_drewN | apply below_drew1 | refine below_set ?_ GE127.out) | exact HB.out)) hb); clear HO_5; clear HO_10; clear BK127; clear HB; have HO_5 := n0_; have HO_10 := n1_; have BK127 := n2_; have HB := n3_; clear n0_ n1_ n2_ n3_; (try clear hb); (try clear hb2); (try clear hk); (try clear hi); have hcz51_0 : w50.cell? ⟨gb127, 0, none⟩ = some (.bool ((rdOf ByteArray.empty t121 0).toList == ([97, 108, 108, 111, 119] : List UInt8))) := (blk_cell BK127.out 0).trans rfl; have hcz51_1 : w50.cell? ⟨gb127, 1, none⟩ = some (.string (rdOf ByteArray.empty t121 1)) := (blk_cell BK127.out 1).trans rfl; have hcz51_2 : w50.cell? ⟨gb127, 2, none⟩ = some (.int .i64 x128002_4) := (blk_cell BK127.out 2).trans rfl; have hcz51_3 : w50.cell? ⟨gb127, 3, none⟩ = some (.string (rdOf ByteArray.empty t121 3)) := (blk_cell BK127.out 3).trans rfl; have hfz51_0 := blk_frozen BK127.out 0; have hfz51_1 := blk_frozen BK127.out 1; have hfz51_2 := blk_frozen BK127.out 2; have hfz51_3 := blk_frozen BK127.out 3) | (go_at_call 17; (with_reducible refine (escutcheonref14_Line.calls ((rdOf ByteArray.empty t121 0).toList == ([97, 108, 108, 111, 119] : List UInt8)) (rdOf ByteArray.empty t121 1) x128002_4 (rdOf ByteArray.empty t121 3) t134 _ A46.out).mono ?_); rintro e w52 ⟨rfl, hb⟩; have n0_ := Aside0.mk (Kd.R_below (by (with_reducible repeat (first | apply Kd.R_alloc | apply Kd.R_drewN | apply Kd.R_drew)); exact HO_5.out) hb); have n1_ := Aside0.mk (Kd.R_below (by (with_reducible repeat (first | apply Kd.R_alloc | apply Kd.R_drewN | apply Kd.R_drew)); exact HO_10.out) hb); have n2_ := Aside0.mk (blk_below (g := gb127) (o := .cells #[.bool ((rdOf ByteArray.empty t121 0).toList == ([97, 108, 108, 111, 119] : List UInt8)), .string (rdOf ByteArray.empty t121 1), .int .i64 x128002_4, .string (rdOf ByteArray.empty t121 3)] 45 (0, 0)) (by (with_reducible repeat (first | refine blk_drewN ?_ _ | refine blk_drew ?_ | refine blk_alloc ?_ _)); exact BK127.out) hb); have n3_ := Aside0.mk (below_step (by repeat (first | (with_reducible first | exact HB.out | apply below_alloc | apply pw_below_drewN | apply below_drew1 | refine below_set ?_ GE127.out) | exact HB.out)) hb); clear HO_5; clear HO_10; clear BK127; clear HB; have HO_5 := n0_; have HO_10 := n1_; have BK127 := n2_; have HB := n3_; clear n0_ n1_ n2_ n3_; (try clear hb); (try clear hb2); (try clear hk); (try clear hi); obtain ⟨Ao53, co53, eo53⟩ := Kd.R_slice HO_5.out; subst eo53))
                                                go_ret3
                                                exact ⟨_, by first | rfl | (simp [errW_none, errW_some] <;> rfl) | (simp [*, errW_none, errW_some] <;> rfl), by first | exact Kd.R_nil _ _ _ _ _ | exact Kd.N_nil _ _ _ _ _ | exact Kd.V_nil _ _ _ _ _ | exact Kd.Q_nil _ _ _ _ _ | exact Kd.S_nil _ _ _ _ _, by repeat (first | (with_reducible first | exact HB.out | apply below_alloc | apply pw_below_drewN | apply below_drew1 | refine below_set ?_ GE127.out) | exact HB.out)⟩
                                              · rw [if_neg c48] at H
                                                have c48b0 : decide (40 ≤ (x5_1.length : Int)) = false := decide_eq_false c48
                                                have c48b1 : decide (40 ≤ x5_1.length) = false := decide_eq_false (by omega)
                                                clear c48
                                                by_cases c54 : x5_1.length < 2932031007402
                                                · rw [if_pos c54] at H
                                                  have LMc54 := Aside0.mk c54
                                                  clear c54
                                                  obtain ⟨y135, hy135⟩ : ∃ y_ : List (S45), y_ = (x5_1 ++ [(⟨((rdOf ByteArray.empty t121 0).toList == ([97, 108, 108, 111, 119] : List UInt8)), (rdOf ByteArray.empty t121 1), x128002_4, (rdOf ByteArray.empty t121 3)⟩ : S45)]) := ⟨_, rfl⟩
                                                  replace H : (escutcheonref14_Rules.l0 k4 a0 y135 (wrap64 (x6_1 + 1)) (wrap64 (x8_1 + 1)) (wrap64 (x8_1 + 1))) = some (r1, r2, r3) := by first | (rw [hy135]; with_reducible exact H) | (have H2_ := (Option.bind_some _ _).symm.trans H; rw [hy135]; with_reducible exact H2_) | (have H2_ := (Option.bind_some _ _).symm.trans H; with_reducible exact H2_) | with_reducible exact H | (rw [hy135]; exact H) | exact H
                                                  have Ny135 := Aside0.mk hy135
                                                  clear hy135
                                                  have H' := Aside0.mk H
                                                  clear H
                                                  have hcz55_0 : wr.cell? ⟨gb127, 0, none⟩ = some (.bool ((rdOf ByteArray.empty t121 0).toList == ([97, 108, 108, 111, 119] : List UInt8))) := (blk_cell BK127.out 0).trans rfl
                                                  have hcz55_1 : wr.cell? ⟨gb127, 1, none⟩ = some (.string (rdOf ByteArray.empty t121 1)) := (blk_cell BK127.out 1).trans rfl
                                                  have hcz55_2 : wr.cell? ⟨gb127, 2, none⟩ = some (.int .i64 x128002_4) := (blk_cell BK127.out 2).trans rfl
                                                  have hcz55_3 : wr.cell? ⟨gb127, 3, none⟩ = some (.string (rdOf ByteArray.empty t121 3)) := (blk_cell BK127.out 3).trans rfl
                                                  have hfz55_0 := blk_frozen BK127.out 0
                                                  have hfz55_1 := blk_frozen BK127.out 1
                                                  have hfz55_2 := blk_frozen BK127.out 2
                                                  have hfz55_3 := blk_frozen BK127.out 3
                                                  go_wp2_with (first | ((with_reducible refine gate_callee (f := 16) rfl ?_); refine goesL_ (some 77) rfl rfl Tryz.func16 (by kernel_rfl) rfl #[.agg #[.bool ((rdOf ByteArray.empty t121 0).toList == ([97, 108, 108, 111, 119] : List UInt8)), .string (rdOf ByteArray.empty t121 1), .int .i64 x128002_4, .string (rdOf ByteArray.empty t121 3)]] rfl (by (try simp only [List.map_toArray, List.map_cons, List.map_nil]); first | done | rfl | (simp only [List.length_drop, List.length_take]; rfl)) ?_; (with_reducible refine (escutcheonref14_Rule.calls k4 ((rdOf ByteArray.empty t121 0).toList == ([97, 108, 108, 111, 119] : List UInt8)) (rdOf ByteArray.empty t121 1) x128002_4 (rdOf ByteArray.empty t121 3) true _ A44.out).mono ?_); rintro e w56 ⟨rfl, hb⟩; refine ⟨_, rfl, ?_⟩; have n0_ := Aside0.mk (Kd.R_below (by (with_reducible repeat (first | apply Kd.R_alloc | apply Kd.R_drewN | apply Kd.R_drew)); exact HO_5.out) hb); have n1_ := Aside0.mk (Kd.R_below (by (with_reducible repeat (first | apply Kd.R_alloc | apply Kd.R_drewN | apply Kd.R_drew)); exact HO_10.out) hb); have n2_ := Aside0.mk (blk_below (g := gb127) (o := .cells #[.bool ((rdOf ByteArray.empty t121 0).toList == ([97, 108, 108, 111, 119] : List UInt8)), .string (rdOf ByteArray.empty t121 1), .int .i64 x128002_4, .string (rdOf ByteArray.empty t121 3)] 45 (0, 0)) (by (with_reducible repeat (first | refine blk_drewN ?_ _ | refine blk_drew ?_ | refine blk_alloc ?_ _)); exact BK127.out) hb); have n3_ := Aside0.mk (below_step (by repeat (first | (with_reducible first | exact HB.out | apply below_alloc | apply pw_below_drewN | apply below_drew1 | refine below_set ?_ GE127.out) | exact HB.out)) hb); clear HO_5; clear HO_10; clear BK127; clear HB; have HO_5 := n0_; have HO_10 := n1_; have BK127 := n2_; have HB := n3_; clear n0_ n1_ n2_ n3_; (try clear hb); (try clear hb2); (try clear hk); (try clear hi); have hcz57_0 : w56.cell? ⟨gb127, 0, none⟩ = some (.bool ((rdOf ByteArray.empty t121 0).toList == ([97, 108, 108, 111, 119] : List UInt8))) := (blk_cell BK127.out 0).trans rfl; have hcz57_1 : w56.cell? ⟨gb127, 1, none⟩ = some (.string (rdOf ByteArray.empty t121 1)) := (blk_cell BK127.out 1).trans rfl; have hcz57_2 : w56.cell? ⟨gb127, 2, none⟩ = some (.int .i64 x128002_4) := (blk_cell BK127.out 2).trans rfl; have hcz57_3 : w56.cell? ⟨gb127, 3, none⟩ = some (.string (rdOf ByteArray.empty t121 3)) := (blk_cell BK127.out 3).trans rfl; have hfz57_0 := blk_frozen BK127.out 0; have hfz57_1 := blk_frozen BK127.out 1; have hfz57_2 := blk_frozen BK127.out 2; have hfz57_3 := blk_frozen BK127.out 3) | (go_at_call 17; (with_reducible refine (escutcheonref14_Line.calls ((rdOf ByteArray.empty t121 0).toList == ([97, 108, 108, 111, 119] : List UInt8)) (rdOf ByteArray.empty t121 1) x128002_4 (rdOf ByteArray.empty t121 3) t134 _ A46.out).mono ?_); rintro e w58 ⟨rfl, hb⟩; have n0_ := Aside0.mk (Kd.R_below (by (with_reducible repeat (first | apply Kd.R_alloc | apply Kd.R_drewN | apply Kd.R_drew)); exact HO_5.out) hb); have n1_ := Aside0.mk (Kd.R_below (by (with_reducible repeat (first | apply Kd.R_alloc | apply Kd.R_drewN | apply Kd.R_drew)); exact HO_10.out) hb); have n2_ := Aside0.mk (blk_below (g := gb127) (o := .cells #[.bool ((rdOf ByteArray.empty t121 0).toList == ([97, 108, 108, 111, 119] : List UInt8)), .string (rdOf ByteArray.empty t121 1), .int .i64 x128002_4, .string (rdOf ByteArray.empty t121 3)] 45 (0, 0)) (by (with_reducible repeat (first | refine blk_drewN ?_ _ | refine blk_drew ?_ | refine blk_alloc ?_ _)); exact BK127.out) hb); have n3_ := Aside0.mk (below_step (by repeat (first | (with_reducible first | exact HB.out | apply below_alloc | apply pw_below_drewN | apply below_drew1 | refine below_set ?_ GE127.out) | exact HB.out)) hb); clear HO_5; clear HO_10; clear BK127; clear HB; have HO_5 := n0_; have HO_10 := n1_; have BK127 := n2_; have HB := n3_; clear n0_ n1_ n2_ n3_; (try clear hb); (try clear hb2); (try clear hk); (try clear hi); obtain ⟨Ao59, co59, eo59⟩ := Kd.R_slice HO_5.out; subst eo59; have hcz60_0 : w58.cell? ⟨gb127, 0, none⟩ = some (.bool ((rdOf ByteArray.empty t121 0).toList == ([97, 108, 108, 111, 119] : List UInt8))) := (blk_cell BK127.out 0).trans rfl; have hcz60_1 : w58.cell? ⟨gb127, 1, none⟩ = some (.string (rdOf ByteArray.empty t121 1)) := (blk_cell BK127.out 1).trans rfl; have hcz60_2 : w58.cell? ⟨gb127, 2, none⟩ = some (.int .i64 x128002_4) := (blk_cell BK127.out 2).trans rfl; have hcz60_3 : w58.cell? ⟨gb127, 3, none⟩ = some (.string (rdOf ByteArray.empty t121 3)) := (blk_cell BK127.out 3).trans rfl; have hfz60_0 := blk_frozen BK127.out 0; have hfz60_1 := blk_frozen BK127.out 1; have hfz60_2 := blk_frozen BK127.out 2; have hfz60_3 := blk_frozen BK127.out 3) | ((with_reducible refine gate_builtin (b := .append) (xs := #[.tmp 91, .tmp 93]) rfl ?_); (try (refine gate_guard (by rfl) ?_; dsimp only)); at_builtin; refine Kd.R_append k45 (w0 := w) w.heap.size rfl (.tmp 91) (.tmp 93) 33 45 (.agg #[(.bool false), (.string ⟨#[]⟩), (.int .i64 0), (.string ⟨#[]⟩)]) 48 rfl Tryz.underlying33 info45 rfl (by decide) (by omega) (.slice Ao59 x5_1.length co59) x5_1 (⟨((rdOf ByteArray.empty t121 0).toList == ([97, 108, 108, 111, 119] : List UInt8)), (rdOf ByteArray.empty t121 1), x128002_4, (rdOf ByteArray.empty t121 3)⟩ : S45) [.bool ((rdOf ByteArray.empty t121 0).toList == ([97, 108, 108, 111, 119] : List UInt8)), .string (rdOf ByteArray.empty t121 1), .int .i64 x128002_4, .string (rdOf ByteArray.empty t121 3)] (fun k_ => k_ ≠ gb127) (fun _ => False) rfl rfl ?aP (fun _ hk => hk.elim) ?aF ?aO ?aB ?aS ?aL ?_; (case aP => exact k45_mkM _ _ _ (⟨((rdOf ByteArray.empty t121 0).toList == ([97, 108, 108, 111, 119] : List UInt8)), (rdOf ByteArray.empty t121 1), x128002_4, (rdOf ByteArray.empty t121 3)⟩ : S45)); (case aB => exact (by repeat (first | (with_reducible first | exact HB.out | apply below_alloc | apply pw_below_drewN | apply below_drew1 | refine below_set ?_ GE127.out) | exact HB.out))); (case aF => exact (fun k_ hk => Kd.freshB (g := gb127) (o := .cells #[.bool ((rdOf ByteArray.empty t121 0).toList == ([97, 108, 108, 111, 119] : List UInt8)), .string (rdOf ByteArray.empty t121 1), .int .i64 x128002_4, .string (rdOf ByteArray.empty t121 3)] 45 (0, 0)) (by (with_reducible repeat (first | refine blk_drewN ?_ _ | refine blk_drew ?_ | refine blk_alloc ?_ _)); exact BK127.out) k_ hk)); (case aO => exact (by (with_reducible repeat (first | apply Kd.R_alloc | apply Kd.R_drewN | apply Kd.R_drew)); exact HO_5.out)); (case aS => exact (below_size (by repeat (first | (with_reducible first | exact HB.out | apply below_alloc | apply pw_below_drewN | apply below_drew1 | refine below_set ?_ GE127.out) | exact HB.out)))); (case aL => have := LMc54.out; omega); intro v136 w61 ho hb hg hat; rw [← Ny135.out] at ho; have n0_ := Aside0.mk (Kd.R_over' (by (with_reducible repeat (first | apply Kd.R_alloc | apply Kd.R_drewN | apply Kd.R_drew)); exact HO_10.out) (Kd.R_typed (by (with_reducible repeat (first | apply Kd.R_alloc | apply Kd.R_drewN | apply Kd.R_drew)); exact HO_5.out)) (by decide) hg); have n1_ := Aside0.mk (blk_grown (g := gb127) (o := .cells #[.bool ((rdOf ByteArray.empty t121 0).toList == ([97, 108, 108, 111, 119] : List UInt8)), .string (rdOf ByteArray.empty t121 1), .int .i64 x128002_4, .string (rdOf ByteArray.empty t121 3)] 45 (0, 0)) (by (with_reducible repeat (first | refine blk_drewN ?_ _ | refine blk_drew ?_ | refine blk_alloc ?_ _)); exact BK127.out) hg (Kd.R_away HO_5.out (fun _ hk => hk))); have n2_ := Aside0.mk (hb); have n3_ := Aside0.mk (ho); clear HO_10; clear BK127; clear HB; clear HO_5; have HO_10 := n0_; have BK127 := n1_; have HB := n2_; have HO137 := n3_; clear n0_ n1_ n2_ n3_; clear ho hb hg hat))
                                                  go_roundg k4
                                                  case measure => have := HK1.out; have := HJ3.out; have := HJ11.out; have := HK4.out; omega
                                                  case rel => exact ⟨(y135), (wrap64 (x6_1 + 1)), ((wrap64 (x8_1 + 1))), (wrap64 (x8_1 + 1)), (by first | rfl | (simp; done) | (simp [*]; done)), (by first | rfl | (simp; done) | (simp [*]; done)), (by first | rfl | (simp; done) | (simp [*]; done)), H', ⟨by have := HK1.out; have := HJ3.out; have := HJ11.out; have := HK4.out; omega⟩, ⟨by (with_reducible repeat (first | apply Kd.R_alloc | apply Kd.R_drewN | apply Kd.R_drew)); exact Kd.R_mono HO137.out (fun _ hk => trivial)⟩, ⟨by repeat (first | (with_reducible first | exact HB.out | apply below_alloc | apply pw_below_drewN | apply below_drew1 | refine below_set ?_ GE127.out) | exact HB.out)⟩⟩
                                                · rw [if_neg c54] at H
                                                  exact absurd H (by simp)
                                            · rw [if_neg c47] at H
                                              have c47b0 : (t134.toList == (a0.extract (x7_1 : Int).toNat (x8_1 : Int).toNat).toList) = false := beq_eq_false_iff_ne.mpr c47
                                              have c47b1 : (t134.toList != (a0.extract (x7_1 : Int).toNat (x8_1 : Int).toNat).toList) = true := bne_iff_ne.mpr c47
                                              simp only [Option.some.injEq, Prod.mk.injEq] at H
                                              obtain ⟨rfl, rfl, rfl⟩ := H
                                              have hcz62_0 : wr.cell? ⟨gb127, 0, none⟩ = some (.bool ((rdOf ByteArray.empty t121 0).toList == ([97, 108, 108, 111, 119] : List UInt8))) := (blk_cell BK127.out 0).trans rfl
                                              have hcz62_1 : wr.cell? ⟨gb127, 1, none⟩ = some (.string (rdOf ByteArray.empty t121 1)) := (blk_cell BK127.out 1).trans rfl
                                              have hcz62_2 : wr.cell? ⟨gb127, 2, none⟩ = some (.int .i64 x128002_4) := (blk_cell BK127.out 2).trans rfl
                                              have hcz62_3 : wr.cell? ⟨gb127, 3, none⟩ = some (.string (rdOf ByteArray.empty t121 3)) := (blk_cell BK127.out 3).trans rfl
                                              have hfz62_0 := blk_frozen BK127.out 0
                                              have hfz62_1 := blk_frozen BK127.out 1
                                              have hfz62_2 := blk_frozen BK127.out 2
                                              have hfz62_3 := blk_frozen BK127.out 3
                                              go_wp2_with (first | ((with_reducible refine gate_callee (f := 16) rfl ?_); refine goesL_ (some 77) rfl rfl Tryz.func16 (by kernel_rfl) rfl #[.agg #[.bool ((rdOf ByteArray.empty t121 0).toList == ([97, 108, 108, 111, 119] : List UInt8)), .string (rdOf ByteArray.empty t121 1), .int .i64 x128002_4, .string (rdOf ByteArray.empty t121 3)]] rfl (by (try simp only [List.map_toArray, List.map_cons, List.map_nil]); first | done | rfl | (simp only [List.length_drop, List.length_take]; rfl)) ?_; (with_reducible refine (escutcheonref14_Rule.calls k4 ((rdOf ByteArray.empty t121 0).toList == ([97, 108, 108, 111, 119] : List UInt8)) (rdOf ByteArray.empty t121 1) x128002_4 (rdOf ByteArray.empty t121 3) true _ A44.out).mono ?_); rintro e w63 ⟨rfl, hb⟩; refine ⟨_, rfl, ?_⟩; have n0_ := Aside0.mk (Kd.R_below (by (with_reducible repeat (first | apply Kd.R_alloc | apply Kd.R_drewN | apply Kd.R_drew)); exact HO_5.out) hb); have n1_ := Aside0.mk (Kd.R_below (by (with_reducible repeat (first | apply Kd.R_alloc | apply Kd.R_drewN | apply Kd.R_drew)); exact HO_10.out) hb); have n2_ := Aside0.mk (blk_below (g := gb127) (o := .cells #[.bool ((rdOf ByteArray.empty t121 0).toList == ([97, 108, 108, 111, 119] : List UInt8)), .string (rdOf ByteArray.empty t121 1), .int .i64 x128002_4, .string (rdOf ByteArray.empty t121 3)] 45 (0, 0)) (by (with_reducible repeat (first | refine blk_drewN ?_ _ | refine blk_drew ?_ | refine blk_alloc ?_ _)); exact BK127.out) hb); have n3_ := Aside0.mk (below_step (by repeat (first | (with_reducible first | exact HB.out | apply below_alloc | apply pw_below_drewN | apply below_drew1 | refine below_set ?_ GE127.out) | exact HB.out)) hb); clear HO_5; clear HO_10; clear BK127; clear HB; have HO_5 := n0_; have HO_10 := n1_; have BK127 := n2_; have HB := n3_; clear n0_ n1_ n2_ n3_; (try clear hb); (try clear hb2); (try clear hk); (try clear hi); have hcz64_0 : w63.cell? ⟨gb127, 0, none⟩ = some (.bool ((rdOf ByteArray.empty t121 0).toList == ([97, 108, 108, 111, 119] : List UInt8))) := (blk_cell BK127.out 0).trans rfl; have hcz64_1 : w63.cell? ⟨gb127, 1, none⟩ = some (.string (rdOf ByteArray.empty t121 1)) := (blk_cell BK127.out 1).trans rfl; have hcz64_2 : w63.cell? ⟨gb127, 2, none⟩ = some (.int .i64 x128002_4) := (blk_cell BK127.out 2).trans rfl; have hcz64_3 : w63.cell? ⟨gb127, 3, none⟩ = some (.string (rdOf ByteArray.empty t121 3)) := (blk_cell BK127.out 3).trans rfl; have hfz64_0 := blk_frozen BK127.out 0; have hfz64_1 := blk_frozen BK127.out 1; have hfz64_2 := blk_frozen BK127.out 2; have hfz64_3 := blk_frozen BK127.out 3) | (go_at_call 17; (with_reducible refine (escutcheonref14_Line.calls ((rdOf ByteArray.empty t121 0).toList == ([97, 108, 108, 111, 119] : List UInt8)) (rdOf ByteArray.empty t121 1) x128002_4 (rdOf ByteArray.empty t121 3) t134 _ A46.out).mono ?_); rintro e w65 ⟨rfl, hb⟩; have n0_ := Aside0.mk (Kd.R_below (by (with_reducible repeat (first | apply Kd.R_alloc | apply Kd.R_drewN | apply Kd.R_drew)); exact HO_5.out) hb); have n1_ := Aside0.mk (Kd.R_below (by (with_reducible repeat (first | apply Kd.R_alloc | apply Kd.R_drewN | apply Kd.R_drew)); exact HO_10.out) hb); have n2_ := Aside0.mk (blk_below (g := gb127) (o := .cells #[.bool ((rdOf ByteArray.empty t121 0).toList == ([97, 108, 108, 111, 119] : List UInt8)), .string (rdOf ByteArray.empty t121 1), .int .i64 x128002_4, .string (rdOf ByteArray.empty t121 3)] 45 (0, 0)) (by (with_reducible repeat (first | refine blk_drewN ?_ _ | refine blk_drew ?_ | refine blk_alloc ?_ _)); exact BK127.out) hb); have n3_ := Aside0.mk (below_step (by repeat (first | (with_reducible first | exact HB.out | apply below_alloc | apply pw_below_drewN | apply below_drew1 | refine below_set ?_ GE127.out) | exact HB.out)) hb); clear HO_5; clear HO_10; clear BK127; clear HB; have HO_5 := n0_; have HO_10 := n1_; have BK127 := n2_; have HB := n3_; clear n0_ n1_ n2_ n3_; (try clear hb); (try clear hb2); (try clear hk); (try clear hi)))
                                              go_ret3
                                              exact ⟨_, by first | rfl | (simp [errW_none, errW_some] <;> rfl) | (simp [*, errW_none, errW_some] <;> rfl), by first | exact Kd.R_nil _ _ _ _ _ | exact Kd.N_nil _ _ _ _ _ | exact Kd.V_nil _ _ _ _ _ | exact Kd.Q_nil _ _ _ _ _ | exact Kd.S_nil _ _ _ _ _, by repeat (first | (with_reducible first | exact HB.out | apply below_alloc | apply pw_below_drewN | apply below_drew1 | refine below_set ?_ GE127.out) | exact HB.out)⟩
                                          · replace c45 := Bool.eq_false_iff.mpr c45
                                            subst c45
                                            have H1 : (some (([] : List (S45)), x6_1, false)) = some (r1, r2, r3) := by rw [if_neg (show ¬ (false = true) by decide)] at H; exact H
                                            clear H
                                            have H := H1
                                            clear H1
                                            simp only [Option.some.injEq, Prod.mk.injEq] at H
                                            obtain ⟨rfl, rfl, rfl⟩ := H
                                            have hcz66_0 : wr.cell? ⟨gb127, 0, none⟩ = some (.bool ((rdOf ByteArray.empty t121 0).toList == ([97, 108, 108, 111, 119] : List UInt8))) := (blk_cell BK127.out 0).trans rfl
                                            have hcz66_1 : wr.cell? ⟨gb127, 1, none⟩ = some (.string (rdOf ByteArray.empty t121 1)) := (blk_cell BK127.out 1).trans rfl
                                            have hcz66_2 : wr.cell? ⟨gb127, 2, none⟩ = some (.int .i64 x128002_4) := (blk_cell BK127.out 2).trans rfl
                                            have hcz66_3 : wr.cell? ⟨gb127, 3, none⟩ = some (.string (rdOf ByteArray.empty t121 3)) := (blk_cell BK127.out 3).trans rfl
                                            have hfz66_0 := blk_frozen BK127.out 0
                                            have hfz66_1 := blk_frozen BK127.out 1
                                            have hfz66_2 := blk_frozen BK127.out 2
                                            have hfz66_3 := blk_frozen BK127.out 3
                                            go_wp2_with (first | ((with_reducible refine gate_callee (f := 16) rfl ?_); refine goesL_ (some 77) rfl rfl Tryz.func16 (by kernel_rfl) rfl #[.agg #[.bool ((rdOf ByteArray.empty t121 0).toList == ([97, 108, 108, 111, 119] : List UInt8)), .string (rdOf ByteArray.empty t121 1), .int .i64 x128002_4, .string (rdOf ByteArray.empty t121 3)]] rfl (by (try simp only [List.map_toArray, List.map_cons, List.map_nil]); first | done | rfl | (simp only [List.length_drop, List.length_take]; rfl)) ?_; (with_reducible refine (escutcheonref14_Rule.calls k4 ((rdOf ByteArray.empty t121 0).toList == ([97, 108, 108, 111, 119] : List UInt8)) (rdOf ByteArray.empty t121 1) x128002_4 (rdOf ByteArray.empty t121 3) false _ A44.out).mono ?_); rintro e w67 ⟨rfl, hb⟩; refine ⟨_, rfl, ?_⟩; have n0_ := Aside0.mk (Kd.R_below (by (with_reducible repeat (first | apply Kd.R_alloc | apply Kd.R_drewN | apply Kd.R_drew)); exact HO_5.out) hb); have n1_ := Aside0.mk (Kd.R_below (by (with_reducible repeat (first | apply Kd.R_alloc | apply Kd.R_drewN | apply Kd.R_drew)); exact HO_10.out) hb); have n2_ := Aside0.mk (blk_below (g := gb127) (o := .cells #[.bool ((rdOf ByteArray.empty t121 0).toList == ([97, 108, 108, 111, 119] : List UInt8)), .string (rdOf ByteArray.empty t121 1), .int .i64 x128002_4, .string (rdOf ByteArray.empty t121 3)] 45 (0, 0)) (by (with_reducible repeat (first | refine blk_drewN ?_ _ | refine blk_drew ?_ | refine blk_alloc ?_ _)); exact BK127.out) hb); have n3_ := Aside0.mk (below_step (by repeat (first | (with_reducible first | exact HB.out | apply below_alloc | apply pw_below_drewN | apply below_drew1 | refine below_set ?_ GE127.out) | exact HB.out)) hb); clear HO_5; clear HO_10; clear BK127; clear HB; have HO_5 := n0_; have HO_10 := n1_; have BK127 := n2_; have HB := n3_; clear n0_ n1_ n2_ n3_; (try clear hb); (try clear hb2); (try clear hk); (try clear hi)))
                                            go_ret3
                                            exact ⟨_, by first | rfl | (simp [errW_none, errW_some] <;> rfl) | (simp [*, errW_none, errW_some] <;> rfl), by first | exact Kd.R_nil _ _ _ _ _ | exact Kd.N_nil _ _ _ _ _ | exact Kd.V_nil _ _ _ _ _ | exact Kd.Q_nil _ _ _ _ _ | exact Kd.S_nil _ _ _ _ _, by repeat (first | (with_reducible first | exact HB.out | apply below_alloc | apply pw_below_drewN | apply below_drew1 | refine below_set ?_ GE127.out) | exact HB.out)⟩
                                  · rw [if_neg c21] at H
                                    exact absurd H (by simp)
                                · rw [if_neg c20] at H
                                  exact absurd H (by simp)
                              · rw [if_neg c19] at H
                                exact absurd H (by simp)
                            · rw [if_neg c18] at H
                              have c18b0 : ((t121.length : Int) == 4) = false := beq_eq_false_iff_ne.mpr c18
                              have c18b1 : ((t121.length : Int) != 4) = true := bne_iff_ne.mpr c18
                              simp only [Option.some.injEq, Prod.mk.injEq] at H
                              obtain ⟨rfl, rfl, rfl⟩ := H
                              go_wp2_with (first | ((with_reducible refine gate_callee (f := 15) rfl ?_); refine goesL_ (some 46) rfl rfl Tryz.func15 (by kernel_rfl) rfl #[.string (a0.extract (x7_1 : Int).toNat (x8_1 : Int).toNat)] rfl (by (try simp only [List.map_toArray, List.map_cons, List.map_nil]); first | done | rfl | (simp only [List.length_drop, List.length_take]; rfl)) ?_; (with_reducible refine (escutcheonref14_words.calls kj11 (a0.extract (x7_1 : Int).toNat (x8_1 : Int).toNat) t121 _ A17.out).mono ?_); rintro e w68 ⟨v122, rfl, ho0, hb⟩; refine ⟨_, rfl, ?_⟩; have n0_ := Aside0.mk (Kd.R_below (by (with_reducible repeat (first | apply Kd.R_alloc | apply Kd.R_drewN | apply Kd.R_drew)); exact HO_5.out) hb); have n1_ := Aside0.mk (Kd.R_lower ho0 (below_size (by repeat (first | (with_reducible first | exact HB.out | apply below_alloc | apply pw_below_drewN | apply below_drew1) | exact HB.out)))); have n2_ := Aside0.mk (below_step (by repeat (first | (with_reducible first | exact HB.out | apply below_alloc | apply pw_below_drewN | apply below_drew1) | exact HB.out)) hb); clear HO_5; clear HB; have HO_5 := n0_; have HO123 := n1_; have HB := n2_; clear n0_ n1_ n2_; (try clear hb); (try clear hb2); (try clear hk); (try clear hi); (try clear ho0); obtain ⟨Ao69, co69, eo69⟩ := Kd.R_slice HO123.out; subst eo69))
                              go_ret3
                              exact ⟨_, by first | rfl | (simp [errW_none, errW_some] <;> rfl) | (simp [*, errW_none, errW_some] <;> rfl), by first | exact Kd.R_nil _ _ _ _ _ | exact Kd.N_nil _ _ _ _ _ | exact Kd.V_nil _ _ _ _ _ | exact Kd.Q_nil _ _ _ _ _ | exact Kd.S_nil _ _ _ _ _, by repeat (first | (with_reducible first | exact HB.out | apply below_alloc | apply pw_below_drewN | apply below_drew1) | exact HB.out)⟩
                          · replace c16 := Bool.eq_false_iff.mpr c16
                            subst c16
                            have H1 : (escutcheonref14_Rules.l0 kj11 a0 x5_1 (wrap64 (x6_1 + 1)) (wrap64 (x8_1 + 1)) (wrap64 (x8_1 + 1))) = some (r1, r2, r3) := by rw [if_neg (show ¬ (false = true) by decide)] at H; exact H
                            clear H
                            have H := H1
                            clear H1
                            have H' := Aside0.mk H
                            clear H
                            go_wp2
                            go_roundg kj11
                            case measure => have := HK1.out; have := HJ3.out; have := HJ11.out; omega
                            case rel => exact ⟨(x5_1), (wrap64 (x6_1 + 1)), ((wrap64 (x8_1 + 1))), (wrap64 (x8_1 + 1)), (by first | rfl | (simp; done) | (simp [*]; done)), (by first | rfl | (simp; done) | (simp [*]; done)), (by first | rfl | (simp; done) | (simp [*]; done)), H', ⟨by have := HK1.out; have := HJ3.out; have := HJ11.out; omega⟩, ⟨by (with_reducible repeat (first | apply Kd.R_alloc | apply Kd.R_drewN | apply Kd.R_drew)); exact HO_5.out⟩, ⟨by repeat (first | (with_reducible first | exact HB.out | apply below_alloc | apply pw_below_drewN | apply below_drew1) | exact HB.out)⟩⟩
                    · rw [if_neg c11] at H
                      exact absurd H (by simp)
                  · rw [if_neg c10] at H
                    exact absurd H (by simp)
                · rw [if_neg c9] at H
                  exact absurd H (by simp)
        · rw [if_neg c3] at H
          have c3b0 : decide (x8_1 ≤ (a0.size : Int)) = false := decide_eq_false c3
          clear c3
          simp only [Option.some.injEq, Prod.mk.injEq] at H
          obtain ⟨rfl, rfl, rfl⟩ := H
          go_wp2
          go_ret3
          exact ⟨_, by first | rfl | (simp [errW_none, errW_some] <;> rfl) | (simp [*, errW_none, errW_some] <;> rfl), by (with_reducible repeat (first | apply Kd.R_alloc | apply Kd.R_drewN | apply Kd.R_drew)); exact HO_5.out, by repeat (first | (with_reducible first | exact HB.out | apply below_alloc | apply pw_below_drewN | apply below_drew1) | exact HB.out)⟩

end Go.Proofs.YthngjjeilcfhgaaGreatDoor.Pl
