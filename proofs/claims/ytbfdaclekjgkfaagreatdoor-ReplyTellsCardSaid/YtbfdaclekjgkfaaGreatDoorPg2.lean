import Derived.Test.YtbfdaclekjgkfaaGreatDoorPg0

-- Laid by wip/tools/ext.py, a program of this repo, over the kit's printer: Go functions as plain Lean functions, and their contracts.
namespace Go.Proofs.YtbfdaclekjgkfaaGreatDoor.Pg
open Go.RowKit Go.Proofs.YtbfdaclekjgkfaaGreatDoorW.PrintWords Go.Proofs.YtbfdaclekjgkfaaGreatDoorW.PrintLast Go.Proofs.YtbfdaclekjgkfaaGreatDoorW.PrintMore
attribute [local go_sem] max2_int min2_int max_two min_two max_three min_three max_four min_four   -- for this text's walks alone
set_option linter.unusedVariables false
set_option linter.unusedSimpArgs false

/-! ### escutcheonref1_GetReply: function 9 -/
mutual
def escutcheonref1_GetReply.j0 : Nat → ByteArray → Int → Int → Int → Bool → Option (Int × ByteArray × Int × Int × List ByteArray × Bool)
  | 0, _, _, _, _, _ => none
  | k + 1, x0, x4, x5, x6, x38 => if x38 = true then (some (0, (⟨#[]⟩ : ByteArray), 0, 0, ([] : List ByteArray), false)) else (if 0 < (x0.size : Int) then (if 19 ≤ (wrap64 (19 + x6)) then (if (wrap64 (19 + x6)) ≤ (x0.size : Int) then (escutcheonref1_GetReply.l0 k x0 x6 (wrap64 (20 + x6)) 0 (wrap64 (bt x0 0)) (x0.extract 19 ((wrap64 (19 + x6)) : Int).toNat) (wrap64 ((wrap64 (x4)) - 1000000000000)) (wrap64 (x5)) ([] : List ByteArray)) else (none)) else (none)) else (none))
def escutcheonref1_GetReply.l0 : Nat → ByteArray → Int → Int → Int → Int → ByteArray → Int → Int → List ByteArray → Option (Int × ByteArray × Int × Int × List ByteArray × Bool)
  | 0, _, _, _, _, _, _, _, _, _ => none
  | k + 1, x0, x6, x8, x9, x110000, x110001, x110002, x110003, x110004 => if 0 ≤ (wrap64 (19 + x6)) then (if (wrap64 (19 + x6)) < (x0.size : Int) then (if x9 < (wrap64 (bt x0 (wrap64 (19 + x6)))) then (if x8 ≥ (x0.size : Int) then (some (0, (⟨#[]⟩ : ByteArray), 0, 0, ([] : List ByteArray), false)) else (if 0 ≤ x8 then (if x8 < (x0.size : Int) then (if (wrap64 ((wrap64 (x8 + 1)) + (wrap64 (bt x0 x8)))) > (x0.size : Int) then (some (0, (⟨#[]⟩ : ByteArray), 0, 0, ([] : List ByteArray), false)) else (if 0 ≤ (wrap64 (x8 + 1)) then (if (wrap64 (x8 + 1)) ≤ (wrap64 ((wrap64 (x8 + 1)) + (wrap64 (bt x0 x8)))) then (if (wrap64 ((wrap64 (x8 + 1)) + (wrap64 (bt x0 x8)))) ≤ (x0.size : Int) then (if x110004.length < 8796093022208 then (escutcheonref1_GetReply.l0 k x0 x6 (wrap64 ((wrap64 (x8 + 1)) + (wrap64 (bt x0 x8)))) (wrap64 (x9 + 1)) x110000 x110001 x110002 x110003 (x110004 ++ [x0.extract ((wrap64 (x8 + 1)) : Int).toNat ((wrap64 ((wrap64 (x8 + 1)) + (wrap64 (bt x0 x8)))) : Int).toNat])) else (none)) else (none)) else (none)) else (none))) else (none)) else (none))) else ((escutcheonref1_PutReply.f x110000 x110001 x110002 x110003 x110004).bind fun bt113 => (if bt113.2 = true then (if bt113.1.toList = x0.toList then (some (x110000, x110001, x110002, x110003, x110004, true)) else (some (0, (⟨#[]⟩ : ByteArray), 0, 0, ([] : List ByteArray), false))) else (some (0, (⟨#[]⟩ : ByteArray), 0, 0, ([] : List ByteArray), false))))) else (none)) else (none)
end
def escutcheonref1_GetReply.f (k : Nat) (a0 : ByteArray) : Option (Int × ByteArray × Int × Int × List ByteArray × Bool) := if (a0.size : Int) < 20 then (some (0, (⟨#[]⟩ : ByteArray), 0, 0, ([] : List ByteArray), false)) else (if 1 ≤ 9 then (if 9 ≤ (a0.size : Int) then ((escutcheonref1_Big.f (a0.extract 1 9)).bind fun t106 => (if 9 ≤ 17 then (if 17 ≤ (a0.size : Int) then ((escutcheonref1_Big.f (a0.extract 9 17)).bind fun t107 => (if 17 ≤ 19 then (if 19 ≤ (a0.size : Int) then ((escutcheonref1_Big.f (a0.extract 17 19)).bind fun t108 => (if t106 > 2000000000000 then (escutcheonref1_GetReply.j0 k a0 t106 t107 (wrap64 (t108)) true) else (if t107 > 1000000000000 then (escutcheonref1_GetReply.j0 k a0 t106 t107 (wrap64 (t108)) true) else (escutcheonref1_GetReply.j0 k a0 t106 t107 (wrap64 (t108)) (decide ((a0.size : Int) < (wrap64 (20 + (wrap64 (t108)))))))))) else (none)) else (none))) else (none)) else (none))) else (none)) else (none))
theorem escutcheonref1_GetReply.mono_l : ∀ k, (∀ y0 y1 y2 y3 y4, LeO (escutcheonref1_GetReply.j0 k y0 y1 y2 y3 y4) (escutcheonref1_GetReply.j0 (k + 1) y0 y1 y2 y3 y4)) ∧ (∀ y0 y1 y2 y3 y4 y5 y6 y7 y8, LeO (escutcheonref1_GetReply.l0 k y0 y1 y2 y3 y4 y5 y6 y7 y8) (escutcheonref1_GetReply.l0 (k + 1) y0 y1 y2 y3 y4 y5 y6 y7 y8))
  | 0 => ⟨fun _ _ _ _ _ r h => by simp [escutcheonref1_GetReply.j0] at h, fun _ _ _ _ _ _ _ _ _ r h => by simp [escutcheonref1_GetReply.l0] at h⟩
  | k + 1 => by
    obtain ⟨ih0, ih1⟩ := escutcheonref1_GetReply.mono_l k
    refine ⟨?_, ?_⟩
    · intro y0 y1 y2 y3 y4
      unfold escutcheonref1_GetReply.j0
      repeat' first
      | (with_reducible exact ih0 _ _ _ _ _)
      | (with_reducible exact ih1 _ _ _ _ _ _ _ _ _)
      | (with_reducible exact LeO.refl _)
      | (with_reducible exact LeO.none _)
      | (with_reducible refine LeO.ite ?_ ?_)
      | (with_reducible refine LeO.bind ?_ (fun _ => ?_))
      | exact ih0 _ _ _ _ _
      | exact ih1 _ _ _ _ _ _ _ _ _
      | exact LeO.none _
      | refine LeO.ite ?_ ?_
      | refine LeO.bind ?_ (fun _ => ?_)
    · intro y0 y1 y2 y3 y4 y5 y6 y7 y8
      unfold escutcheonref1_GetReply.l0
      repeat' first
      | (with_reducible exact ih0 _ _ _ _ _)
      | (with_reducible exact ih1 _ _ _ _ _ _ _ _ _)
      | (with_reducible exact LeO.refl _)
      | (with_reducible exact LeO.none _)
      | (with_reducible refine LeO.ite ?_ ?_)
      | (with_reducible refine LeO.bind ?_ (fun _ => ?_))
      | exact ih0 _ _ _ _ _
      | exact ih1 _ _ _ _ _ _ _ _ _
      | exact LeO.none _
      | refine LeO.ite ?_ ?_
      | refine LeO.bind ?_ (fun _ => ?_)
theorem escutcheonref1_GetReply.mono : ∀ a0 k, LeO (escutcheonref1_GetReply.f k a0) (escutcheonref1_GetReply.f (k + 1) a0) := by
  intro a0 k
  obtain ⟨ih0, ih1⟩ := escutcheonref1_GetReply.mono_l k
  unfold escutcheonref1_GetReply.f
  repeat' first
      | (with_reducible exact ih0 _ _ _ _ _)
      | (with_reducible exact ih1 _ _ _ _ _ _ _ _ _)
      | (with_reducible exact LeO.refl _)
      | (with_reducible exact LeO.none _)
      | (with_reducible refine LeO.ite ?_ ?_)
      | (with_reducible refine LeO.bind ?_ (fun _ => ?_))
      | exact ih0 _ _ _ _ _
      | exact ih1 _ _ _ _ _ _ _ _ _
      | exact LeO.none _
      | refine LeO.ite ?_ ?_
      | refine LeO.bind ?_ (fun _ => ?_)
def escutcheonref1_GetReply.T3 : Bool × List (List Nat × List Nat) := (true, [([], []), ([0], [0]), ([1], [1]), ([], []), ([3], [3]), ([4, 2], [4]), ([2, 5, 0, 1, 2], [2]), ([5, 6, 0, 1, 2, 3, 4, 5, 6], [5])])
def escutcheonref1_GetReply.B3 : List Nat := [0, 1, 3, 0, 8, 31, 63, 127]
theorem escutcheonref1_GetReply.tab3 : rtab .any (opsOf Tryz.f9 3) = escutcheonref1_GetReply.T3 := by kernel_rfl
theorem escutcheonref1_GetReply.bits3 : waitsOk escutcheonref1_GetReply.T3.2 escutcheonref1_GetReply.B3 = true := by kernel_rfl
def escutcheonref1_GetReply.T7 : Bool × List (List Nat × List Nat) := (true, [([], []), ([0], [0]), ([1], [1]), ([], []), ([3], [3]), ([4], [4]), ([], []), ([6], [6]), ([], []), ([], []), ([9], [9]), ([8, 10], [8, 10]), ([2, 5, 7, 11], [2, 5, 7, 11]), ([], []), ([13, 12, 0, 1, 2, 3, 4, 5, 6, 7, 8, 9, 10, 11, 12, 13], [12, 13])])
def escutcheonref1_GetReply.B7 : List Nat := [0, 1, 3, 0, 8, 24, 0, 64, 0, 0, 512, 1792, 4095, 0, 16383]
theorem escutcheonref1_GetReply.tab7 : rtab .any (opsOf Tryz.f9 7) = escutcheonref1_GetReply.T7 := by kernel_rfl
theorem escutcheonref1_GetReply.bits7 : waitsOk escutcheonref1_GetReply.T7.2 escutcheonref1_GetReply.B7 = true := by kernel_rfl
def escutcheonref1_GetReply.T14 : Bool × List (List Nat × List Nat) := (true, [([], []), ([0], [0]), ([], []), ([], []), ([3], [3]), ([], []), ([5], [5]), ([], []), ([], []), ([7, 8], [7, 8]), ([9], [9]), ([6, 10], [6, 10]), ([2, 4, 11], [2, 4, 11]), ([12], [12]), ([1, 13], [1, 13]), ([0, 1, 2, 3, 4, 5, 6, 7, 8, 9, 10, 11, 12, 13, 14], []), ([15, 14, 14, 0, 1, 2, 3, 4, 5, 6, 7, 8, 9, 10, 11, 12, 13, 14], [14, 15])])
def escutcheonref1_GetReply.B14 : List Nat := [0, 1, 0, 0, 8, 0, 32, 0, 0, 384, 896, 2016, 4092, 8188, 16383, 32767, 65535]
theorem escutcheonref1_GetReply.tab14 : rtab .any (opsOf Tryz.f9 14) = escutcheonref1_GetReply.T14 := by kernel_rfl
theorem escutcheonref1_GetReply.bits14 : waitsOk escutcheonref1_GetReply.T14.2 escutcheonref1_GetReply.B14 = true := by kernel_rfl
end Go.Proofs.YtbfdaclekjgkfaaGreatDoor.Pg

-- Laid by wip/tools/ext.py, a program of this repo, over the kit's printer: Go functions as plain Lean functions, and their contracts.
namespace Go.Proofs.YtbfdaclekjgkfaaGreatDoor.Pg
open Go.RowKit Go.Proofs.YtbfdaclekjgkfaaGreatDoorW.PrintWords Go.Proofs.YtbfdaclekjgkfaaGreatDoorW.PrintLast Go.Proofs.YtbfdaclekjgkfaaGreatDoorW.PrintMore
attribute [local go_sem] max2_int min2_int max_two min_two max_three min_three max_four min_four   -- for this text's walks alone
set_option linter.unusedVariables false
set_option linter.unusedSimpArgs false
set_option maxHeartbeats 8000000 in
set_option maxRecDepth 100000 in
theorem escutcheonref1_GetReply.calls (k : Nat) (a0 : ByteArray) (r1 : Int) (r2 : ByteArray) (r3 : Int) (r4 : Int) (r5 : List ByteArray) (r6 : Bool) (w : World) (h : escutcheonref1_GetReply.f k a0 = some (r1, r2, r3, r4, r5, r6)) :
    Calls Tryz.prog 9 #[.string a0] w fun e w' => ∃ v4_ : Value, e = .returned (.tuple #[.agg #[.int .i64 r1, .string r2, .int .i64 r3, .int .i64 r4, v4_], .bool r6]) ∧ Kd.R Kd.string 9 w' w.heap.size (fun _ => True) v4_ r5 ∧ Below w.heap.size w w' := by
  have hu25 := Tryz.underlying25
  have HB := Aside0.mk (Below.refl w.heap.size w)
  have H : (if (a0.size : Int) < 20 then (some (0, (⟨#[]⟩ : ByteArray), 0, 0, ([] : List ByteArray), false)) else (if 1 ≤ 9 then (if 9 ≤ (a0.size : Int) then ((escutcheonref1_Big.f (a0.extract 1 9)).bind fun t106 => (if 9 ≤ 17 then (if 17 ≤ (a0.size : Int) then ((escutcheonref1_Big.f (a0.extract 9 17)).bind fun t107 => (if 17 ≤ 19 then (if 19 ≤ (a0.size : Int) then ((escutcheonref1_Big.f (a0.extract 17 19)).bind fun t108 => (if t106 > 2000000000000 then (escutcheonref1_GetReply.j0 k a0 t106 t107 (wrap64 (t108)) true) else (if t107 > 1000000000000 then (escutcheonref1_GetReply.j0 k a0 t106 t107 (wrap64 (t108)) true) else (escutcheonref1_GetReply.j0 k a0 t106 t107 (wrap64 (t108)) (decide ((a0.size : Int) < (wrap64 (20 + (wrap64 (t108)))))))))) else (none)) else (none))) else (none)) else (none))) else (none)) else (none))) = some (r1, r2, r3, r4, r5, r6) := h
  clear h
  by_cases c2 : (a0.size : Int) < 20
  · rw [if_pos c2] at H
    have c2b0 : decide ((a0.size : Int) < 20) = true := decide_eq_true c2
    have c2b1 : decide (a0.size < 20) = true := decide_eq_true (by omega)
    clear c2
    simp only [Option.some.injEq, Prod.mk.injEq] at H
    obtain ⟨rfl, rfl, rfl, rfl, rfl, rfl⟩ := H
    go_enter Tryz.func9, Tryz.ntmps9
    go_wp2_with (first | ((with_reducible refine gate_dst (N := 2) rfl ?_); (try (refine gate_guard (by rfl) ?_; dsimp only)); refine box_event ?hg (N := 2) ?hd (cs := #[.int .i64 0, .string (⟨#[]⟩ : ByteArray), .int .i64 0, .int .i64 0, .slice none 0 0]) (t := 25) ?hr ?_; (case hd => rfl); (case hg => rfl); (case hr => first | (go_simp; done) | (go_simp; rfl)); intro gb105 hg w3 hbox hb; have n0_ := Aside0.mk (below_step (by repeat (first | (with_reducible first | exact HB.out | apply below_alloc | apply pw_below_drewN | apply below_drew1) | exact HB.out)) hb); have n1_ := Aside0.mk (hbox); have n2_ := Aside0.mk ((by rw [hg]; exact (below_size (by repeat (first | (with_reducible first | exact HB.out | apply below_alloc | apply pw_below_drewN | apply below_drew1) | exact HB.out))) : w.heap.size ≤ gb105)); have n3_ := Aside0.mk ((by rw [hg]; exact (below_size (by repeat (first | (with_reducible first | exact HB.out | apply below_alloc | apply pw_below_drewN | apply below_drew1) | exact HB.out))) : w.heap.size ≤ gb105)); clear HB; have HB := n0_; have BK105 := n1_; have GW105 := n2_; have GE105 := n3_; clear n0_ n1_ n2_ n3_; clear hb hbox hg; have hcz4_0 : w3.cell? ⟨gb105, 0, none⟩ = some (.int .i64 0) := (blk_cell BK105.out 0).trans rfl; have hcz4_1 : w3.cell? ⟨gb105, 1, none⟩ = some (.string (⟨#[]⟩ : ByteArray)) := (blk_cell BK105.out 1).trans rfl; have hcz4_2 : w3.cell? ⟨gb105, 2, none⟩ = some (.int .i64 0) := (blk_cell BK105.out 2).trans rfl; have hcz4_3 : w3.cell? ⟨gb105, 3, none⟩ = some (.int .i64 0) := (blk_cell BK105.out 3).trans rfl; have hcz4_4 : w3.cell? ⟨gb105, 4, none⟩ = some (.slice none 0 0) := (blk_cell BK105.out 4).trans rfl; have hfz4_0 := blk_frozen BK105.out 0; have hfz4_1 := blk_frozen BK105.out 1; have hfz4_2 := blk_frozen BK105.out 2; have hfz4_3 := blk_frozen BK105.out 3; have hfz4_4 := blk_frozen BK105.out 4))
    refine bodyPost_ret (results_ct rfl _ _ gb105 25 #[.int .i64 0, .string (⟨#[]⟩ : ByteArray), .int .i64 0, .int .i64 0, .slice none 0 0] (0, 0) _ rfl (by (with_reducible repeat (first | refine blk_drewN ?_ _ | refine blk_drew ?_ | refine blk_alloc ?_ _)); refine blk_put (cs := #[.int .i64 0, .string (⟨#[]⟩ : ByteArray), .int .i64 0, .int .i64 0, .slice none 0 0]) ?_ 4 _ rfl; (with_reducible repeat (first | refine blk_drewN ?_ _ | refine blk_drew ?_ | refine blk_alloc ?_ _)); refine blk_put (cs := #[.int .i64 0, .string (⟨#[]⟩ : ByteArray), .int .i64 0, .int .i64 0, .slice none 0 0]) ?_ 3 _ rfl; (with_reducible repeat (first | refine blk_drewN ?_ _ | refine blk_drew ?_ | refine blk_alloc ?_ _)); refine blk_put (cs := #[.int .i64 0, .string (⟨#[]⟩ : ByteArray), .int .i64 0, .int .i64 0, .slice none 0 0]) ?_ 2 _ rfl; (with_reducible repeat (first | refine blk_drewN ?_ _ | refine blk_drew ?_ | refine blk_alloc ?_ _)); refine blk_put (cs := #[.int .i64 0, .string (⟨#[]⟩ : ByteArray), .int .i64 0, .int .i64 0, .slice none 0 0]) ?_ 1 _ rfl; (with_reducible repeat (first | refine blk_drewN ?_ _ | refine blk_drew ?_ | refine blk_alloc ?_ _)); refine blk_put (cs := #[.int .i64 0, .string (⟨#[]⟩ : ByteArray), .int .i64 0, .int .i64 0, .slice none 0 0]) ?_ 0 _ rfl; (with_reducible repeat (first | refine blk_drewN ?_ _ | refine blk_drew ?_ | refine blk_alloc ?_ _)); exact BK105.out) Tryz.underlying25 rfl (by kernel_rfl)) rfl ?_
    exact ⟨_, by first | rfl | (simp [errW_none, errW_some] <;> rfl) | (simp [*, errW_none, errW_some] <;> rfl), by first | exact Kd.R_nil _ _ _ _ _ | exact Kd.N_nil _ _ _ _ _ | exact Kd.V_nil _ _ _ _ _ | exact Kd.Q_nil _ _ _ _ _ | exact Kd.S_nil _ _ _ _ _, by repeat (first | (with_reducible first | exact HB.out | apply below_alloc | apply pw_below_drewN | apply below_drew1 | refine below_set ?_ GE105.out) | exact HB.out)⟩
  · rw [if_neg c2] at H
    have c2b0 : decide ((a0.size : Int) < 20) = false := decide_eq_false c2
    have c2b1 : decide (a0.size < 20) = false := decide_eq_false (by omega)
    clear c2
    by_cases c5 : 1 ≤ 9
    · rw [if_pos c5] at H
      have c5b0 := eq_true c5
      have c5b1 : decide (1 ≤ 9) = true := decide_eq_true c5
      clear c5
      by_cases c6 : 9 ≤ (a0.size : Int)
      · rw [if_pos c6] at H
        have c6b0 := eq_true c6
        have c6b1 : decide (9 ≤ (a0.size : Int)) = true := decide_eq_true c6
        clear c6
        replace H := Option.bind_eq_some_iff.mp H
        obtain ⟨t106, A70, H⟩ := H
        replace H : (if 9 ≤ 17 then (if 17 ≤ (a0.size : Int) then ((escutcheonref1_Big.f (a0.extract 9 17)).bind fun t107 => (if 17 ≤ 19 then (if 19 ≤ (a0.size : Int) then ((escutcheonref1_Big.f (a0.extract 17 19)).bind fun t108 => (if t106 > 2000000000000 then (escutcheonref1_GetReply.j0 k a0 t106 t107 (wrap64 (t108)) true) else (if t107 > 1000000000000 then (escutcheonref1_GetReply.j0 k a0 t106 t107 (wrap64 (t108)) true) else (escutcheonref1_GetReply.j0 k a0 t106 t107 (wrap64 (t108)) (decide ((a0.size : Int) < (wrap64 (20 + (wrap64 (t108)))))))))) else (none)) else (none))) else (none)) else (none)) = some (r1, r2, r3, r4, r5, r6) := H
        have A7 := Aside0.mk A70
        clear A70
        by_cases c8 : 9 ≤ 17
        · rw [if_pos c8] at H
          have c8b0 := eq_true c8
          have c8b1 : decide (9 ≤ 17) = true := decide_eq_true c8
          clear c8
          by_cases c9 : 17 ≤ (a0.size : Int)
          · rw [if_pos c9] at H
            have c9b0 := eq_true c9
            have c9b1 : decide (17 ≤ (a0.size : Int)) = true := decide_eq_true c9
            clear c9
            replace H := Option.bind_eq_some_iff.mp H
            obtain ⟨t107, A100, H⟩ := H
            replace H : (if 17 ≤ 19 then (if 19 ≤ (a0.size : Int) then ((escutcheonref1_Big.f (a0.extract 17 19)).bind fun t108 => (if t106 > 2000000000000 then (escutcheonref1_GetReply.j0 k a0 t106 t107 (wrap64 (t108)) true) else (if t107 > 1000000000000 then (escutcheonref1_GetReply.j0 k a0 t106 t107 (wrap64 (t108)) true) else (escutcheonref1_GetReply.j0 k a0 t106 t107 (wrap64 (t108)) (decide ((a0.size : Int) < (wrap64 (20 + (wrap64 (t108)))))))))) else (none)) else (none)) = some (r1, r2, r3, r4, r5, r6) := H
            have A10 := Aside0.mk A100
            clear A100
            by_cases c11 : 17 ≤ 19
            · rw [if_pos c11] at H
              have c11b0 := eq_true c11
              have c11b1 : decide (17 ≤ 19) = true := decide_eq_true c11
              clear c11
              by_cases c12 : 19 ≤ (a0.size : Int)
              · rw [if_pos c12] at H
                have c12b0 := eq_true c12
                have c12b1 : decide (19 ≤ (a0.size : Int)) = true := decide_eq_true c12
                clear c12
                replace H := Option.bind_eq_some_iff.mp H
                obtain ⟨t108, A130, H⟩ := H
                replace H : (if t106 > 2000000000000 then (escutcheonref1_GetReply.j0 k a0 t106 t107 (wrap64 (t108)) true) else (if t107 > 1000000000000 then (escutcheonref1_GetReply.j0 k a0 t106 t107 (wrap64 (t108)) true) else (escutcheonref1_GetReply.j0 k a0 t106 t107 (wrap64 (t108)) (decide ((a0.size : Int) < (wrap64 (20 + (wrap64 (t108))))))))) = some (r1, r2, r3, r4, r5, r6) := H
                have A13 := Aside0.mk A130
                clear A130
                have HC14 := Aside0.mk H
                clear H
                go_enter Tryz.func9, Tryz.ntmps9
                try go_wp2_with (first | ((with_reducible refine gate_dst (N := 2) rfl ?_); (try (refine gate_guard (by rfl) ?_; dsimp only)); refine box_event ?hg (N := 2) ?hd (cs := #[.int .i64 0, .string (⟨#[]⟩ : ByteArray), .int .i64 0, .int .i64 0, .slice none 0 0]) (t := 25) ?hr ?_; (case hd => rfl); (case hg => rfl); (case hr => first | (go_simp; done) | (go_simp; rfl)); intro gb105 hg w15 hbox hb; have n0_ := Aside0.mk (below_step (by repeat (first | (with_reducible first | exact HB.out | apply below_alloc | apply pw_below_drewN | apply below_drew1) | exact HB.out)) hb); have n1_ := Aside0.mk (hbox); have n2_ := Aside0.mk ((by rw [hg]; exact (below_size (by repeat (first | (with_reducible first | exact HB.out | apply below_alloc | apply pw_below_drewN | apply below_drew1) | exact HB.out))) : w.heap.size ≤ gb105)); have n3_ := Aside0.mk ((by rw [hg]; exact (below_size (by repeat (first | (with_reducible first | exact HB.out | apply below_alloc | apply pw_below_drewN | apply below_drew1) | exact HB.out))) : w.heap.size ≤ gb105)); clear HB; have HB := n0_; have BK105 := n1_; have GW105 := n2_; have GE105 := n3_; clear n0_ n1_ n2_ n3_; clear hb hbox hg))
                have n0_ := Aside0.mk (blk_drew BK105.out)
                have n1_ := Aside0.mk (below_drew1 HB.out)
                clear BK105
                clear HB
                have BK105 := n0_
                have HB := n1_
                clear n0_ n1_
                refine start_ (n := 8) (S := fun w' => True) (ds := []) #[false, false, false, false, false, false, false, false] (by kernel_rfl) rfl rfl trivial (fun hHeld => ?_); refine with_tabW escutcheonref1_GetReply.tab3 escutcheonref1_GetReply.bits3 (fun HT_ HW_ => ?_)
                generalize w15.drew = w16 at BK105 HB hHeld ⊢
                refine pure_ (i := 0) (N := some 16) (v := ?_) (a' := ?_) #[true, false, false, false, false, false, false, false] rfl rfl (any_of HT_.out (by kernel_rfl)) (fun _ _ _ h => h) (Or.inl ⟨by rfl, ?_⟩) ?_ ?_
                rotate_left
                · intro w'
                  go_simp
                  with_reducible rfl
                rotate_left
                · simp only [Act.put, List.setIfInBounds_toArray, List.set_cons_zero, List.set_cons_succ, i64_w, i32_w]
                  rfl
                refine pure_ (i := 1) (N := some 17) (v := ?_) (a' := ?_) #[true, true, false, false, false, false, false, false] rfl rfl (any_of HT_.out (by kernel_rfl)) (fun _ _ _ h => h) (Or.inl ⟨by rfl, ?_⟩) ?_ ?_
                rotate_left
                · intro w'
                  go_simp
                  with_reducible rfl
                rotate_left
                · simp only [Act.put, List.setIfInBounds_toArray, List.set_cons_zero, List.set_cons_succ, i64_w, i32_w]
                  rfl
                refine pure_ (i := 3) (N := some 19) (v := ?_) (a' := ?_) #[true, true, false, true, false, false, false, false] rfl rfl (any_of HT_.out (by kernel_rfl)) (fun _ _ _ h => h) (Or.inl ⟨by rfl, ?_⟩) ?_ ?_
                rotate_left
                · intro w'
                  go_simp
                  with_reducible rfl
                rotate_left
                · simp only [Act.put, List.setIfInBounds_toArray, List.set_cons_zero, List.set_cons_succ, i64_w, i32_w]
                  rfl
                refine pure_ (i := 4) (N := some 20) (v := ?_) (a' := ?_) #[true, true, false, true, true, false, false, false] rfl rfl (any_of HT_.out (by kernel_rfl)) (fun _ _ _ h => h) (Or.inl ⟨by rfl, ?_⟩) ?_ ?_
                rotate_left
                · intro w'
                  go_simp
                  with_reducible rfl
                rotate_left
                · simp only [Act.put, List.setIfInBounds_toArray, List.set_cons_zero, List.set_cons_succ, i64_w, i32_w]
                  rfl
                refine one_ (i := 2) (N := some 18) #[true, true, true, true, true, false, false, false] rfl rfl (one_of HT_.out (by kernel_rfl)) (by decide) (fun K hK => ?_)
                refine goes_ Tryz.func29 (by kernel_rfl) rfl #[.string (a0.extract 1 9)] (by rfl) rfl rfl (by (try simp only [List.map_toArray, List.map_cons, List.map_nil]); first | done | rfl | (simp only [List.length_drop, List.length_take]; rfl)) ?_
                with_reducible refine (escutcheonref1_Big.calls (a0.extract 1 9) t106 _ A7.out).mono ?_
                rintro e w17 ⟨rfl, hb⟩
                refine ⟨_, rfl, ?_⟩
                have n0_ := Aside0.mk (blk_below (g := gb105) (o := .cells #[.int .i64 0, .string (⟨#[]⟩ : ByteArray), .int .i64 0, .int .i64 0, .slice none 0 0] 25 (0, 0)) (by (with_reducible repeat (first | refine blk_drewN ?_ _ | refine blk_drew ?_ | refine blk_alloc ?_ _)); exact BK105.out) hb)
                have n1_ := Aside0.mk (below_step (by repeat (first | (with_reducible first | exact HB.out | apply below_alloc | apply pw_below_drewN | apply below_drew1 | refine below_set ?_ GE105.out) | exact HB.out)) hb)
                clear BK105
                clear HB
                have BK105 := n0_
                have HB := n1_
                clear n0_ n1_
                (try clear hb)
                (try clear hb2)
                (try clear hk)
                (try clear hi)
                refine hK.out _ _ trivial (fun hHeld => ?_)
                clear hK K
                refine norm_ (a' := ?_) ?_ ?_
                rotate_left
                · show Act.put _ (some 18) _ = _
                  simp only [Act.put, List.setIfInBounds_toArray, List.set_cons_zero, List.set_cons_succ, i64_w, i32_w]
                  rfl
                refine one_ (i := 5) (N := some 21) #[true, true, true, true, true, true, false, false] rfl rfl (one_of HT_.out (by kernel_rfl)) (by decide) (fun K hK => ?_)
                refine goes_ Tryz.func29 (by kernel_rfl) rfl #[.string (a0.extract 9 17)] (by rfl) rfl rfl (by (try simp only [List.map_toArray, List.map_cons, List.map_nil]); first | done | rfl | (simp only [List.length_drop, List.length_take]; rfl)) ?_
                with_reducible refine (escutcheonref1_Big.calls (a0.extract 9 17) t107 _ A10.out).mono ?_
                rintro e w18 ⟨rfl, hb⟩
                refine ⟨_, rfl, ?_⟩
                have n0_ := Aside0.mk (blk_below (g := gb105) (o := .cells #[.int .i64 0, .string (⟨#[]⟩ : ByteArray), .int .i64 0, .int .i64 0, .slice none 0 0] 25 (0, 0)) (by (with_reducible repeat (first | refine blk_drewN ?_ _ | refine blk_drew ?_ | refine blk_alloc ?_ _)); exact BK105.out) hb)
                have n1_ := Aside0.mk (below_step (by repeat (first | (with_reducible first | exact HB.out | apply below_alloc | apply pw_below_drewN | apply below_drew1 | refine below_set ?_ GE105.out) | exact HB.out)) hb)
                clear BK105
                clear HB
                have BK105 := n0_
                have HB := n1_
                clear n0_ n1_
                (try clear hb)
                (try clear hb2)
                (try clear hk)
                (try clear hi)
                refine hK.out _ _ trivial (fun hHeld => ?_)
                clear hK K
                refine norm_ (a' := ?_) ?_ ?_
                rotate_left
                · show Act.put _ (some 21) _ = _
                  simp only [Act.put, List.setIfInBounds_toArray, List.set_cons_zero, List.set_cons_succ, i64_w, i32_w]
                  rfl
                refine pure_ (i := 6) (N := some 4) (v := ?_) (a' := ?_) #[true, true, true, true, true, true, true, false] rfl rfl (any_of HT_.out (by kernel_rfl)) (fun _ _ _ h => h) (Or.inl ⟨by rfl, ?_⟩) ?_ ?_
                rotate_left
                · intro w'
                  go_simp
                  with_reducible rfl
                rotate_left
                · simp only [Act.put, List.setIfInBounds_toArray, List.set_cons_zero, List.set_cons_succ, i64_w, i32_w]
                  rfl
                refine pure_ (i := 7) (N := some 5) (v := ?_) (a' := ?_) #[true, true, true, true, true, true, true, true] rfl rfl (any_of HT_.out (by kernel_rfl)) (fun _ _ _ h => h) (Or.inl ⟨by rfl, ?_⟩) ?_ ?_
                rotate_left
                · intro w'
                  go_simp
                  with_reducible rfl
                rotate_left
                · simp only [Act.put, List.setIfInBounds_toArray, List.set_cons_zero, List.set_cons_succ, i64_w, i32_w]
                  rfl
                refine done_ (done_of HT_.out (by kernel_rfl)) ?_
                go_upto_region 5 with (first | ((with_reducible refine gate_callee (f := 29) rfl ?_); refine goesL_ (some 24) rfl rfl Tryz.func29 (by kernel_rfl) rfl #[.string (a0.extract 17 19)] rfl (by (try simp only [List.map_toArray, List.map_cons, List.map_nil]); first | done | rfl | (simp only [List.length_drop, List.length_take]; rfl)) ?_; (with_reducible refine (escutcheonref1_Big.calls (a0.extract 17 19) t108 _ A13.out).mono ?_); rintro e w19 ⟨rfl, hb⟩; refine ⟨_, rfl, ?_⟩; have n0_ := Aside0.mk (blk_below (g := gb105) (o := .cells #[.int .i64 0, .string (⟨#[]⟩ : ByteArray), .int .i64 0, .int .i64 0, .slice none 0 0] 25 (0, 0)) (by (with_reducible repeat (first | refine blk_drewN ?_ _ | refine blk_drew ?_ | refine blk_alloc ?_ _)); exact BK105.out) hb); have n1_ := Aside0.mk (below_step (by repeat (first | (with_reducible first | exact HB.out | apply below_alloc | apply pw_below_drewN | apply below_drew1 | refine below_set ?_ GE105.out) | exact HB.out)) hb); clear BK105; clear HB; have BK105 := n0_; have HB := n1_; clear n0_ n1_; (try clear hb); (try clear hb2); (try clear hk); (try clear hi)))
                (try simp only [Act.put, List.setIfInBounds_toArray, List.set_cons_zero, List.set_cons_succ])
                go_cut [38] (fun v38 wc => ∃ (kq : Nat) (x38_13 : Bool), v38 = .bool x38_13 ∧ Aside0 (escutcheonref1_GetReply.j0 kq a0 t106 t107 (wrap64 (t108)) x38_13 = some (r1, r2, r3, r4, r5, r6)) ∧ Aside0 (kq ≤ k) ∧ Aside0 (wc.heap[gb105]? = some (.cells #[.int .i64 0, .string (⟨#[]⟩ : ByteArray), .int .i64 0, .int .i64 0, (.slice none 0 0)] 25 (0, 0))) ∧ Aside0 (Below w.heap.size w wc))
                case first =>
                  have H := HC14.out
                  clear HC14
                  by_cases c20 : t106 > 2000000000000
                  · rw [if_pos c20] at H
                    have c20b0 : decide (2000000000000 < t106) = true := decide_eq_true c20
                    clear c20
                    (first | rw [c20b0] | (simp only [i64_w, i32_w]; rw [c20b0]) | skip)
                    have H' := Aside0.mk H
                    clear H
                    go_wp2
                    go_meet
                    case rel => exact ⟨_, (true), (by first | rfl | (simp; done) | (simp [*]; done)), H', ⟨by first | omega | exact Nat.le_refl _⟩, ⟨by (with_reducible repeat (first | refine blk_drewN ?_ _ | refine blk_drew ?_ | refine blk_alloc ?_ _)); exact BK105.out⟩, ⟨by repeat (first | (with_reducible first | exact HB.out | apply below_alloc | apply pw_below_drewN | apply below_drew1 | refine below_set ?_ GE105.out) | exact HB.out)⟩⟩
                  · rw [if_neg c20] at H
                    have c20b0 : decide (2000000000000 < t106) = false := decide_eq_false c20
                    clear c20
                    (first | rw [c20b0] | (simp only [i64_w, i32_w]; rw [c20b0]) | skip)
                    by_cases c21 : t107 > 1000000000000
                    · rw [if_pos c21] at H
                      have c21b0 : decide (1000000000000 < t107) = true := decide_eq_true c21
                      clear c21
                      have H' := Aside0.mk H
                      clear H
                      go_wp2
                      go_meet
                      case rel => exact ⟨_, (true), (by first | rfl | (simp; done) | (simp [*]; done)), H', ⟨by first | omega | exact Nat.le_refl _⟩, ⟨by (with_reducible repeat (first | refine blk_drewN ?_ _ | refine blk_drew ?_ | refine blk_alloc ?_ _)); exact BK105.out⟩, ⟨by repeat (first | (with_reducible first | exact HB.out | apply below_alloc | apply pw_below_drewN | apply below_drew1 | refine below_set ?_ GE105.out) | exact HB.out)⟩⟩
                    · rw [if_neg c21] at H
                      have c21b0 : decide (1000000000000 < t107) = false := decide_eq_false c21
                      clear c21
                      have H' := Aside0.mk H
                      clear H
                      go_wp2
                      go_meet
                      case rel => exact ⟨_, (decide ((a0.size : Int) < (wrap64 (20 + (wrap64 (t108)))))), (by first | rfl | (simp; done) | (simp [*]; done)), H', ⟨by first | omega | exact Nat.le_refl _⟩, ⟨by (with_reducible repeat (first | refine blk_drewN ?_ _ | refine blk_drew ?_ | refine blk_alloc ?_ _)); exact BK105.out⟩, ⟨by repeat (first | (with_reducible first | exact HB.out | apply below_alloc | apply pw_below_drewN | apply below_drew1 | refine below_set ?_ GE105.out) | exact HB.out)⟩⟩
                case rest =>
                  clear HC14
                  try clear c1
                  try clear c2
                  try clear c2b0
                  try clear c2b1
                  try clear p2
                  try clear c5
                  try clear c5b0
                  try clear c5b1
                  try clear c6
                  try clear c6b0
                  try clear c6b1
                  try clear p6
                  try clear c8
                  try clear c8b0
                  try clear c8b1
                  try clear c9
                  try clear c9b0
                  try clear c9b1
                  try clear c11
                  try clear c11b0
                  try clear c11b1
                  try clear c12
                  try clear c12b0
                  try clear c12b1
                  try clear c20
                  try clear c20b0
                  try clear c21
                  try clear c21b0
                  try clear hcz4_0
                  try clear hcz4_1
                  try clear hcz4_2
                  try clear hcz4_3
                  try clear hcz4_4
                  try clear hfz4_0
                  try clear hfz4_1
                  try clear hfz4_2
                  try clear hfz4_3
                  try clear hfz4_4
                  obtain ⟨kq, x38_13, rfl, HA, HJ13, BK105, HB⟩ := hcut
                  cases kq with
                  | zero => exact absurd HA.out (by simp [escutcheonref1_GetReply.j0])
                  | succ kj13 =>
                    have H := HA.out
                    clear HA
                    simp only [escutcheonref1_GetReply.j0] at H
                    by_cases c22 : x38_13 = true
                    · subst c22
                      have H1 : (some (0, (⟨#[]⟩ : ByteArray), 0, 0, ([] : List ByteArray), false)) = some (r1, r2, r3, r4, r5, r6) := by rw [if_pos rfl] at H; exact H
                      clear H
                      have H := H1
                      clear H1
                      simp only [Option.some.injEq, Prod.mk.injEq] at H
                      obtain ⟨rfl, rfl, rfl, rfl, rfl, rfl⟩ := H
                      have hcz23_0 : wc.cell? ⟨gb105, 0, none⟩ = some (.int .i64 0) := (blk_cell BK105.out 0).trans rfl
                      have hcz23_1 : wc.cell? ⟨gb105, 1, none⟩ = some (.string (⟨#[]⟩ : ByteArray)) := (blk_cell BK105.out 1).trans rfl
                      have hcz23_2 : wc.cell? ⟨gb105, 2, none⟩ = some (.int .i64 0) := (blk_cell BK105.out 2).trans rfl
                      have hcz23_3 : wc.cell? ⟨gb105, 3, none⟩ = some (.int .i64 0) := (blk_cell BK105.out 3).trans rfl
                      have hcz23_4 : wc.cell? ⟨gb105, 4, none⟩ = some (.slice none 0 0) := (blk_cell BK105.out 4).trans rfl
                      have hfz23_0 := blk_frozen BK105.out 0
                      have hfz23_1 := blk_frozen BK105.out 1
                      have hfz23_2 := blk_frozen BK105.out 2
                      have hfz23_3 := blk_frozen BK105.out 3
                      have hfz23_4 := blk_frozen BK105.out 4
                      go_wp2
                      refine bodyPost_ret (results_ct rfl _ _ gb105 25 #[.int .i64 0, .string (⟨#[]⟩ : ByteArray), .int .i64 0, .int .i64 0, .slice none 0 0] (0, 0) _ rfl (by (with_reducible repeat (first | refine blk_drewN ?_ _ | refine blk_drew ?_ | refine blk_alloc ?_ _)); refine blk_put (cs := #[.int .i64 0, .string (⟨#[]⟩ : ByteArray), .int .i64 0, .int .i64 0, .slice none 0 0]) ?_ 4 _ rfl; (with_reducible repeat (first | refine blk_drewN ?_ _ | refine blk_drew ?_ | refine blk_alloc ?_ _)); refine blk_put (cs := #[.int .i64 0, .string (⟨#[]⟩ : ByteArray), .int .i64 0, .int .i64 0, .slice none 0 0]) ?_ 3 _ rfl; (with_reducible repeat (first | refine blk_drewN ?_ _ | refine blk_drew ?_ | refine blk_alloc ?_ _)); refine blk_put (cs := #[.int .i64 0, .string (⟨#[]⟩ : ByteArray), .int .i64 0, .int .i64 0, .slice none 0 0]) ?_ 2 _ rfl; (with_reducible repeat (first | refine blk_drewN ?_ _ | refine blk_drew ?_ | refine blk_alloc ?_ _)); refine blk_put (cs := #[.int .i64 0, .string (⟨#[]⟩ : ByteArray), .int .i64 0, .int .i64 0, .slice none 0 0]) ?_ 1 _ rfl; (with_reducible repeat (first | refine blk_drewN ?_ _ | refine blk_drew ?_ | refine blk_alloc ?_ _)); refine blk_put (cs := #[.int .i64 0, .string (⟨#[]⟩ : ByteArray), .int .i64 0, .int .i64 0, .slice none 0 0]) ?_ 0 _ rfl; (with_reducible repeat (first | refine blk_drewN ?_ _ | refine blk_drew ?_ | refine blk_alloc ?_ _)); exact BK105.out) Tryz.underlying25 rfl (by kernel_rfl)) rfl ?_
                      exact ⟨_, by first | rfl | (simp [errW_none, errW_some] <;> rfl) | (simp [*, errW_none, errW_some] <;> rfl), by first | exact Kd.R_nil _ _ _ _ _ | exact Kd.N_nil _ _ _ _ _ | exact Kd.V_nil _ _ _ _ _ | exact Kd.Q_nil _ _ _ _ _ | exact Kd.S_nil _ _ _ _ _, by repeat (first | (with_reducible first | exact HB.out | apply below_alloc | apply pw_below_drewN | apply below_drew1 | refine below_set ?_ GE105.out) | exact HB.out)⟩
                    · replace c22 := Bool.eq_false_iff.mpr c22
                      subst c22
                      have H1 : (if 0 < (a0.size : Int) then (if 19 ≤ (wrap64 (19 + (wrap64 (t108)))) then (if (wrap64 (19 + (wrap64 (t108)))) ≤ (a0.size : Int) then (escutcheonref1_GetReply.l0 kj13 a0 (wrap64 (t108)) (wrap64 (20 + (wrap64 (t108)))) 0 (wrap64 (bt a0 0)) (a0.extract 19 ((wrap64 (19 + (wrap64 (t108)))) : Int).toNat) (wrap64 ((wrap64 (t106)) - 1000000000000)) (wrap64 (t107)) ([] : List ByteArray)) else (none)) else (none)) else (none)) = some (r1, r2, r3, r4, r5, r6) := by rw [if_neg (show ¬ (false = true) by decide)] at H; exact H
                      clear H
                      have H := H1
                      clear H1
                      by_cases c24 : 0 < (a0.size : Int)
                      · rw [if_pos c24] at H
                        have c24b0 : decide (0 < (a0.size : Int)) = true := decide_eq_true c24
                        have c24b1 : decide (0 < a0.size) = true := decide_eq_true (by omega)
                        clear c24
                        by_cases c26 : 19 ≤ (wrap64 (19 + (wrap64 (t108))))
                        · rw [if_pos c26] at H
                          have c26b0 := eq_true c26
                          have c26b1 : decide (19 ≤ (wrap64 (19 + (wrap64 (t108))))) = true := decide_eq_true c26
                          by_cases c27 : (wrap64 (19 + (wrap64 (t108)))) ≤ (a0.size : Int)
                          · rw [if_pos c27] at H
                            have c27b0 := eq_true c27
                            have c27b1 : decide ((wrap64 (19 + (wrap64 (t108)))) ≤ (a0.size : Int)) = true := decide_eq_true c27
                            have H' := Aside0.mk H
                            clear H
                            try go_wp2
                            have n0_ := Aside0.mk (blk_drew BK105.out)
                            have n1_ := Aside0.mk (below_drew1 HB.out)
                            clear BK105
                            clear HB
                            have BK105 := n0_
                            have HB := n1_
                            clear n0_ n1_
                            have p25 : 0 ≤ (0 : Int) := (by omega)
                            have q25 : 0 < a0.size := (by have : (0 : Int) < (a0.size : Int) := of_decide_eq_true (by first | (with_reducible assumption) | assumption); omega)
                            have hx25 : ∀ h : 0 < a0.size, ((a0[0]'h).toNat : Int) = bt a0 0 := bt_at a0 0
                            clear p25
                            have qi25 : (0 < (a0.size : Int)) = True := eq_true (of_decide_eq_true (by first | (with_reducible assumption) | assumption))
                            replace q25 := eq_true q25
                            refine start_ (n := 15) (S := fun w' => True) (ds := []) #[false, false, false, false, false, false, false, false, false, false, false, false, false, false, false] (by kernel_rfl) rfl rfl trivial (fun hHeld => ?_); refine with_tabW escutcheonref1_GetReply.tab7 escutcheonref1_GetReply.bits7 (fun HT_ HW_ => ?_)
                            generalize wc.drew = w28 at BK105 HB hHeld ⊢
                            refine pure_ (i := 0) (N := some 40) (v := ?_) (a' := ?_) #[true, false, false, false, false, false, false, false, false, false, false, false, false, false, false] rfl rfl (any_of HT_.out (by kernel_rfl)) (fun _ _ _ h => h) (Or.inl ⟨by rfl, ?_⟩) ?_ ?_
                            rotate_left
                            · intro w'
                              go_simp
                              with_reducible rfl
                            rotate_left
                            · simp only [Act.put, List.setIfInBounds_toArray, List.set_cons_zero, List.set_cons_succ, i64_w, i32_w]
                              rfl
                            refine pure_ (i := 3) (N := some 43) (v := ?_) (a' := ?_) #[true, false, false, true, false, false, false, false, false, false, false, false, false, false, false] rfl rfl (any_of HT_.out (by kernel_rfl)) (fun _ _ _ h => h) (Or.inl ⟨by rfl, ?_⟩) ?_ ?_
                            rotate_left
                            · intro w'
                              go_simp
                              with_reducible rfl
                            rotate_left
                            · simp only [Act.put, List.setIfInBounds_toArray, List.set_cons_zero, List.set_cons_succ, i64_w, i32_w]
                              rfl
                            refine pure_ (i := 4) (N := some 44) (v := ?_) (a' := ?_) #[true, false, false, true, true, false, false, false, false, false, false, false, false, false, false] rfl rfl (any_of HT_.out (by kernel_rfl)) (fun _ _ _ h => h) (Or.inl ⟨by rfl, ?_⟩) ?_ ?_
                            rotate_left
                            · intro w'
                              go_simp
                              with_reducible rfl
                            rotate_left
                            · simp only [Act.put, List.setIfInBounds_toArray, List.set_cons_zero, List.set_cons_succ, i64_w, i32_w]
                              rfl
                            refine pure_ (i := 5) (N := some 45) (v := ?_) (a' := ?_) #[true, false, false, true, true, true, false, false, false, false, false, false, false, false, false] rfl rfl (any_of HT_.out (by kernel_rfl)) (fun _ _ _ h => h) (Or.inl ⟨by rfl, ?_⟩) ?_ ?_
                            rotate_left
                            · intro w'
                              go_simp
                              with_reducible rfl
                            rotate_left
                            · simp only [Act.put, List.setIfInBounds_toArray, List.set_cons_zero, List.set_cons_succ, i64_w, i32_w]
                              rfl
                            refine pure_ (i := 6) (N := some 46) (v := ?_) (a' := ?_) #[true, false, false, true, true, true, true, false, false, false, false, false, false, false, false] rfl rfl (any_of HT_.out (by kernel_rfl)) (fun _ _ _ h => h) (Or.inl ⟨by rfl, ?_⟩) ?_ ?_
                            rotate_left
                            · intro w'
                              go_simp
                              with_reducible rfl
                            rotate_left
                            · simp only [Act.put, List.setIfInBounds_toArray, List.set_cons_zero, List.set_cons_succ, i64_w, i32_w]
                              rfl
                            refine pure_ (i := 7) (N := some 47) (v := ?_) (a' := ?_) #[true, false, false, true, true, true, true, true, false, false, false, false, false, false, false] rfl rfl (any_of HT_.out (by kernel_rfl)) (fun _ _ _ h => h) (Or.inl ⟨by rfl, ?_⟩) ?_ ?_
                            rotate_left
                            · intro w'
                              go_simp
                              with_reducible rfl
                            rotate_left
                            · simp only [Act.put, List.setIfInBounds_toArray, List.set_cons_zero, List.set_cons_succ, i64_w, i32_w]
                              rfl
                            refine pure_ (i := 8) (N := some 48) (v := ?_) (a' := ?_) #[true, false, false, true, true, true, true, true, true, false, false, false, false, false, false] rfl rfl (any_of HT_.out (by kernel_rfl)) (fun _ _ _ h => h) (Or.inl ⟨by rfl, ?_⟩) ?_ ?_
                            rotate_left
                            · intro w'
                              go_simp
                              with_reducible rfl
                            rotate_left
                            · simp only [Act.put, List.setIfInBounds_toArray, List.set_cons_zero, List.set_cons_succ, i64_w, i32_w]
                              rfl
                            refine pure_ (i := 9) (N := some 49) (v := ?_) (a' := ?_) #[true, false, false, true, true, true, true, true, true, true, false, false, false, false, false] rfl rfl (any_of HT_.out (by kernel_rfl)) (fun _ _ _ h => h) (Or.inl ⟨by rfl, ?_⟩) ?_ ?_
                            rotate_left
                            · intro w'
                              go_simp
                              with_reducible rfl
                            rotate_left
                            · simp only [Act.put, List.setIfInBounds_toArray, List.set_cons_zero, List.set_cons_succ, i64_w, i32_w]
                              rfl
                            refine pure_ (i := 10) (N := some 50) (v := ?_) (a' := ?_) #[true, false, false, true, true, true, true, true, true, true, true, false, false, false, false] rfl rfl (any_of HT_.out (by kernel_rfl)) (fun _ _ _ h => h) (Or.inl ⟨by rfl, ?_⟩) ?_ ?_
                            rotate_left
                            · intro w'
                              go_simp
                              with_reducible rfl
                            rotate_left
                            · simp only [Act.put, List.setIfInBounds_toArray, List.set_cons_zero, List.set_cons_succ, i64_w, i32_w]
                              rfl
                            refine pure_ (i := 11) (N := some 51) (v := ?_) (a' := ?_) #[true, false, false, true, true, true, true, true, true, true, true, true, false, false, false] rfl rfl (any_of HT_.out (by kernel_rfl)) (fun _ _ _ h => h) (Or.inl ⟨by rfl, ?_⟩) ?_ ?_
                            rotate_left
                            · intro w'
                              go_simp
                              with_reducible rfl
                            rotate_left
                            · simp only [Act.put, List.setIfInBounds_toArray, List.set_cons_zero, List.set_cons_succ, i64_w, i32_w]
                              rfl
                            refine take_ (i := 1) (N := some 41) (v := ?_) (a' := ?_) #[true, true, false, true, true, true, true, true, true, true, true, true, false, false, false] rfl rfl (take_ofW HT_.out HW_.out (by kernel_rfl)) (fun _ _ _ h => h) (Or.inl ⟨by rfl, ?_⟩) hHeld ?_ ?_
                            rotate_left
                            · intro w' _
                              go_simp
                              with_reducible rfl
                            rotate_left
                            · simp only [Act.put, List.setIfInBounds_toArray, List.set_cons_zero, List.set_cons_succ, i64_w, i32_w]
                              rfl
                            refine pure_ (i := 2) (N := some 42) (v := ?_) (a' := ?_) #[true, true, true, true, true, true, true, true, true, true, true, true, false, false, false] rfl rfl (any_of HT_.out (by kernel_rfl)) (fun _ _ _ h => h) (Or.inl ⟨by rfl, ?_⟩) ?_ ?_
                            rotate_left
                            · intro w'
                              go_simp
                              with_reducible rfl
                            rotate_left
                            · simp only [Act.put, List.setIfInBounds_toArray, List.set_cons_zero, List.set_cons_succ, i64_w, i32_w]
                              rfl
                            refine pure_ (i := 12) (N := some 52) (v := ?_) (a' := ?_) #[true, true, true, true, true, true, true, true, true, true, true, true, true, false, false] rfl rfl (any_of HT_.out (by kernel_rfl)) (fun _ _ _ h => h) (Or.inl ⟨by rfl, ?_⟩) ?_ ?_
                            rotate_left
                            · intro w'
                              go_simp
                              with_reducible rfl
                            rotate_left
                            · simp only [Act.put, List.setIfInBounds_toArray, List.set_cons_zero, List.set_cons_succ, i64_w, i32_w]
                              rfl
                            refine one_ (i := 13) (N := some 7) #[true, true, true, true, true, true, true, true, true, true, true, true, true, true, false] rfl rfl (one_of HT_.out (by kernel_rfl)) (by decide) (fun K hK => ?_)
                            refine box_step ?hg (N := 7) ?hd (cs := #[.int .i64 0, .string (⟨#[]⟩ : ByteArray), .int .i64 0, .int .i64 0, .slice none 0 0]) (t := 25) ?hr ?_; (case hd => rfl); (case hg => rfl); (case hr => first | (go_simp; done) | (go_simp; rfl))
                            intro gb109 hg w29 hbox hb
                            have n0_ := Aside0.mk (blk_below (g := gb105) (o := .cells #[.int .i64 0, .string (⟨#[]⟩ : ByteArray), .int .i64 0, .int .i64 0, .slice none 0 0] 25 (0, 0)) (by (with_reducible repeat (first | refine blk_drewN ?_ _ | refine blk_drew ?_ | refine blk_alloc ?_ _)); exact BK105.out) hb)
                            have n1_ := Aside0.mk (below_step (by repeat (first | (with_reducible first | exact HB.out | apply below_alloc | apply pw_below_drewN | apply below_drew1 | refine below_set ?_ GE105.out) | exact HB.out)) hb)
                            have n2_ := Aside0.mk (hbox)
                            have n3_ := Aside0.mk ((by rw [hg]; exact (below_size (by repeat (first | (with_reducible first | exact HB.out | apply below_alloc | apply pw_below_drewN | apply below_drew1 | refine below_set ?_ GE105.out) | exact HB.out))) : w.heap.size ≤ gb109))
                            have n4_ := Aside0.mk ((by rw [hg]; exact (below_size (by repeat (first | (with_reducible first | exact HB.out | apply below_alloc | apply pw_below_drewN | apply below_drew1 | refine below_set ?_ GE105.out) | exact HB.out))) : w.heap.size ≤ gb109))
                            have n5_ := Aside0.mk ((by rw [hg]; exact Nat.ne_of_lt (blk_lt (g := gb105) (o := .cells #[.int .i64 0, .string (⟨#[]⟩ : ByteArray), .int .i64 0, .int .i64 0, .slice none 0 0] 25 (0, 0)) (by (with_reducible repeat (first | refine blk_drewN ?_ _ | refine blk_drew ?_ | refine blk_alloc ?_ _)); exact BK105.out)) : gb105 ≠ gb109))
                            have n6_ := Aside0.mk ((by rw [hg]; exact Nat.ne_of_gt (blk_lt (g := gb105) (o := .cells #[.int .i64 0, .string (⟨#[]⟩ : ByteArray), .int .i64 0, .int .i64 0, .slice none 0 0] 25 (0, 0)) (by (with_reducible repeat (first | refine blk_drewN ?_ _ | refine blk_drew ?_ | refine blk_alloc ?_ _)); exact BK105.out)) : gb109 ≠ gb105))
                            clear BK105
                            clear HB
                            have BK105 := n0_
                            have HB := n1_
                            have BK109 := n2_
                            have GW109 := n3_
                            have GE109 := n4_
                            have NB105_109 := n5_
                            have NB109_105 := n6_
                            clear n0_ n1_ n2_ n3_ n4_ n5_ n6_
                            clear hb hbox hg
                            refine hK.out _ _ trivial (fun hHeld => ?_)
                            clear hK K
                            refine norm_ (a' := ?_) ?_ ?_
                            rotate_left
                            · show Act.put _ (some 7) _ = _
                              simp only [Act.put, List.setIfInBounds_toArray, List.set_cons_zero, List.set_cons_succ, i64_w, i32_w]
                              rfl
                            refine one_ (i := 14) (N := none) #[true, true, true, true, true, true, true, true, true, true, true, true, true, true, true] rfl rfl (one_of HT_.out (by kernel_rfl)) (by decide) (fun K hK => ?_)
                            have hs30 : w29.cell? ⟨gb109, 0, none⟩ = some (.int .i64 0) := (blk_cell BK109.out 0).trans rfl
                            have hfs30 := blk_frozen BK109.out 0
                            have hns30_0 := NB105_109.out
                            have hms30_0 := NB109_105.out
                            have hs31 : w29.cell? ⟨gb109, 1, none⟩ = some (.string (⟨#[]⟩ : ByteArray)) := (blk_cell BK109.out 1).trans rfl
                            have hfs31 := blk_frozen BK109.out 1
                            have hns31_0 := NB105_109.out
                            have hms31_0 := NB109_105.out
                            have hs32 : w29.cell? ⟨gb109, 2, none⟩ = some (.int .i64 0) := (blk_cell BK109.out 2).trans rfl
                            have hfs32 := blk_frozen BK109.out 2
                            have hns32_0 := NB105_109.out
                            have hms32_0 := NB109_105.out
                            have hs33 : w29.cell? ⟨gb109, 3, none⟩ = some (.int .i64 0) := (blk_cell BK109.out 3).trans rfl
                            have hfs33 := blk_frozen BK109.out 3
                            have hns33_0 := NB105_109.out
                            have hms33_0 := NB109_105.out
                            have hs34 : w29.cell? ⟨gb109, 4, none⟩ = some (.slice none 0 0) := (blk_cell BK109.out 4).trans rfl
                            have hfs34 := blk_frozen BK109.out 4
                            have hns34_0 := NB105_109.out
                            have hms34_0 := NB109_105.out
                            refine skip_ (w1 := ?_) (by rfl) rfl ?_ ?_
                            rotate_left
                            · go_simp
                              rfl
                            refine hK.out _ _ trivial (fun hHeld => ?_)
                            clear hK K
                            refine done_ (done_of HT_.out (by kernel_rfl)) ?_
                            try go_wp2
                            go_loopg [8, 9] kj13 (fun kq v8 v9 w' => ∃ (x8_2 : Int) (x9_2 : Int) (x106000_2 : Int) (x106001_2 : ByteArray) (x106002_2 : Int) (x106003_2 : Int) (x110004_2 : List ByteArray) (u110004 : Value), v8 = .int .i64 x8_2 ∧ v9 = .int .i64 x9_2 ∧ Aside0 (escutcheonref1_GetReply.l0 kq a0 (wrap64 (t108)) x8_2 x9_2 (wrap64 (bt a0 0)) (a0.extract 19 ((wrap64 (19 + (wrap64 (t108)))) : Int).toNat) (wrap64 ((wrap64 (t106)) - 1000000000000)) (wrap64 (t107)) x110004_2 = some (r1, r2, r3, r4, r5, r6)) ∧ Aside0 (kq ≤ kj13) ∧ Aside0 (Kd.R Kd.string 9 w' w.heap.size (fun _ => True) u110004 x110004_2) ∧ Aside0 (w'.heap[gb105]? = some (.cells #[.int .i64 x106000_2, .string x106001_2, .int .i64 x106002_2, .int .i64 x106003_2, (.slice none 0 0)] 25 (0, 0))) ∧ Aside0 (w'.heap[gb109]? = some (.cells #[.int .i64 (wrap64 (bt a0 0)), .string (a0.extract 19 ((wrap64 (19 + (wrap64 (t108)))) : Int).toNat), .int .i64 (wrap64 ((wrap64 (t106)) - 1000000000000)), .int .i64 (wrap64 (t107)), u110004] 25 (0, 0))) ∧ Aside0 (Below w.heap.size w w'))
                            case atStart => exact ⟨(wrap64 (20 + (wrap64 (t108)))), (0), (0), ((⟨#[]⟩ : ByteArray)), (0), (0), (([] : List ByteArray)), (.slice none 0 0), (by first | rfl | (simp; done) | (simp [*]; done)), (by first | rfl | (simp; done) | (simp [*]; done)), H', ⟨Nat.le_refl _⟩, ⟨by first | exact Kd.R_nil _ _ _ _ _ | exact Kd.N_nil _ _ _ _ _ | exact Kd.V_nil _ _ _ _ _ | exact Kd.Q_nil _ _ _ _ _ | exact Kd.S_nil _ _ _ _ _⟩, ⟨by (with_reducible repeat (first | refine blk_drewN ?_ _ | refine blk_drew ?_ | refine blk_alloc ?_ _)); refine blk_far ?_ NB105_109.out _; (with_reducible repeat (first | refine blk_drewN ?_ _ | refine blk_drew ?_ | refine blk_alloc ?_ _)); refine blk_far ?_ NB105_109.out _; (with_reducible repeat (first | refine blk_drewN ?_ _ | refine blk_drew ?_ | refine blk_alloc ?_ _)); refine blk_far ?_ NB105_109.out _; (with_reducible repeat (first | refine blk_drewN ?_ _ | refine blk_drew ?_ | refine blk_alloc ?_ _)); refine blk_far ?_ NB105_109.out _; (with_reducible repeat (first | refine blk_drewN ?_ _ | refine blk_drew ?_ | refine blk_alloc ?_ _)); refine blk_far ?_ NB105_109.out _; (with_reducible repeat (first | refine blk_drewN ?_ _ | refine blk_drew ?_ | refine blk_alloc ?_ _)); exact BK105.out⟩, ⟨by (with_reducible repeat (first | refine blk_drewN ?_ _ | refine blk_drew ?_ | refine blk_alloc ?_ _)); refine blk_put (cs := #[.int .i64 (wrap64 (bt a0 0)), .string (a0.extract 19 ((wrap64 (19 + (wrap64 (t108)))) : Int).toNat), .int .i64 (wrap64 ((wrap64 (t106)) - 1000000000000)), .int .i64 (wrap64 (t107)), .slice none 0 0]) ?_ 4 _ rfl; (with_reducible repeat (first | refine blk_drewN ?_ _ | refine blk_drew ?_ | refine blk_alloc ?_ _)); refine blk_put (cs := #[.int .i64 (wrap64 (bt a0 0)), .string (a0.extract 19 ((wrap64 (19 + (wrap64 (t108)))) : Int).toNat), .int .i64 (wrap64 ((wrap64 (t106)) - 1000000000000)), .int .i64 0, .slice none 0 0]) ?_ 3 _ rfl; (with_reducible repeat (first | refine blk_drewN ?_ _ | refine blk_drew ?_ | refine blk_alloc ?_ _)); refine blk_put (cs := #[.int .i64 (wrap64 (bt a0 0)), .string (a0.extract 19 ((wrap64 (19 + (wrap64 (t108)))) : Int).toNat), .int .i64 0, .int .i64 0, .slice none 0 0]) ?_ 2 _ rfl; (with_reducible repeat (first | refine blk_drewN ?_ _ | refine blk_drew ?_ | refine blk_alloc ?_ _)); refine blk_put (cs := #[.int .i64 (wrap64 (bt a0 0)), .string (⟨#[]⟩ : ByteArray), .int .i64 0, .int .i64 0, .slice none 0 0]) ?_ 1 _ rfl; (with_reducible repeat (first | refine blk_drewN ?_ _ | refine blk_drew ?_ | refine blk_alloc ?_ _)); refine blk_put (cs := #[.int .i64 0, .string (⟨#[]⟩ : ByteArray), .int .i64 0, .int .i64 0, .slice none 0 0]) ?_ 0 _ rfl; (with_reducible repeat (first | refine blk_drewN ?_ _ | refine blk_drew ?_ | refine blk_alloc ?_ _)); exact BK109.out⟩, ⟨by repeat (first | (with_reducible first | exact HB.out | apply below_alloc | apply pw_below_drewN | apply below_drew1 | refine below_set ?_ GE105.out | refine below_set ?_ GE109.out) | exact HB.out)⟩⟩
                            case round =>
                              clear H'
                              try clear c1
                              try clear c2
                              try clear c2b0
                              try clear c2b1
                              try clear p2
                              try clear q2
                              try clear hx2
                              try clear qi2
                              try clear c5
                              try clear c5b0
                              try clear c5b1
                              try clear c6
                              try clear c6b0
                              try clear c6b1
                              try clear p6
                              try clear c8
                              try clear c8b0
                              try clear c8b1
                              try clear c9
                              try clear c9b0
                              try clear c9b1
                              try clear c11
                              try clear c11b0
                              try clear c11b1
                              try clear c12
                              try clear c12b0
                              try clear c12b1
                              try clear c20
                              try clear c20b0
                              try clear c21
                              try clear c21b0
                              try clear c22
                              try clear c24
                              try clear c24b0
                              try clear c24b1
                              try clear p25
                              try clear q25
                              try clear hx25
                              try clear qi25
                              try clear c26
                              try clear c26b0
                              try clear c26b1
                              try clear c27
                              try clear c27b0
                              try clear c27b1
                              try clear c29
                              try clear hcz23_0
                              try clear hcz23_1
                              try clear hcz23_2
                              try clear hcz23_3
                              try clear hcz23_4
                              try clear hcz4_0
                              try clear hcz4_1
                              try clear hcz4_2
                              try clear hcz4_3
                              try clear hcz4_4
                              try clear hfz23_0
                              try clear hfz23_1
                              try clear hfz23_2
                              try clear hfz23_3
                              try clear hfz23_4
                              try clear hfz4_0
                              try clear hfz4_1
                              try clear hfz4_2
                              try clear hfz4_3
                              try clear hfz4_4
                              try clear p2
                              try clear p25
                              try clear p6
                              try clear q25
                              obtain ⟨x8_2, x9_2, x106000_2, x106001_2, x106002_2, x106003_2, x110004_2, u110004, rfl, rfl, HA, HK2, HO_110004, BK105, BK109, HB⟩ := hrel
                              cases gk with
                              | zero => exact absurd HA.out (by simp [escutcheonref1_GetReply.l0])
                              | succ k2 =>
                                have H := HA.out
                                clear HA
                                simp only [escutcheonref1_GetReply.l0] at H
                                obtain ⟨ji35, hji35⟩ : ∃ j_ : Int, (wrap64 (19 + (wrap64 (t108)))) = j_ := ⟨_, rfl⟩
                                replace H : (if 0 ≤ (ji35) then (if (ji35) < (a0.size : Int) then (if x9_2 < (wrap64 (bt a0 (ji35))) then (if x8_2 ≥ (a0.size : Int) then (some (0, (⟨#[]⟩ : ByteArray), 0, 0, ([] : List ByteArray), false)) else (if 0 ≤ x8_2 then (if x8_2 < (a0.size : Int) then (if (wrap64 ((wrap64 (x8_2 + 1)) + (wrap64 (bt a0 x8_2)))) > (a0.size : Int) then (some (0, (⟨#[]⟩ : ByteArray), 0, 0, ([] : List ByteArray), false)) else (if 0 ≤ (wrap64 (x8_2 + 1)) then (if (wrap64 (x8_2 + 1)) ≤ (wrap64 ((wrap64 (x8_2 + 1)) + (wrap64 (bt a0 x8_2)))) then (if (wrap64 ((wrap64 (x8_2 + 1)) + (wrap64 (bt a0 x8_2)))) ≤ (a0.size : Int) then (if x110004_2.length < 8796093022208 then (escutcheonref1_GetReply.l0 k2 a0 (wrap64 (t108)) (wrap64 ((wrap64 (x8_2 + 1)) + (wrap64 (bt a0 x8_2)))) (wrap64 (x9_2 + 1)) (wrap64 (bt a0 0)) (a0.extract 19 ((ji35) : Int).toNat) (wrap64 ((wrap64 (t106)) - 1000000000000)) (wrap64 (t107)) (x110004_2 ++ [a0.extract ((wrap64 (x8_2 + 1)) : Int).toNat ((wrap64 ((wrap64 (x8_2 + 1)) + (wrap64 (bt a0 x8_2)))) : Int).toNat])) else (none)) else (none)) else (none)) else (none))) else (none)) else (none))) else ((escutcheonref1_PutReply.f (wrap64 (bt a0 0)) (a0.extract 19 ((ji35) : Int).toNat) (wrap64 ((wrap64 (t106)) - 1000000000000)) (wrap64 (t107)) x110004_2).bind fun bt113 => (if bt113.2 = true then (if bt113.1.toList = a0.toList then (some ((wrap64 (bt a0 0)), (a0.extract 19 ((ji35) : Int).toNat), (wrap64 ((wrap64 (t106)) - 1000000000000)), (wrap64 (t107)), x110004_2, true)) else (some (0, (⟨#[]⟩ : ByteArray), 0, 0, ([] : List ByteArray), false))) else (some (0, (⟨#[]⟩ : ByteArray), 0, 0, ([] : List ByteArray), false))))) else (none)) else (none)) = some (r1, r2, r3, r4, r5, r6) := by first | (rw [hji35] at H; exact H) | (simp only [hji35] at H ⊢; exact H)
                                (try rw [hji35] at c26b0)
                                (try rw [hji35] at c26b1)
                                (try rw [hji35] at c26)
                                (try rw [hji35] at c27b0)
                                (try rw [hji35] at c27b1)
                                (try rw [hji35] at c27)
                                have hji35w : (IntKind.i64.wrap (19 + (wrap64 (t108)))) = ji35 := (i64_w _).trans hji35
                                have BKn := BK109.out
                                rw [hji35] at BKn
                                replace BK109 := Aside0.mk BKn
                                clear BKn
                                by_cases c36 : 0 ≤ (ji35)
                                · rw [if_pos c36] at H
                                  have c36b0 : decide (0 ≤ (ji35)) = true := decide_eq_true c36
                                  clear c36
                                  by_cases c37 : (ji35) < (a0.size : Int)
                                  · rw [if_pos c37] at H
                                    have c37b0 : decide ((ji35) < (a0.size : Int)) = true := decide_eq_true c37
                                    clear c37
                                    by_cases c39 : x9_2 < (wrap64 (bt a0 (ji35)))
                                    · rw [if_pos c39] at H
                                      have c39b0 : decide (x9_2 < (wrap64 (bt a0 (ji35)))) = true := decide_eq_true c39
                                      clear c39
                                      by_cases c40 : x8_2 ≥ (a0.size : Int)
                                      · rw [if_pos c40] at H
                                        have c40b0 : decide ((a0.size : Int) ≤ x8_2) = true := decide_eq_true c40
                                        clear c40
                                        simp only [Option.some.injEq, Prod.mk.injEq] at H
                                        obtain ⟨rfl, rfl, rfl, rfl, rfl, rfl⟩ := H
                                        have p38 : 0 ≤ ((ji35) : Int) := of_decide_eq_true (by first | (with_reducible assumption) | assumption)
                                        have q38 : (ji35) < (a0.size : Int) := of_decide_eq_true (by first | (with_reducible assumption) | assumption)
                                        have hx38 := bt_at a0 (ji35)
                                        replace p38 := eq_true p38
                                        replace q38 := eq_true q38
                                        have hnb41 := NB105_109.out
                                        have hnc41 := NB109_105.out
                                        have hcz42_0 : wr.cell? ⟨gb105, 0, none⟩ = some (.int .i64 x106000_2) := (blk_cell BK105.out 0).trans rfl
                                        have hcz42_1 : wr.cell? ⟨gb105, 1, none⟩ = some (.string x106001_2) := (blk_cell BK105.out 1).trans rfl
                                        have hcz42_2 : wr.cell? ⟨gb105, 2, none⟩ = some (.int .i64 x106002_2) := (blk_cell BK105.out 2).trans rfl
                                        have hcz42_3 : wr.cell? ⟨gb105, 3, none⟩ = some (.int .i64 x106003_2) := (blk_cell BK105.out 3).trans rfl
                                        have hcz42_4 : wr.cell? ⟨gb105, 4, none⟩ = some (.slice none 0 0) := (blk_cell BK105.out 4).trans rfl
                                        have hfz42_0 := blk_frozen BK105.out 0
                                        have hfz42_1 := blk_frozen BK105.out 1
                                        have hfz42_2 := blk_frozen BK105.out 2
                                        have hfz42_3 := blk_frozen BK105.out 3
                                        have hfz42_4 := blk_frozen BK105.out 4
                                        go_wp2
                                        refine bodyPost_ret (results_ct rfl _ _ gb105 25 #[.int .i64 0, .string (⟨#[]⟩ : ByteArray), .int .i64 0, .int .i64 0, .slice none 0 0] (0, 0) _ rfl (by (with_reducible repeat (first | refine blk_drewN ?_ _ | refine blk_drew ?_ | refine blk_alloc ?_ _)); refine blk_put (cs := #[.int .i64 0, .string (⟨#[]⟩ : ByteArray), .int .i64 0, .int .i64 0, .slice none 0 0]) ?_ 4 _ rfl; (with_reducible repeat (first | refine blk_drewN ?_ _ | refine blk_drew ?_ | refine blk_alloc ?_ _)); refine blk_put (cs := #[.int .i64 0, .string (⟨#[]⟩ : ByteArray), .int .i64 0, .int .i64 x106003_2, .slice none 0 0]) ?_ 3 _ rfl; (with_reducible repeat (first | refine blk_drewN ?_ _ | refine blk_drew ?_ | refine blk_alloc ?_ _)); refine blk_put (cs := #[.int .i64 0, .string (⟨#[]⟩ : ByteArray), .int .i64 x106002_2, .int .i64 x106003_2, .slice none 0 0]) ?_ 2 _ rfl; (with_reducible repeat (first | refine blk_drewN ?_ _ | refine blk_drew ?_ | refine blk_alloc ?_ _)); refine blk_put (cs := #[.int .i64 0, .string x106001_2, .int .i64 x106002_2, .int .i64 x106003_2, .slice none 0 0]) ?_ 1 _ rfl; (with_reducible repeat (first | refine blk_drewN ?_ _ | refine blk_drew ?_ | refine blk_alloc ?_ _)); refine blk_put (cs := #[.int .i64 x106000_2, .string x106001_2, .int .i64 x106002_2, .int .i64 x106003_2, .slice none 0 0]) ?_ 0 _ rfl; (with_reducible repeat (first | refine blk_drewN ?_ _ | refine blk_drew ?_ | refine blk_alloc ?_ _)); exact BK105.out) Tryz.underlying25 rfl (by kernel_rfl)) rfl ?_
                                        exact ⟨_, by first | rfl | (simp [errW_none, errW_some] <;> rfl) | (simp only [← hji35]; first | rfl | (simp [errW_none, errW_some] <;> rfl)) | (simp [*, errW_none, errW_some] <;> rfl), by first | exact Kd.R_nil _ _ _ _ _ | exact Kd.N_nil _ _ _ _ _ | exact Kd.V_nil _ _ _ _ _ | exact Kd.Q_nil _ _ _ _ _ | exact Kd.S_nil _ _ _ _ _, by repeat (first | (with_reducible first | exact HB.out | apply below_alloc | apply pw_below_drewN | apply below_drew1 | refine below_set ?_ GE105.out | refine below_set ?_ GE109.out) | exact HB.out)⟩
                                      · rw [if_neg c40] at H
                                        have c40b0 : decide ((a0.size : Int) ≤ x8_2) = false := decide_eq_false c40
                                        clear c40
                                        by_cases c43 : 0 ≤ x8_2
                                        · rw [if_pos c43] at H
                                          have c43b0 : decide (0 ≤ x8_2) = true := decide_eq_true c43
                                          clear c43
                                          by_cases c44 : x8_2 < (a0.size : Int)
                                          · rw [if_pos c44] at H
                                            have c44b0 : decide (x8_2 < (a0.size : Int)) = true := decide_eq_true c44
                                            clear c44
                                            by_cases c46 : (wrap64 ((wrap64 (x8_2 + 1)) + (wrap64 (bt a0 x8_2)))) > (a0.size : Int)
                                            · rw [if_pos c46] at H
                                              have c46b0 : decide ((a0.size : Int) < (wrap64 ((wrap64 (x8_2 + 1)) + (wrap64 (bt a0 x8_2))))) = true := decide_eq_true c46
                                              clear c46
                                              simp only [Option.some.injEq, Prod.mk.injEq] at H
                                              obtain ⟨rfl, rfl, rfl, rfl, rfl, rfl⟩ := H
                                              have p38 : 0 ≤ ((ji35) : Int) := of_decide_eq_true (by first | (with_reducible assumption) | assumption)
                                              have q38 : (ji35) < (a0.size : Int) := of_decide_eq_true (by first | (with_reducible assumption) | assumption)
                                              have hx38 := bt_at a0 (ji35)
                                              replace p38 := eq_true p38
                                              replace q38 := eq_true q38
                                              have p45 : 0 ≤ (x8_2 : Int) := of_decide_eq_true (by first | (with_reducible assumption) | assumption)
                                              have q45 : x8_2 < (a0.size : Int) := of_decide_eq_true (by first | (with_reducible assumption) | assumption)
                                              have hx45 := bt_at a0 x8_2
                                              replace p45 := eq_true p45
                                              replace q45 := eq_true q45
                                              have hnb47 := NB105_109.out
                                              have hnc47 := NB109_105.out
                                              have hcz48_0 : wr.cell? ⟨gb105, 0, none⟩ = some (.int .i64 x106000_2) := (blk_cell BK105.out 0).trans rfl
                                              have hcz48_1 : wr.cell? ⟨gb105, 1, none⟩ = some (.string x106001_2) := (blk_cell BK105.out 1).trans rfl
                                              have hcz48_2 : wr.cell? ⟨gb105, 2, none⟩ = some (.int .i64 x106002_2) := (blk_cell BK105.out 2).trans rfl
                                              have hcz48_3 : wr.cell? ⟨gb105, 3, none⟩ = some (.int .i64 x106003_2) := (blk_cell BK105.out 3).trans rfl
                                              have hcz48_4 : wr.cell? ⟨gb105, 4, none⟩ = some (.slice none 0 0) := (blk_cell BK105.out 4).trans rfl
                                              have hfz48_0 := blk_frozen BK105.out 0
                                              have hfz48_1 := blk_frozen BK105.out 1
                                              have hfz48_2 := blk_frozen BK105.out 2
                                              have hfz48_3 := blk_frozen BK105.out 3
                                              have hfz48_4 := blk_frozen BK105.out 4
                                              go_wp2
                                              refine bodyPost_ret (results_ct rfl _ _ gb105 25 #[.int .i64 0, .string (⟨#[]⟩ : ByteArray), .int .i64 0, .int .i64 0, .slice none 0 0] (0, 0) _ rfl (by (with_reducible repeat (first | refine blk_drewN ?_ _ | refine blk_drew ?_ | refine blk_alloc ?_ _)); refine blk_put (cs := #[.int .i64 0, .string (⟨#[]⟩ : ByteArray), .int .i64 0, .int .i64 0, .slice none 0 0]) ?_ 4 _ rfl; (with_reducible repeat (first | refine blk_drewN ?_ _ | refine blk_drew ?_ | refine blk_alloc ?_ _)); refine blk_put (cs := #[.int .i64 0, .string (⟨#[]⟩ : ByteArray), .int .i64 0, .int .i64 x106003_2, .slice none 0 0]) ?_ 3 _ rfl; (with_reducible repeat (first | refine blk_drewN ?_ _ | refine blk_drew ?_ | refine blk_alloc ?_ _)); refine blk_put (cs := #[.int .i64 0, .string (⟨#[]⟩ : ByteArray), .int .i64 x106002_2, .int .i64 x106003_2, .slice none 0 0]) ?_ 2 _ rfl; (with_reducible repeat (first | refine blk_drewN ?_ _ | refine blk_drew ?_ | refine blk_alloc ?_ _)); refine blk_put (cs := #[.int .i64 0, .string x106001_2, .int .i64 x106002_2, .int .i64 x106003_2, .slice none 0 0]) ?_ 1 _ rfl; (with_reducible repeat (first | refine blk_drewN ?_ _ | refine blk_drew ?_ | refine blk_alloc ?_ _)); refine blk_put (cs := #[.int .i64 x106000_2, .string x106001_2, .int .i64 x106002_2, .int .i64 x106003_2, .slice none 0 0]) ?_ 0 _ rfl; (with_reducible repeat (first | refine blk_drewN ?_ _ | refine blk_drew ?_ | refine blk_alloc ?_ _)); exact BK105.out) Tryz.underlying25 rfl (by kernel_rfl)) rfl ?_
                                              exact ⟨_, by first | rfl | (simp [errW_none, errW_some] <;> rfl) | (simp only [← hji35]; first | rfl | (simp [errW_none, errW_some] <;> rfl)) | (simp [*, errW_none, errW_some] <;> rfl), by first | exact Kd.R_nil _ _ _ _ _ | exact Kd.N_nil _ _ _ _ _ | exact Kd.V_nil _ _ _ _ _ | exact Kd.Q_nil _ _ _ _ _ | exact Kd.S_nil _ _ _ _ _, by repeat (first | (with_reducible first | exact HB.out | apply below_alloc | apply pw_below_drewN | apply below_drew1 | refine below_set ?_ GE105.out | refine below_set ?_ GE109.out) | exact HB.out)⟩
                                            · rw [if_neg c46] at H
                                              have c46b0 : decide ((a0.size : Int) < (wrap64 ((wrap64 (x8_2 + 1)) + (wrap64 (bt a0 x8_2))))) = false := decide_eq_false c46
                                              clear c46
                                              obtain ⟨ji50, hji50⟩ : ∃ j_ : Int, (wrap64 (x8_2 + 1)) = j_ := ⟨_, rfl⟩
                                              replace H : (if 0 ≤ (ji50) then (if (ji50) ≤ (wrap64 ((ji50) + (wrap64 (bt a0 x8_2)))) then (if (wrap64 ((ji50) + (wrap64 (bt a0 x8_2)))) ≤ (a0.size : Int) then (if x110004_2.length < 8796093022208 then (escutcheonref1_GetReply.l0 k2 a0 (wrap64 (t108)) (wrap64 ((ji50) + (wrap64 (bt a0 x8_2)))) (wrap64 (x9_2 + 1)) (wrap64 (bt a0 0)) (a0.extract 19 ((ji35) : Int).toNat) (wrap64 ((wrap64 (t106)) - 1000000000000)) (wrap64 (t107)) (x110004_2 ++ [a0.extract ((ji50) : Int).toNat ((wrap64 ((ji50) + (wrap64 (bt a0 x8_2)))) : Int).toNat])) else (none)) else (none)) else (none)) else (none)) = some (r1, r2, r3, r4, r5, r6) := by first | (rw [hji50] at H; exact H) | (simp only [hji50] at H ⊢; exact H)
                                              (try rw [hji50] at c46b0)
                                              have hji50w : (IntKind.i64.wrap (x8_2 + 1)) = ji50 := (i64_w _).trans hji50
                                              by_cases c51 : 0 ≤ (ji50)
                                              · rw [if_pos c51] at H
                                                have c51b0 := eq_true c51
                                                have c51b1 : decide (0 ≤ (ji50)) = true := decide_eq_true c51
                                                clear c51
                                                by_cases c52 : (ji50) ≤ (wrap64 ((ji50) + (wrap64 (bt a0 x8_2))))
                                                · rw [if_pos c52] at H
                                                  have c52b0 := eq_true c52
                                                  have c52b1 : decide ((ji50) ≤ (wrap64 ((ji50) + (wrap64 (bt a0 x8_2))))) = true := decide_eq_true c52
                                                  by_cases c53 : (wrap64 ((ji50) + (wrap64 (bt a0 x8_2)))) ≤ (a0.size : Int)
                                                  · rw [if_pos c53] at H
                                                    have c53b0 := eq_true c53
                                                    have c53b1 : decide ((wrap64 ((ji50) + (wrap64 (bt a0 x8_2)))) ≤ (a0.size : Int)) = true := decide_eq_true c53
                                                    by_cases c54 : x110004_2.length < 8796093022208
                                                    · rw [if_pos c54] at H
                                                      have LMc54 := Aside0.mk c54
                                                      clear c54
                                                      obtain ⟨y110, hy110⟩ : ∃ y_ : List ByteArray, y_ = (x110004_2 ++ [a0.extract ((ji50) : Int).toNat ((wrap64 ((ji50) + (wrap64 (bt a0 x8_2)))) : Int).toNat]) := ⟨_, rfl⟩
                                                      replace H : (escutcheonref1_GetReply.l0 k2 a0 (wrap64 (t108)) (wrap64 ((ji50) + (wrap64 (bt a0 x8_2)))) (wrap64 (x9_2 + 1)) (wrap64 (bt a0 0)) (a0.extract 19 ((ji35) : Int).toNat) (wrap64 ((wrap64 (t106)) - 1000000000000)) (wrap64 (t107)) y110) = some (r1, r2, r3, r4, r5, r6) := by first | (rw [hy110]; with_reducible exact H) | (have H2_ := (Option.bind_some _ _).symm.trans H; rw [hy110]; with_reducible exact H2_) | (have H2_ := (Option.bind_some _ _).symm.trans H; with_reducible exact H2_) | with_reducible exact H | (rw [hy110]; exact H) | exact H
                                                      have Ny110 := Aside0.mk hy110
                                                      clear hy110
                                                      have H' := Aside0.mk H
                                                      clear H
                                                      have p38 : 0 ≤ ((ji35) : Int) := of_decide_eq_true (by first | (with_reducible assumption) | assumption)
                                                      have q38 : (ji35) < (a0.size : Int) := of_decide_eq_true (by first | (with_reducible assumption) | assumption)
                                                      have hx38 := bt_at a0 (ji35)
                                                      replace p38 := eq_true p38
                                                      replace q38 := eq_true q38
                                                      have p45 : 0 ≤ (x8_2 : Int) := of_decide_eq_true (by first | (with_reducible assumption) | assumption)
                                                      have q45 : x8_2 < (a0.size : Int) := of_decide_eq_true (by first | (with_reducible assumption) | assumption)
                                                      have hx45 := bt_at a0 x8_2
                                                      replace p45 := eq_true p45
                                                      replace q45 := eq_true q45
                                                      try go_wp2
                                                      have n0_ := Aside0.mk (Kd.R_drew HO_110004.out)
                                                      have n1_ := Aside0.mk (blk_drew BK105.out)
                                                      have n2_ := Aside0.mk (blk_drew BK109.out)
                                                      have n3_ := Aside0.mk (below_drew1 HB.out)
                                                      clear HO_110004
                                                      clear BK105
                                                      clear BK109
                                                      clear HB
                                                      have HO_110004 := n0_
                                                      have BK105 := n1_
                                                      have BK109 := n2_
                                                      have HB := n3_
                                                      clear n0_ n1_ n2_ n3_
                                                      have p49 : 0 ≤ (x8_2 : Int) := of_decide_eq_true (by first | (with_reducible assumption) | assumption)
                                                      have q49 : x8_2 < (a0.size : Int) := of_decide_eq_true (by first | (with_reducible assumption) | assumption)
                                                      have hx49 := bt_at a0 x8_2
                                                      replace p49 := eq_true p49
                                                      replace q49 := eq_true q49
                                                      refine start_ (n := 17) (S := fun w' => w'.cell? ⟨gb109, 0, none⟩ = some (.int .i64 (wrap64 (bt a0 0))) ∧ w'.cell? ⟨gb109, 1, none⟩ = some (.string (a0.extract 19 ((ji35) : Int).toNat)) ∧ w'.cell? ⟨gb109, 2, none⟩ = some (.int .i64 (wrap64 ((wrap64 (t106)) - 1000000000000))) ∧ w'.cell? ⟨gb109, 3, none⟩ = some (.int .i64 (wrap64 (t107))) ∧ w'.cell? ⟨gb109, 4, none⟩ = some (u110004)) (ds := [16]) #[false, false, false, false, false, false, false, false, false, false, false, false, false, false, false, false, false] (by kernel_rfl) rfl rfl ⟨(blk_cell BK109.out 0).trans rfl, (blk_cell BK109.out 1).trans rfl, (blk_cell BK109.out 2).trans rfl, (blk_cell BK109.out 3).trans rfl, (blk_cell BK109.out 4).trans rfl⟩ (fun hHeld => ?_); refine with_tabW escutcheonref1_GetReply.tab14 escutcheonref1_GetReply.bits14 (fun HT_ HW_ => ?_)
                                                      generalize wr.drew = w56 at HO_110004 BK105 BK109 HB hHeld ⊢
                                                      refine pure_ (i := 0) (N := some 81) (v := ?_) (a' := ?_) #[true, false, false, false, false, false, false, false, false, false, false, false, false, false, false, false, false] rfl rfl (any_of HT_.out (by kernel_rfl)) (fun _ _ _ h => h) (Or.inl ⟨by rfl, ?_⟩) ?_ ?_
                                                      rotate_left
                                                      · intro w'
                                                        go_simp
                                                        with_reducible rfl
                                                      rotate_left
                                                      · simp only [Act.put, List.setIfInBounds_toArray, List.set_cons_zero, List.set_cons_succ, i64_w, i32_w]
                                                        rfl
                                                      refine pure_ (i := 2) (N := some 83) (v := ?_) (a' := ?_) #[true, false, true, false, false, false, false, false, false, false, false, false, false, false, false, false, false] rfl rfl (any_of HT_.out (by kernel_rfl)) (fun _ _ _ h => h) (Or.inl ⟨by rfl, ?_⟩) ?_ ?_
                                                      rotate_left
                                                      · intro w'
                                                        go_simp
                                                        with_reducible rfl
                                                      rotate_left
                                                      · simp only [Act.put, List.setIfInBounds_toArray, List.set_cons_zero, List.set_cons_succ, i64_w, i32_w]
                                                        rfl
                                                      refine pure_ (i := 3) (N := some 84) (v := ?_) (a' := ?_) #[true, false, true, true, false, false, false, false, false, false, false, false, false, false, false, false, false] rfl rfl (any_of HT_.out (by kernel_rfl)) (fun _ _ _ h => h) (Or.inl ⟨by rfl, ?_⟩) ?_ ?_
                                                      rotate_left
                                                      · intro w'
                                                        go_simp
                                                        with_reducible rfl
                                                      rotate_left
                                                      · simp only [Act.put, List.setIfInBounds_toArray, List.set_cons_zero, List.set_cons_succ, i64_w, i32_w]
                                                        rfl
                                                      refine pure_ (i := 4) (N := some 85) (v := ?_) (a' := ?_) #[true, false, true, true, true, false, false, false, false, false, false, false, false, false, false, false, false] rfl rfl (any_of HT_.out (by kernel_rfl)) (fun _ _ _ h => h) (Or.inl ⟨by rfl, ?_⟩) ?_ ?_
                                                      rotate_left
                                                      · intro w'
                                                        go_simp
                                                        with_reducible rfl
                                                      rotate_left
                                                      · simp only [Act.put, List.setIfInBounds_toArray, List.set_cons_zero, List.set_cons_succ, i64_w, i32_w]
                                                        rfl
                                                      refine pure_ (i := 5) (N := some 86) (v := ?_) (a' := ?_) #[true, false, true, true, true, true, false, false, false, false, false, false, false, false, false, false, false] rfl rfl (any_of HT_.out (by kernel_rfl)) (fun _ _ _ h => h) (Or.inl ⟨by rfl, ?_⟩) ?_ ?_
                                                      rotate_left
                                                      · intro w'
                                                        go_simp
                                                        with_reducible rfl
                                                      rotate_left
                                                      · simp only [Act.put, List.setIfInBounds_toArray, List.set_cons_zero, List.set_cons_succ, i64_w, i32_w]
                                                        rfl
                                                      refine pure_ (i := 6) (N := some 87) (v := ?_) (a' := ?_) #[true, false, true, true, true, true, true, false, false, false, false, false, false, false, false, false, false] rfl rfl (any_of HT_.out (by kernel_rfl)) (fun _ _ _ h => h) (Or.inl ⟨by rfl, ?_⟩) ?_ ?_
                                                      rotate_left
                                                      · intro w'
                                                        go_simp
                                                        with_reducible rfl
                                                      rotate_left
                                                      · simp only [Act.put, List.setIfInBounds_toArray, List.set_cons_zero, List.set_cons_succ, i64_w, i32_w]
                                                        rfl
                                                      refine pure_ (i := 7) (N := some 88) (v := ?_) (a' := ?_) #[true, false, true, true, true, true, true, true, false, false, false, false, false, false, false, false, false] rfl rfl (any_of HT_.out (by kernel_rfl)) (fun _ _ _ h => h) (Or.inl ⟨by rfl, ?_⟩) ?_ ?_
                                                      rotate_left
                                                      · intro w'
                                                        go_simp
                                                        with_reducible rfl
                                                      rotate_left
                                                      · simp only [Act.put, List.setIfInBounds_toArray, List.set_cons_zero, List.set_cons_succ, i64_w, i32_w]
                                                        rfl
                                                      refine pure_ (i := 8) (N := some 89) (v := ?_) (a' := ?_) #[true, false, true, true, true, true, true, true, true, false, false, false, false, false, false, false, false] rfl rfl (any_of HT_.out (by kernel_rfl)) (fun _ _ _ h => h) (Or.inl ⟨by rfl, ?_⟩) ?_ ?_
                                                      rotate_left
                                                      · intro w'
                                                        go_simp
                                                        with_reducible rfl
                                                      rotate_left
                                                      · simp only [Act.put, List.setIfInBounds_toArray, List.set_cons_zero, List.set_cons_succ, i64_w, i32_w]
                                                        rfl
                                                      refine take_ (i := 1) (N := some 82) (v := ?_) (a' := ?_) #[true, true, true, true, true, true, true, true, true, false, false, false, false, false, false, false, false] rfl rfl (take_ofW HT_.out HW_.out (by kernel_rfl)) (fun _ _ _ h => h) (Or.inl ⟨by rfl, ?_⟩) hHeld ?_ ?_
                                                      rotate_left
                                                      · rintro w' ⟨s0, s1, s2, s3, s4⟩
                                                        go_simp
                                                        with_reducible rfl
                                                      rotate_left
                                                      · simp only [Act.put, List.setIfInBounds_toArray, List.set_cons_zero, List.set_cons_succ, i64_w, i32_w]
                                                        rfl
                                                      refine take_ (i := 9) (N := some 90) (v := ?_) (a' := ?_) #[true, true, true, true, true, true, true, true, true, true, false, false, false, false, false, false, false] rfl rfl (take_ofW HT_.out HW_.out (by kernel_rfl)) (fun _ _ _ h => h) (Or.inl ⟨by rfl, ?_⟩) hHeld ?_ ?_
                                                      rotate_left
                                                      · rintro w' ⟨s0, s1, s2, s3, s4⟩
                                                        go_simp
                                                        with_reducible rfl
                                                      rotate_left
                                                      · simp only [Act.put, List.setIfInBounds_toArray, List.set_cons_zero, List.set_cons_succ, i64_w, i32_w]
                                                        rfl
                                                      refine pure_ (i := 10) (N := some 91) (v := ?_) (a' := ?_) #[true, true, true, true, true, true, true, true, true, true, true, false, false, false, false, false, false] rfl rfl (any_of HT_.out (by kernel_rfl)) (fun _ _ _ h => h) (Or.inl ⟨by rfl, ?_⟩) ?_ ?_
                                                      rotate_left
                                                      · intro w'
                                                        go_simp
                                                        with_reducible rfl
                                                      rotate_left
                                                      · simp only [Act.put, List.setIfInBounds_toArray, List.set_cons_zero, List.set_cons_succ, i64_w, i32_w]
                                                        rfl
                                                      refine pure_ (i := 11) (N := some 92) (v := ?_) (a' := ?_) #[true, true, true, true, true, true, true, true, true, true, true, true, false, false, false, false, false] rfl rfl (any_of HT_.out (by kernel_rfl)) (fun _ _ _ h => h) (Or.inl ⟨by rfl, ?_⟩) ?_ ?_
                                                      rotate_left
                                                      · intro w'
                                                        go_simp
                                                        with_reducible rfl
                                                      rotate_left
                                                      · simp only [Act.put, List.setIfInBounds_toArray, List.set_cons_zero, List.set_cons_succ, i64_w, i32_w]
                                                        rfl
                                                      refine pure_ (i := 12) (N := some 93) (v := ?_) (a' := ?_) #[true, true, true, true, true, true, true, true, true, true, true, true, true, false, false, false, false] rfl rfl (any_of HT_.out (by kernel_rfl)) (fun _ _ _ h => h) (Or.inl ⟨by rfl, ?_⟩) ?_ ?_
                                                      rotate_left
                                                      · intro w'
                                                        go_simp
                                                        with_reducible rfl
                                                      rotate_left
                                                      · simp only [Act.put, List.setIfInBounds_toArray, List.set_cons_zero, List.set_cons_succ, i64_w, i32_w]
                                                        rfl
                                                      refine one_ (i := 13) (N := some 94) #[true, true, true, true, true, true, true, true, true, true, true, true, true, true, false, false, false] rfl rfl (one_of HT_.out (by kernel_rfl)) (by decide) (fun K hK => ?_)
                                                      refine value_ (w1 := ?_) (v := ?_) (by rfl) rfl ?_ ?_
                                                      rotate_left 2
                                                      · go_simp
                                                        constructor
                                                        · rfl
                                                        · rfl
                                                      refine hK.out _ _ ⟨(blk_cell (blk_alloc BK109.out _) 0).trans rfl, (blk_cell (blk_alloc BK109.out _) 1).trans rfl, (blk_cell (blk_alloc BK109.out _) 2).trans rfl, (blk_cell (blk_alloc BK109.out _) 3).trans rfl, (blk_cell (blk_alloc BK109.out _) 4).trans rfl⟩ (fun hHeld => ?_)
                                                      clear hK K
                                                      refine norm_ (a' := ?_) ?_ ?_
                                                      rotate_left
                                                      · show Act.put _ (some 94) _ = _
                                                        simp only [Act.put, List.setIfInBounds_toArray, List.set_cons_zero, List.set_cons_succ, i64_w, i32_w]
                                                        rfl
                                                      refine one_ (i := 14) (N := some 95) #[true, true, true, true, true, true, true, true, true, true, true, true, true, true, true, false, false] rfl rfl (one_of HT_.out (by kernel_rfl)) (by decide) (fun K hK => ?_)
                                                      refine Kd.R_append_step Kd.string (w0 := w) w.heap.size (by rfl) (.tmp 82) (.tmp 94) 23 9 (.string ⟨#[]⟩) 16 rfl Tryz.underlying23 info9 rfl (by decide) (by omega) u110004 x110004_2 (a0.extract ((ji50) : Int).toNat ((wrap64 ((ji50) + (wrap64 (bt a0 x8_2)))) : Int).toNat) [.string (a0.extract ((ji50) : Int).toNat ((wrap64 ((ji50) + (wrap64 (bt a0 x8_2)))) : Int).toNat)] (fun _ => True) (fun _ => False) rfl rfl ?aP (fun _ hk => hk.elim) ?aF ?aO ?aB ?aS ?aL ?_
                                                      (case aP => exact rfl)
                                                      (case aB => exact (by repeat (first | (with_reducible first | exact HB.out | apply below_alloc | apply pw_below_drewN | apply below_drew1 | refine below_set ?_ GE105.out | refine below_set ?_ GE109.out) | exact HB.out)))
                                                      (case aF => exact (fun _ _ => trivial))
                                                      (case aO => exact (by (with_reducible repeat (first | apply Kd.R_alloc | apply Kd.R_drewN | apply Kd.R_drew)); exact HO_110004.out))
                                                      (case aS => exact (below_size (by repeat (first | (with_reducible first | exact HB.out | apply below_alloc | apply pw_below_drewN | apply below_drew1 | refine below_set ?_ GE105.out | refine below_set ?_ GE109.out) | exact HB.out))))
                                                      (case aL => have := LMc54.out; omega)
                                                      intro v111 w57 ho hb hg hat
                                                      rw [← Ny110.out] at ho
                                                      have n0_ := Aside0.mk (blk_grown (g := gb105) (o := .cells #[.int .i64 x106000_2, .string x106001_2, .int .i64 x106002_2, .int .i64 x106003_2, .slice none 0 0] 25 (0, 0)) (by (with_reducible repeat (first | refine blk_drewN ?_ _ | refine blk_drew ?_ | refine blk_alloc ?_ _)); exact BK105.out) hg (Kd.R_ne HO_110004.out BK105.out (by decide)))
                                                      have n1_ := Aside0.mk (blk_grown (g := gb109) (o := .cells #[.int .i64 (wrap64 (bt a0 0)), .string (a0.extract 19 ((ji35) : Int).toNat), .int .i64 (wrap64 ((wrap64 (t106)) - 1000000000000)), .int .i64 (wrap64 (t107)), u110004] 25 (0, 0)) (by (with_reducible repeat (first | refine blk_drewN ?_ _ | refine blk_drew ?_ | refine blk_alloc ?_ _)); exact BK109.out) hg (Kd.R_ne HO_110004.out BK109.out (by decide)))
                                                      have n2_ := Aside0.mk (hb)
                                                      have n3_ := Aside0.mk (ho)
                                                      clear BK105
                                                      clear BK109
                                                      clear HB
                                                      clear HO_110004
                                                      have BK105 := n0_
                                                      have BK109 := n1_
                                                      have HB := n2_
                                                      have HO112 := n3_
                                                      clear n0_ n1_ n2_ n3_
                                                      clear ho hb hg hat
                                                      obtain ⟨Ao58, co58, eo58⟩ := Kd.R_slice HO112.out
                                                      (first | subst eo58 | (injection eo58 with f1_ f2_ f3_; have f4_ := f1_.symm; have f5_ := f3_.symm; clear f1_ f2_ f3_; subst f4_; subst f5_))
                                                      refine hK.out _ _ ⟨(blk_cell BK109.out 0).trans rfl, (blk_cell BK109.out 1).trans rfl, (blk_cell BK109.out 2).trans rfl, (blk_cell BK109.out 3).trans rfl, (blk_cell BK109.out 4).trans rfl⟩ (fun hHeld => ?_)
                                                      clear hK K
                                                      refine norm_ (a' := ?_) ?_ ?_
                                                      rotate_left
                                                      · show Act.put _ (some 95) _ = _
                                                        simp only [Act.put, List.setIfInBounds_toArray, List.set_cons_zero, List.set_cons_succ, i64_w, i32_w]
                                                        rfl
                                                      refine pure_ (i := 15) (N := some 96) (v := ?_) (a' := ?_) #[true, true, true, true, true, true, true, true, true, true, true, true, true, true, true, true, false] rfl rfl (any_of HT_.out (by kernel_rfl)) (fun _ _ _ h => h) (Or.inl ⟨by rfl, ?_⟩) ?_ ?_
                                                      rotate_left
                                                      · intro w'
                                                        go_simp
                                                        with_reducible rfl
                                                      rotate_left
                                                      · simp only [Act.put, List.setIfInBounds_toArray, List.set_cons_zero, List.set_cons_succ, i64_w, i32_w]
                                                        rfl
                                                      refine last_ (i := 16) (N := none) #[true, true, true, true, true, true, true, true, true, true, true, true, true, true, true, true, true] rfl rfl (one_of HT_.out (by kernel_rfl)) (by decide) (fun K hK => ?_)
                                                      have hs59 : w57.cell? ⟨gb109, 4, none⟩ = some (u110004) := (blk_cell BK109.out 4).trans rfl
                                                      have hfs59 := blk_frozen BK109.out 4
                                                      have hns59_0 := NB105_109.out
                                                      have hms59_0 := NB109_105.out
                                                      refine skip_ (w1 := ?_) (by rfl) rfl ?_ ?_
                                                      rotate_left
                                                      · go_simp
                                                        rfl
                                                      refine hK.out _ _ ?_
                                                      clear hK K
                                                      refine done_ (done_of HT_.out (by kernel_rfl)) ?_
                                                      have p55 : 0 ≤ (x8_2 : Int) := of_decide_eq_true (by first | (with_reducible assumption) | assumption)
                                                      have q55 : x8_2 < (a0.size : Int) := of_decide_eq_true (by first | (with_reducible assumption) | assumption)
                                                      have hx55 := bt_at a0 x8_2
                                                      replace p55 := eq_true p55
                                                      replace q55 := eq_true q55
                                                      try go_wp2
                                                      go_roundg k2
                                                      case measure => have := HJ13.out; have := HK2.out; omega
                                                      case rel => subst hji35; exact ⟨(wrap64 ((ji50) + (wrap64 (bt a0 x8_2)))), (wrap64 (x9_2 + 1)), (x106000_2), (x106001_2), (x106002_2), (x106003_2), (y110), (.slice Ao58 y110.length co58), (by first | rfl | (simp; done) | (simp only [← hji50] <;> (first | rfl | simp)) | (simp [*]; done)), (by first | rfl | (simp; done) | (simp [*]; done)), H', ⟨by have := HJ13.out; have := HK2.out; omega⟩, ⟨by (with_reducible repeat (first | apply Kd.R_alloc | apply Kd.R_drewN | apply Kd.R_drew)); exact Kd.R_mono (Kd.R_far (p := ⟨gb109, 4, none⟩) (Kd.R_types HO112.out BK109.out (by decide)) (fun _ hk => hk.2) (.slice Ao58 y110.length co58)) (fun _ hk => trivial)⟩, ⟨by (with_reducible repeat (first | refine blk_drewN ?_ _ | refine blk_drew ?_ | refine blk_alloc ?_ _)); refine blk_far ?_ NB105_109.out _; (with_reducible repeat (first | refine blk_drewN ?_ _ | refine blk_drew ?_ | refine blk_alloc ?_ _)); exact BK105.out⟩, ⟨by (with_reducible repeat (first | refine blk_drewN ?_ _ | refine blk_drew ?_ | refine blk_alloc ?_ _)); refine blk_put (cs := #[.int .i64 (wrap64 (bt a0 0)), .string (a0.extract 19 (((wrap64 (19 + (wrap64 (t108))))) : Int).toNat), .int .i64 (wrap64 ((wrap64 (t106)) - 1000000000000)), .int .i64 (wrap64 (t107)), u110004]) ?_ 4 _ rfl; (with_reducible repeat (first | refine blk_drewN ?_ _ | refine blk_drew ?_ | refine blk_alloc ?_ _)); exact BK109.out⟩, ⟨by repeat (first | (with_reducible first | exact HB.out | apply below_alloc | apply pw_below_drewN | apply below_drew1 | refine below_set ?_ GE105.out | refine below_set ?_ GE109.out) | exact HB.out)⟩⟩
                                                    · rw [if_neg c54] at H
                                                      exact absurd H (by simp)
                                                  · rw [if_neg c53] at H
                                                    exact absurd H (by simp)
                                                · rw [if_neg c52] at H
                                                  exact absurd H (by simp)
                                              · rw [if_neg c51] at H
                                                exact absurd H (by simp)
                                          · rw [if_neg c44] at H
                                            exact absurd H (by simp)
                                        · rw [if_neg c43] at H
                                          exact absurd H (by simp)
                                    · rw [if_neg c39] at H
                                      have c39b0 : decide (x9_2 < (wrap64 (bt a0 (ji35)))) = false := decide_eq_false c39
                                      clear c39
                                      replace H := Option.bind_eq_some_iff.mp H
                                      obtain ⟨⟨t113, t114⟩, A600, H⟩ := H
                                      replace H : (if t114 = true then (if t113.toList = a0.toList then (some ((wrap64 (bt a0 0)), (a0.extract 19 ((ji35) : Int).toNat), (wrap64 ((wrap64 (t106)) - 1000000000000)), (wrap64 (t107)), x110004_2, true)) else (some (0, (⟨#[]⟩ : ByteArray), 0, 0, ([] : List ByteArray), false))) else (some (0, (⟨#[]⟩ : ByteArray), 0, 0, ([] : List ByteArray), false))) = some (r1, r2, r3, r4, r5, r6) := H
                                      have A60 := Aside0.mk A600
                                      clear A600
                                      by_cases c61 : t114 = true
                                      · subst c61
                                        have H1 : (if t113.toList = a0.toList then (some ((wrap64 (bt a0 0)), (a0.extract 19 ((ji35) : Int).toNat), (wrap64 ((wrap64 (t106)) - 1000000000000)), (wrap64 (t107)), x110004_2, true)) else (some (0, (⟨#[]⟩ : ByteArray), 0, 0, ([] : List ByteArray), false))) = some (r1, r2, r3, r4, r5, r6) := by rw [if_pos rfl] at H; exact H
                                        clear H
                                        have H := H1
                                        clear H1
                                        by_cases c62 : t113.toList = a0.toList
                                        · rw [if_pos c62] at H
                                          have c62b0 : (t113.toList == a0.toList) = true := beq_iff_eq.mpr c62
                                          have c62b1 : (t113.toList != a0.toList) = false := bne_eq_false_iff_eq.mpr c62
                                          clear c62
                                          simp only [Option.some.injEq, Prod.mk.injEq] at H
                                          obtain ⟨rfl, rfl, rfl, rfl, rfl, rfl⟩ := H
                                          have p38 : 0 ≤ ((ji35) : Int) := of_decide_eq_true (by first | (with_reducible assumption) | assumption)
                                          have q38 : (ji35) < (a0.size : Int) := of_decide_eq_true (by first | (with_reducible assumption) | assumption)
                                          have hx38 := bt_at a0 (ji35)
                                          replace p38 := eq_true p38
                                          replace q38 := eq_true q38
                                          have hnb63 := NB109_105.out
                                          have hnc63 := NB105_109.out
                                          have hcz64_0 : wr.cell? ⟨gb109, 0, none⟩ = some (.int .i64 (wrap64 (bt a0 0))) := (blk_cell BK109.out 0).trans rfl
                                          have hcz64_1 : wr.cell? ⟨gb109, 1, none⟩ = some (.string (a0.extract 19 ((ji35) : Int).toNat)) := (blk_cell BK109.out 1).trans rfl
                                          have hcz64_2 : wr.cell? ⟨gb109, 2, none⟩ = some (.int .i64 (wrap64 ((wrap64 (t106)) - 1000000000000))) := (blk_cell BK109.out 2).trans rfl
                                          have hcz64_3 : wr.cell? ⟨gb109, 3, none⟩ = some (.int .i64 (wrap64 (t107))) := (blk_cell BK109.out 3).trans rfl
                                          have hcz64_4 : wr.cell? ⟨gb109, 4, none⟩ = some (u110004) := (blk_cell BK109.out 4).trans rfl
                                          have hfz64_0 := blk_frozen BK109.out 0
                                          have hfz64_1 := blk_frozen BK109.out 1
                                          have hfz64_2 := blk_frozen BK109.out 2
                                          have hfz64_3 := blk_frozen BK109.out 3
                                          have hfz64_4 := blk_frozen BK109.out 4
                                          obtain ⟨Ao65, co65, eo65⟩ := Kd.R_slice HO_110004.out
                                          subst eo65
                                          go_wp2_with (first | ((with_reducible refine gate_callee (f := 7) rfl ?_); refine goesL_ (some 106) rfl rfl Tryz.func7 (by kernel_rfl) rfl #[.agg #[.int .i64 (wrap64 (bt a0 0)), .string (a0.extract 19 ((ji35) : Int).toNat), .int .i64 (wrap64 ((wrap64 (t106)) - 1000000000000)), .int .i64 (wrap64 (t107)), .slice Ao65 x110004_2.length co65]] rfl (by (try simp only [List.map_toArray, List.map_cons, List.map_nil]); first | done | (simp only [hji35]; rfl) | rfl | (simp only [List.length_drop, List.length_take]; rfl)) ?_; (with_reducible refine (escutcheonref1_PutReply.calls (wrap64 (bt a0 0)) (a0.extract 19 ((ji35) : Int).toNat) (wrap64 ((wrap64 (t106)) - 1000000000000)) (wrap64 (t107)) _ _ x110004_2 t113 true _ ?side1 ?side2 A60.out).mono ?_); (case side1 => repeat (first | exact (Kd.R_reads' HO_110004.out).2.2 | (with_reducible refine Kd.C_alloc ?_ _) | (with_reducible refine Kd.C_drewN ?_ _) | (with_reducible refine Kd.C_drew ?_))); (case side2 => exact (Kd.R_reads' HO_110004.out).2.1); rintro e w66 ⟨rfl, hb⟩; refine ⟨_, rfl, ?_⟩; have n0_ := Aside0.mk (Kd.R_below (by (with_reducible repeat (first | apply Kd.R_alloc | apply Kd.R_drewN | apply Kd.R_drew)); exact HO_110004.out) hb); have n1_ := Aside0.mk (blk_below (g := gb105) (o := .cells #[.int .i64 x106000_2, .string x106001_2, .int .i64 x106002_2, .int .i64 x106003_2, .slice none 0 0] 25 (0, 0)) (by (with_reducible repeat (first | refine blk_drewN ?_ _ | refine blk_drew ?_ | refine blk_alloc ?_ _)); exact BK105.out) hb); have n2_ := Aside0.mk (blk_below (g := gb109) (o := .cells #[.int .i64 (wrap64 (bt a0 0)), .string (a0.extract 19 ((ji35) : Int).toNat), .int .i64 (wrap64 ((wrap64 (t106)) - 1000000000000)), .int .i64 (wrap64 (t107)), .slice Ao65 x110004_2.length co65] 25 (0, 0)) (by (with_reducible repeat (first | refine blk_drewN ?_ _ | refine blk_drew ?_ | refine blk_alloc ?_ _)); exact BK109.out) hb); have n3_ := Aside0.mk (below_step (by repeat (first | (with_reducible first | exact HB.out | apply below_alloc | apply pw_below_drewN | apply below_drew1 | refine below_set ?_ GE105.out | refine below_set ?_ GE109.out) | exact HB.out)) hb); clear HO_110004; clear BK105; clear BK109; clear HB; have HO_110004 := n0_; have BK105 := n1_; have BK109 := n2_; have HB := n3_; clear n0_ n1_ n2_ n3_; (try clear hb); (try clear hb2); (try clear hk); (try clear hi); have hcz67_0 : w66.cell? ⟨gb109, 0, none⟩ = some (.int .i64 (wrap64 (bt a0 0))) := (blk_cell BK109.out 0).trans rfl; have hcz67_1 : w66.cell? ⟨gb109, 1, none⟩ = some (.string (a0.extract 19 ((ji35) : Int).toNat)) := (blk_cell BK109.out 1).trans rfl; have hcz67_2 : w66.cell? ⟨gb109, 2, none⟩ = some (.int .i64 (wrap64 ((wrap64 (t106)) - 1000000000000))) := (blk_cell BK109.out 2).trans rfl; have hcz67_3 : w66.cell? ⟨gb109, 3, none⟩ = some (.int .i64 (wrap64 (t107))) := (blk_cell BK109.out 3).trans rfl; have hcz67_4 : w66.cell? ⟨gb109, 4, none⟩ = some (.slice Ao65 x110004_2.length co65) := (blk_cell BK109.out 4).trans rfl; have hfz67_0 := blk_frozen BK109.out 0; have hfz67_1 := blk_frozen BK109.out 1; have hfz67_2 := blk_frozen BK109.out 2; have hfz67_3 := blk_frozen BK109.out 3; have hfz67_4 := blk_frozen BK109.out 4; have hcz68_0 : w66.cell? ⟨gb105, 0, none⟩ = some (.int .i64 x106000_2) := (blk_cell BK105.out 0).trans rfl; have hcz68_1 : w66.cell? ⟨gb105, 1, none⟩ = some (.string x106001_2) := (blk_cell BK105.out 1).trans rfl; have hcz68_2 : w66.cell? ⟨gb105, 2, none⟩ = some (.int .i64 x106002_2) := (blk_cell BK105.out 2).trans rfl; have hcz68_3 : w66.cell? ⟨gb105, 3, none⟩ = some (.int .i64 x106003_2) := (blk_cell BK105.out 3).trans rfl; have hcz68_4 : w66.cell? ⟨gb105, 4, none⟩ = some (.slice none 0 0) := (blk_cell BK105.out 4).trans rfl; have hfz68_0 := blk_frozen BK105.out 0; have hfz68_1 := blk_frozen BK105.out 1; have hfz68_2 := blk_frozen BK105.out 2; have hfz68_3 := blk_frozen BK105.out 3; have hfz68_4 := blk_frozen BK105.out 4))
                                          refine bodyPost_ret (results_ct rfl _ _ gb105 25 #[.int .i64 (wrap64 (bt a0 0)), .string (a0.extract 19 ((ji35) : Int).toNat), .int .i64 (wrap64 ((wrap64 (t106)) - 1000000000000)), .int .i64 (wrap64 (t107)), .slice Ao65 x110004_2.length co65] (0, 0) _ rfl (by (with_reducible repeat (first | refine blk_drewN ?_ _ | refine blk_drew ?_ | refine blk_alloc ?_ _)); refine blk_put (cs := #[.int .i64 (wrap64 (bt a0 0)), .string (a0.extract 19 ((ji35) : Int).toNat), .int .i64 (wrap64 ((wrap64 (t106)) - 1000000000000)), .int .i64 (wrap64 (t107)), .slice none 0 0]) ?_ 4 _ rfl; (with_reducible repeat (first | refine blk_drewN ?_ _ | refine blk_drew ?_ | refine blk_alloc ?_ _)); refine blk_put (cs := #[.int .i64 (wrap64 (bt a0 0)), .string (a0.extract 19 ((ji35) : Int).toNat), .int .i64 (wrap64 ((wrap64 (t106)) - 1000000000000)), .int .i64 x106003_2, .slice none 0 0]) ?_ 3 _ rfl; (with_reducible repeat (first | refine blk_drewN ?_ _ | refine blk_drew ?_ | refine blk_alloc ?_ _)); refine blk_put (cs := #[.int .i64 (wrap64 (bt a0 0)), .string (a0.extract 19 ((ji35) : Int).toNat), .int .i64 x106002_2, .int .i64 x106003_2, .slice none 0 0]) ?_ 2 _ rfl; (with_reducible repeat (first | refine blk_drewN ?_ _ | refine blk_drew ?_ | refine blk_alloc ?_ _)); refine blk_put (cs := #[.int .i64 (wrap64 (bt a0 0)), .string x106001_2, .int .i64 x106002_2, .int .i64 x106003_2, .slice none 0 0]) ?_ 1 _ rfl; (with_reducible repeat (first | refine blk_drewN ?_ _ | refine blk_drew ?_ | refine blk_alloc ?_ _)); refine blk_put (cs := #[.int .i64 x106000_2, .string x106001_2, .int .i64 x106002_2, .int .i64 x106003_2, .slice none 0 0]) ?_ 0 _ rfl; (with_reducible repeat (first | refine blk_drewN ?_ _ | refine blk_drew ?_ | refine blk_alloc ?_ _)); exact BK105.out) Tryz.underlying25 rfl (by kernel_rfl)) rfl ?_
                                          exact ⟨_, by first | rfl | (simp [errW_none, errW_some] <;> rfl) | (simp only [← hji35]; first | rfl | (simp [errW_none, errW_some] <;> rfl)) | (simp [*, errW_none, errW_some] <;> rfl), by (with_reducible repeat (first | apply Kd.R_alloc | apply Kd.R_drewN | apply Kd.R_drew)); exact Kd.R_mono (Kd.R_far (p := ⟨gb105, 4, none⟩) (Kd.R_far (p := ⟨gb105, 3, none⟩) (Kd.R_far (p := ⟨gb105, 2, none⟩) (Kd.R_far (p := ⟨gb105, 1, none⟩) (Kd.R_far (p := ⟨gb105, 0, none⟩) (Kd.R_types HO_110004.out BK105.out (by decide)) (fun _ hk => hk.2) (.int .i64 (wrap64 (bt a0 0)))) (fun _ hk => hk.2) (.string (a0.extract 19 ((ji35) : Int).toNat))) (fun _ hk => hk.2) (.int .i64 (wrap64 ((wrap64 (t106)) - 1000000000000)))) (fun _ hk => hk.2) (.int .i64 (wrap64 (t107)))) (fun _ hk => hk.2) (.slice Ao65 x110004_2.length co65)) (fun _ hk => trivial), by repeat (first | (with_reducible first | exact HB.out | apply below_alloc | apply pw_below_drewN | apply below_drew1 | refine below_set ?_ GE105.out | refine below_set ?_ GE109.out) | exact HB.out)⟩
                                        · rw [if_neg c62] at H
                                          have c62b0 : (t113.toList == a0.toList) = false := beq_eq_false_iff_ne.mpr c62
                                          have c62b1 : (t113.toList != a0.toList) = true := bne_iff_ne.mpr c62
                                          simp only [Option.some.injEq, Prod.mk.injEq] at H
                                          obtain ⟨rfl, rfl, rfl, rfl, rfl, rfl⟩ := H
                                          have p38 : 0 ≤ ((ji35) : Int) := of_decide_eq_true (by first | (with_reducible assumption) | assumption)
                                          have q38 : (ji35) < (a0.size : Int) := of_decide_eq_true (by first | (with_reducible assumption) | assumption)
                                          have hx38 := bt_at a0 (ji35)
                                          replace p38 := eq_true p38
                                          replace q38 := eq_true q38
                                          have hnb69 := NB109_105.out
                                          have hnc69 := NB105_109.out
                                          have hcz70_0 : wr.cell? ⟨gb109, 0, none⟩ = some (.int .i64 (wrap64 (bt a0 0))) := (blk_cell BK109.out 0).trans rfl
                                          have hcz70_1 : wr.cell? ⟨gb109, 1, none⟩ = some (.string (a0.extract 19 ((ji35) : Int).toNat)) := (blk_cell BK109.out 1).trans rfl
                                          have hcz70_2 : wr.cell? ⟨gb109, 2, none⟩ = some (.int .i64 (wrap64 ((wrap64 (t106)) - 1000000000000))) := (blk_cell BK109.out 2).trans rfl
                                          have hcz70_3 : wr.cell? ⟨gb109, 3, none⟩ = some (.int .i64 (wrap64 (t107))) := (blk_cell BK109.out 3).trans rfl
                                          have hcz70_4 : wr.cell? ⟨gb109, 4, none⟩ = some (u110004) := (blk_cell BK109.out 4).trans rfl
                                          have hfz70_0 := blk_frozen BK109.out 0
                                          have hfz70_1 := blk_frozen BK109.out 1
                                          have hfz70_2 := blk_frozen BK109.out 2
                                          have hfz70_3 := blk_frozen BK109.out 3
                                          have hfz70_4 := blk_frozen BK109.out 4
                                          obtain ⟨Ao71, co71, eo71⟩ := Kd.R_slice HO_110004.out
                                          subst eo71
                                          go_wp2_with (first | ((with_reducible refine gate_callee (f := 7) rfl ?_); refine goesL_ (some 106) rfl rfl Tryz.func7 (by kernel_rfl) rfl #[.agg #[.int .i64 (wrap64 (bt a0 0)), .string (a0.extract 19 ((ji35) : Int).toNat), .int .i64 (wrap64 ((wrap64 (t106)) - 1000000000000)), .int .i64 (wrap64 (t107)), .slice Ao71 x110004_2.length co71]] rfl (by (try simp only [List.map_toArray, List.map_cons, List.map_nil]); first | done | (simp only [hji35]; rfl) | rfl | (simp only [List.length_drop, List.length_take]; rfl)) ?_; (with_reducible refine (escutcheonref1_PutReply.calls (wrap64 (bt a0 0)) (a0.extract 19 ((ji35) : Int).toNat) (wrap64 ((wrap64 (t106)) - 1000000000000)) (wrap64 (t107)) _ _ x110004_2 t113 true _ ?side1 ?side2 A60.out).mono ?_); (case side1 => repeat (first | exact (Kd.R_reads' HO_110004.out).2.2 | (with_reducible refine Kd.C_alloc ?_ _) | (with_reducible refine Kd.C_drewN ?_ _) | (with_reducible refine Kd.C_drew ?_))); (case side2 => exact (Kd.R_reads' HO_110004.out).2.1); rintro e w72 ⟨rfl, hb⟩; refine ⟨_, rfl, ?_⟩; have n0_ := Aside0.mk (Kd.R_below (by (with_reducible repeat (first | apply Kd.R_alloc | apply Kd.R_drewN | apply Kd.R_drew)); exact HO_110004.out) hb); have n1_ := Aside0.mk (blk_below (g := gb105) (o := .cells #[.int .i64 x106000_2, .string x106001_2, .int .i64 x106002_2, .int .i64 x106003_2, .slice none 0 0] 25 (0, 0)) (by (with_reducible repeat (first | refine blk_drewN ?_ _ | refine blk_drew ?_ | refine blk_alloc ?_ _)); exact BK105.out) hb); have n2_ := Aside0.mk (blk_below (g := gb109) (o := .cells #[.int .i64 (wrap64 (bt a0 0)), .string (a0.extract 19 ((ji35) : Int).toNat), .int .i64 (wrap64 ((wrap64 (t106)) - 1000000000000)), .int .i64 (wrap64 (t107)), .slice Ao71 x110004_2.length co71] 25 (0, 0)) (by (with_reducible repeat (first | refine blk_drewN ?_ _ | refine blk_drew ?_ | refine blk_alloc ?_ _)); exact BK109.out) hb); have n3_ := Aside0.mk (below_step (by repeat (first | (with_reducible first | exact HB.out | apply below_alloc | apply pw_below_drewN | apply below_drew1 | refine below_set ?_ GE105.out | refine below_set ?_ GE109.out) | exact HB.out)) hb); clear HO_110004; clear BK105; clear BK109; clear HB; have HO_110004 := n0_; have BK105 := n1_; have BK109 := n2_; have HB := n3_; clear n0_ n1_ n2_ n3_; (try clear hb); (try clear hb2); (try clear hk); (try clear hi); have hcz73_0 : w72.cell? ⟨gb105, 0, none⟩ = some (.int .i64 x106000_2) := (blk_cell BK105.out 0).trans rfl; have hcz73_1 : w72.cell? ⟨gb105, 1, none⟩ = some (.string x106001_2) := (blk_cell BK105.out 1).trans rfl; have hcz73_2 : w72.cell? ⟨gb105, 2, none⟩ = some (.int .i64 x106002_2) := (blk_cell BK105.out 2).trans rfl; have hcz73_3 : w72.cell? ⟨gb105, 3, none⟩ = some (.int .i64 x106003_2) := (blk_cell BK105.out 3).trans rfl; have hcz73_4 : w72.cell? ⟨gb105, 4, none⟩ = some (.slice none 0 0) := (blk_cell BK105.out 4).trans rfl; have hfz73_0 := blk_frozen BK105.out 0; have hfz73_1 := blk_frozen BK105.out 1; have hfz73_2 := blk_frozen BK105.out 2; have hfz73_3 := blk_frozen BK105.out 3; have hfz73_4 := blk_frozen BK105.out 4))
                                          refine bodyPost_ret (results_ct rfl _ _ gb105 25 #[.int .i64 0, .string (⟨#[]⟩ : ByteArray), .int .i64 0, .int .i64 0, .slice none 0 0] (0, 0) _ rfl (by (with_reducible repeat (first | refine blk_drewN ?_ _ | refine blk_drew ?_ | refine blk_alloc ?_ _)); refine blk_put (cs := #[.int .i64 0, .string (⟨#[]⟩ : ByteArray), .int .i64 0, .int .i64 0, .slice none 0 0]) ?_ 4 _ rfl; (with_reducible repeat (first | refine blk_drewN ?_ _ | refine blk_drew ?_ | refine blk_alloc ?_ _)); refine blk_put (cs := #[.int .i64 0, .string (⟨#[]⟩ : ByteArray), .int .i64 0, .int .i64 x106003_2, .slice none 0 0]) ?_ 3 _ rfl; (with_reducible repeat (first | refine blk_drewN ?_ _ | refine blk_drew ?_ | refine blk_alloc ?_ _)); refine blk_put (cs := #[.int .i64 0, .string (⟨#[]⟩ : ByteArray), .int .i64 x106002_2, .int .i64 x106003_2, .slice none 0 0]) ?_ 2 _ rfl; (with_reducible repeat (first | refine blk_drewN ?_ _ | refine blk_drew ?_ | refine blk_alloc ?_ _)); refine blk_put (cs := #[.int .i64 0, .string x106001_2, .int .i64 x106002_2, .int .i64 x106003_2, .slice none 0 0]) ?_ 1 _ rfl; (with_reducible repeat (first | refine blk_drewN ?_ _ | refine blk_drew ?_ | refine blk_alloc ?_ _)); refine blk_put (cs := #[.int .i64 x106000_2, .string x106001_2, .int .i64 x106002_2, .int .i64 x106003_2, .slice none 0 0]) ?_ 0 _ rfl; (with_reducible repeat (first | refine blk_drewN ?_ _ | refine blk_drew ?_ | refine blk_alloc ?_ _)); exact BK105.out) Tryz.underlying25 rfl (by kernel_rfl)) rfl ?_
                                          exact ⟨_, by first | rfl | (simp [errW_none, errW_some] <;> rfl) | (simp only [← hji35]; first | rfl | (simp [errW_none, errW_some] <;> rfl)) | (simp [*, errW_none, errW_some] <;> rfl), by first | exact Kd.R_nil _ _ _ _ _ | exact Kd.N_nil _ _ _ _ _ | exact Kd.V_nil _ _ _ _ _ | exact Kd.Q_nil _ _ _ _ _ | exact Kd.S_nil _ _ _ _ _, by repeat (first | (with_reducible first | exact HB.out | apply below_alloc | apply pw_below_drewN | apply below_drew1 | refine below_set ?_ GE105.out | refine below_set ?_ GE109.out) | exact HB.out)⟩
                                      · replace c61 := Bool.eq_false_iff.mpr c61
                                        subst c61
                                        have H1 : (some (0, (⟨#[]⟩ : ByteArray), 0, 0, ([] : List ByteArray), false)) = some (r1, r2, r3, r4, r5, r6) := by rw [if_neg (show ¬ (false = true) by decide)] at H; exact H
                                        clear H
                                        have H := H1
                                        clear H1
                                        simp only [Option.some.injEq, Prod.mk.injEq] at H
                                        obtain ⟨rfl, rfl, rfl, rfl, rfl, rfl⟩ := H
                                        have p38 : 0 ≤ ((ji35) : Int) := of_decide_eq_true (by first | (with_reducible assumption) | assumption)
                                        have q38 : (ji35) < (a0.size : Int) := of_decide_eq_true (by first | (with_reducible assumption) | assumption)
                                        have hx38 := bt_at a0 (ji35)
                                        replace p38 := eq_true p38
                                        replace q38 := eq_true q38
                                        have hnb74 := NB109_105.out
                                        have hnc74 := NB105_109.out
                                        have hcz75_0 : wr.cell? ⟨gb109, 0, none⟩ = some (.int .i64 (wrap64 (bt a0 0))) := (blk_cell BK109.out 0).trans rfl
                                        have hcz75_1 : wr.cell? ⟨gb109, 1, none⟩ = some (.string (a0.extract 19 ((ji35) : Int).toNat)) := (blk_cell BK109.out 1).trans rfl
                                        have hcz75_2 : wr.cell? ⟨gb109, 2, none⟩ = some (.int .i64 (wrap64 ((wrap64 (t106)) - 1000000000000))) := (blk_cell BK109.out 2).trans rfl
                                        have hcz75_3 : wr.cell? ⟨gb109, 3, none⟩ = some (.int .i64 (wrap64 (t107))) := (blk_cell BK109.out 3).trans rfl
                                        have hcz75_4 : wr.cell? ⟨gb109, 4, none⟩ = some (u110004) := (blk_cell BK109.out 4).trans rfl
                                        have hfz75_0 := blk_frozen BK109.out 0
                                        have hfz75_1 := blk_frozen BK109.out 1
                                        have hfz75_2 := blk_frozen BK109.out 2
                                        have hfz75_3 := blk_frozen BK109.out 3
                                        have hfz75_4 := blk_frozen BK109.out 4
                                        obtain ⟨Ao76, co76, eo76⟩ := Kd.R_slice HO_110004.out
                                        subst eo76
                                        go_wp2_with (first | ((with_reducible refine gate_callee (f := 7) rfl ?_); refine goesL_ (some 106) rfl rfl Tryz.func7 (by kernel_rfl) rfl #[.agg #[.int .i64 (wrap64 (bt a0 0)), .string (a0.extract 19 ((ji35) : Int).toNat), .int .i64 (wrap64 ((wrap64 (t106)) - 1000000000000)), .int .i64 (wrap64 (t107)), .slice Ao76 x110004_2.length co76]] rfl (by (try simp only [List.map_toArray, List.map_cons, List.map_nil]); first | done | (simp only [hji35]; rfl) | rfl | (simp only [List.length_drop, List.length_take]; rfl)) ?_; (with_reducible refine (escutcheonref1_PutReply.calls (wrap64 (bt a0 0)) (a0.extract 19 ((ji35) : Int).toNat) (wrap64 ((wrap64 (t106)) - 1000000000000)) (wrap64 (t107)) _ _ x110004_2 t113 false _ ?side1 ?side2 A60.out).mono ?_); (case side1 => repeat (first | exact (Kd.R_reads' HO_110004.out).2.2 | (with_reducible refine Kd.C_alloc ?_ _) | (with_reducible refine Kd.C_drewN ?_ _) | (with_reducible refine Kd.C_drew ?_))); (case side2 => exact (Kd.R_reads' HO_110004.out).2.1); rintro e w77 ⟨rfl, hb⟩; refine ⟨_, rfl, ?_⟩; have n0_ := Aside0.mk (Kd.R_below (by (with_reducible repeat (first | apply Kd.R_alloc | apply Kd.R_drewN | apply Kd.R_drew)); exact HO_110004.out) hb); have n1_ := Aside0.mk (blk_below (g := gb105) (o := .cells #[.int .i64 x106000_2, .string x106001_2, .int .i64 x106002_2, .int .i64 x106003_2, .slice none 0 0] 25 (0, 0)) (by (with_reducible repeat (first | refine blk_drewN ?_ _ | refine blk_drew ?_ | refine blk_alloc ?_ _)); exact BK105.out) hb); have n2_ := Aside0.mk (blk_below (g := gb109) (o := .cells #[.int .i64 (wrap64 (bt a0 0)), .string (a0.extract 19 ((ji35) : Int).toNat), .int .i64 (wrap64 ((wrap64 (t106)) - 1000000000000)), .int .i64 (wrap64 (t107)), .slice Ao76 x110004_2.length co76] 25 (0, 0)) (by (with_reducible repeat (first | refine blk_drewN ?_ _ | refine blk_drew ?_ | refine blk_alloc ?_ _)); exact BK109.out) hb); have n3_ := Aside0.mk (below_step (by repeat (first | (with_reducible first | exact HB.out | apply below_alloc | apply pw_below_drewN | apply below_drew1 | refine below_set ?_ GE105.out | refine below_set ?_ GE109.out) | exact HB.out)) hb); clear HO_110004; clear BK105; clear BK109; clear HB; have HO_110004 := n0_; have BK105 := n1_; have BK109 := n2_; have HB := n3_; clear n0_ n1_ n2_ n3_; (try clear hb); (try clear hb2); (try clear hk); (try clear hi); have hcz78_0 : w77.cell? ⟨gb105, 0, none⟩ = some (.int .i64 x106000_2) := (blk_cell BK105.out 0).trans rfl; have hcz78_1 : w77.cell? ⟨gb105, 1, none⟩ = some (.string x106001_2) := (blk_cell BK105.out 1).trans rfl; have hcz78_2 : w77.cell? ⟨gb105, 2, none⟩ = some (.int .i64 x106002_2) := (blk_cell BK105.out 2).trans rfl; have hcz78_3 : w77.cell? ⟨gb105, 3, none⟩ = some (.int .i64 x106003_2) := (blk_cell BK105.out 3).trans rfl; have hcz78_4 : w77.cell? ⟨gb105, 4, none⟩ = some (.slice none 0 0) := (blk_cell BK105.out 4).trans rfl; have hfz78_0 := blk_frozen BK105.out 0; have hfz78_1 := blk_frozen BK105.out 1; have hfz78_2 := blk_frozen BK105.out 2; have hfz78_3 := blk_frozen BK105.out 3; have hfz78_4 := blk_frozen BK105.out 4))
                                        refine bodyPost_ret (results_ct rfl _ _ gb105 25 #[.int .i64 0, .string (⟨#[]⟩ : ByteArray), .int .i64 0, .int .i64 0, .slice none 0 0] (0, 0) _ rfl (by (with_reducible repeat (first | refine blk_drewN ?_ _ | refine blk_drew ?_ | refine blk_alloc ?_ _)); refine blk_put (cs := #[.int .i64 0, .string (⟨#[]⟩ : ByteArray), .int .i64 0, .int .i64 0, .slice none 0 0]) ?_ 4 _ rfl; (with_reducible repeat (first | refine blk_drewN ?_ _ | refine blk_drew ?_ | refine blk_alloc ?_ _)); refine blk_put (cs := #[.int .i64 0, .string (⟨#[]⟩ : ByteArray), .int .i64 0, .int .i64 x106003_2, .slice none 0 0]) ?_ 3 _ rfl; (with_reducible repeat (first | refine blk_drewN ?_ _ | refine blk_drew ?_ | refine blk_alloc ?_ _)); refine blk_put (cs := #[.int .i64 0, .string (⟨#[]⟩ : ByteArray), .int .i64 x106002_2, .int .i64 x106003_2, .slice none 0 0]) ?_ 2 _ rfl; (with_reducible repeat (first | refine blk_drewN ?_ _ | refine blk_drew ?_ | refine blk_alloc ?_ _)); refine blk_put (cs := #[.int .i64 0, .string x106001_2, .int .i64 x106002_2, .int .i64 x106003_2, .slice none 0 0]) ?_ 1 _ rfl; (with_reducible repeat (first | refine blk_drewN ?_ _ | refine blk_drew ?_ | refine blk_alloc ?_ _)); refine blk_put (cs := #[.int .i64 x106000_2, .string x106001_2, .int .i64 x106002_2, .int .i64 x106003_2, .slice none 0 0]) ?_ 0 _ rfl; (with_reducible repeat (first | refine blk_drewN ?_ _ | refine blk_drew ?_ | refine blk_alloc ?_ _)); exact BK105.out) Tryz.underlying25 rfl (by kernel_rfl)) rfl ?_
                                        exact ⟨_, by first | rfl | (simp [errW_none, errW_some] <;> rfl) | (simp only [← hji35]; first | rfl | (simp [errW_none, errW_some] <;> rfl)) | (simp [*, errW_none, errW_some] <;> rfl), by first | exact Kd.R_nil _ _ _ _ _ | exact Kd.N_nil _ _ _ _ _ | exact Kd.V_nil _ _ _ _ _ | exact Kd.Q_nil _ _ _ _ _ | exact Kd.S_nil _ _ _ _ _, by repeat (first | (with_reducible first | exact HB.out | apply below_alloc | apply pw_below_drewN | apply below_drew1 | refine below_set ?_ GE105.out | refine below_set ?_ GE109.out) | exact HB.out)⟩
                                  · rw [if_neg c37] at H
                                    exact absurd H (by simp)
                                · rw [if_neg c36] at H
                                  exact absurd H (by simp)
                          · rw [if_neg c27] at H
                            exact absurd H (by simp)
                        · rw [if_neg c26] at H
                          exact absurd H (by simp)
                      · rw [if_neg c24] at H
                        exact absurd H (by simp)
              · rw [if_neg c12] at H
                exact absurd H (by simp)
            · rw [if_neg c11] at H
              exact absurd H (by simp)
          · rw [if_neg c9] at H
            exact absurd H (by simp)
        · rw [if_neg c8] at H
          exact absurd H (by simp)
      · rw [if_neg c6] at H
        exact absurd H (by simp)
    · rw [if_neg c5] at H
      exact absurd H (by simp)

end Go.Proofs.YtbfdaclekjgkfaaGreatDoor.Pg
