-- Laid by wip/tools/ext.py, a program of this repo, over the kit's printer: Go functions as plain Lean functions, and their contracts.
import Derived.Test.YtbfdaclekjgkfaaDoorPr0
namespace Go.Proofs.YtbfdaclekjgkfaaDoor.Pr
open Go.RowKit Go.Proofs.YtbfdaclekjgkfaaDoorW.PrintWords Go.Proofs.YtbfdaclekjgkfaaDoorW.PrintLast Go.Proofs.YtbfdaclekjgkfaaDoorW.PrintMore
attribute [local go_sem] max2_int min2_int max_two min_two max_three min_three max_four min_four   -- for this text's walks alone
set_option linter.unusedVariables false
set_option linter.unusedSimpArgs false

/-! ### escutcheonref1_Put: function 11 -/
def escutcheonref1_Put.f (a0_0 : Int) (a0_1 : ByteArray) (a0_2 : ByteArray) (a0_3 : Int) (a0_4 : Int) : Option (ByteArray × Bool) := (escutcheonref1_Command.f a0_0 a0_1 a0_2 a0_3 a0_4).bind fun t118 => (if t118 = true then ((some (([(a0_0) % 256] : List Int) : List Int)).bind fun y119 => ((escutcheonref1_PutBig.f (IntKind.u64.wrap (wrap64 (a0_3 + 1000000000000))) 8).bind fun t122 => (if (strOfNums y119).size + t122.size ≤ 9223372036854775807 then ((escutcheonref1_PutBig.f (IntKind.u64.wrap (a0_4)) 8).bind fun t123 => (if (strOfNums y119).size + t122.size + t123.size ≤ 9223372036854775807 then ((some (([((a0_1.size : Int)) % 256] : List Int) : List Int)).bind fun y124 => (if (strOfNums y119).size + t122.size + t123.size + (strOfNums y124).size ≤ 9223372036854775807 then (if (strOfNums y119).size + t122.size + t123.size + (strOfNums y124).size + a0_1.size ≤ 9223372036854775807 then (if (strOfNums y119).size + t122.size + t123.size + (strOfNums y124).size + a0_1.size + a0_2.size ≤ 9223372036854775807 then (some ((((((strOfNums y119) ++ t122) ++ t123) ++ (strOfNums y124)) ++ a0_1) ++ a0_2, true)) else (none)) else (none)) else (none))) else (none))) else (none)))) else (some ((⟨#[]⟩ : ByteArray), false)))
def escutcheonref1_Put.T3 : Bool × List (List Nat × List Nat) := (true, [([], []), ([0], [0]), ([1], [1]), ([2], [2]), ([3], [3]), ([], []), ([5], [5]), ([6], [6]), ([7], [7]), ([8], [8]), ([4, 9], [4, 9]), ([], []), ([11], [11]), ([12], [12]), ([13, 9], [13]), ([10, 14], [10, 14]), ([], []), ([16], [16]), ([17], [17]), ([18], [18]), ([19], [19]), ([20], [20]), ([15, 21], [15, 21]), ([], []), ([23], [23]), ([22, 24], [22, 24]), ([], []), ([26], [26]), ([25, 27], [25, 27]), ([28, 14, 0, 1, 2, 3, 4, 5, 6, 7, 8, 9, 10, 11, 12, 13, 14, 15, 16, 17, 18, 19, 20, 21, 22, 23, 24, 25, 26, 27, 28], [28]), ([29, 0, 1, 2, 3, 4, 5, 6, 7, 8, 9, 10, 11, 12, 13, 14, 15, 16, 17, 18, 19, 20, 21, 22, 23, 24, 25, 26, 27, 28, 29], [])])
def escutcheonref1_Put.B3 : List Nat := [0, 1, 3, 7, 15, 0, 32, 96, 224, 480, 1023, 0, 2048, 6144, 15328, 32767, 0, 65536, 196608, 458752, 983040, 2031616, 4194303, 0, 8388608, 33554431, 0, 67108864, 268435455, 536870911, 1073741823]
theorem escutcheonref1_Put.tab3 : rtab .any (opsOf Tryd.f11 3) = escutcheonref1_Put.T3 := by kernel_rfl
theorem escutcheonref1_Put.bits3 : waitsOk escutcheonref1_Put.T3.2 escutcheonref1_Put.B3 = true := by kernel_rfl
set_option maxHeartbeats 8000000 in
set_option maxRecDepth 100000 in
theorem escutcheonref1_Put.calls (a0_0 : Int) (a0_1 : ByteArray) (a0_2 : ByteArray) (a0_3 : Int) (a0_4 : Int) (r1 : ByteArray) (r2 : Bool) (w : World) (h : escutcheonref1_Put.f a0_0 a0_1 a0_2 a0_3 a0_4 = some (r1, r2)) :
    Calls Tryd.prog 11 #[.agg #[.int .i64 a0_0, .string a0_1, .string a0_2, .int .i64 a0_3, .int .i64 a0_4]] w fun e w' => e = .returned (.tuple #[.string r1, .bool r2]) ∧ Below w.heap.size w w' := by
 have hu23 := Tryd.underlying23
 have HB := Aside0.mk (Below.refl w.heap.size w)
 have H : ((escutcheonref1_Command.f a0_0 a0_1 a0_2 a0_3 a0_4).bind fun t118 => (if t118 = true then ((some (([(a0_0) % 256] : List Int) : List Int)).bind fun y119 => ((escutcheonref1_PutBig.f (IntKind.u64.wrap (wrap64 (a0_3 + 1000000000000))) 8).bind fun t122 => (if (strOfNums y119).size + t122.size ≤ 9223372036854775807 then ((escutcheonref1_PutBig.f (IntKind.u64.wrap (a0_4)) 8).bind fun t123 => (if (strOfNums y119).size + t122.size + t123.size ≤ 9223372036854775807 then ((some (([((a0_1.size : Int)) % 256] : List Int) : List Int)).bind fun y124 => (if (strOfNums y119).size + t122.size + t123.size + (strOfNums y124).size ≤ 9223372036854775807 then (if (strOfNums y119).size + t122.size + t123.size + (strOfNums y124).size + a0_1.size ≤ 9223372036854775807 then (if (strOfNums y119).size + t122.size + t123.size + (strOfNums y124).size + a0_1.size + a0_2.size ≤ 9223372036854775807 then (some ((((((strOfNums y119) ++ t122) ++ t123) ++ (strOfNums y124)) ++ a0_1) ++ a0_2, true)) else (none)) else (none)) else (none))) else (none))) else (none)))) else (some ((⟨#[]⟩ : ByteArray), false)))) = some (r1, r2) := h
 clear h
 replace H := Option.bind_eq_some_iff.mp H
 obtain ⟨t118, A20, H⟩ := H
 replace H : (if t118 = true then ((some (([(a0_0) % 256] : List Int) : List Int)).bind fun y119 => ((escutcheonref1_PutBig.f (IntKind.u64.wrap (wrap64 (a0_3 + 1000000000000))) 8).bind fun t122 => (if (strOfNums y119).size + t122.size ≤ 9223372036854775807 then ((escutcheonref1_PutBig.f (IntKind.u64.wrap (a0_4)) 8).bind fun t123 => (if (strOfNums y119).size + t122.size + t123.size ≤ 9223372036854775807 then ((some (([((a0_1.size : Int)) % 256] : List Int) : List Int)).bind fun y124 => (if (strOfNums y119).size + t122.size + t123.size + (strOfNums y124).size ≤ 9223372036854775807 then (if (strOfNums y119).size + t122.size + t123.size + (strOfNums y124).size + a0_1.size ≤ 9223372036854775807 then (if (strOfNums y119).size + t122.size + t123.size + (strOfNums y124).size + a0_1.size + a0_2.size ≤ 9223372036854775807 then (some ((((((strOfNums y119) ++ t122) ++ t123) ++ (strOfNums y124)) ++ a0_1) ++ a0_2, true)) else (none)) else (none)) else (none))) else (none))) else (none)))) else (some ((⟨#[]⟩ : ByteArray), false))) = some (r1, r2) := H
 have A2 := Aside0.mk A20
 clear A20
 by_cases c3 : t118 = true
 · subst c3
   have H1 : ((some (([(a0_0) % 256] : List Int) : List Int)).bind fun y119 => ((escutcheonref1_PutBig.f (IntKind.u64.wrap (wrap64 (a0_3 + 1000000000000))) 8).bind fun t122 => (if (strOfNums y119).size + t122.size ≤ 9223372036854775807 then ((escutcheonref1_PutBig.f (IntKind.u64.wrap (a0_4)) 8).bind fun t123 => (if (strOfNums y119).size + t122.size + t123.size ≤ 9223372036854775807 then ((some (([((a0_1.size : Int)) % 256] : List Int) : List Int)).bind fun y124 => (if (strOfNums y119).size + t122.size + t123.size + (strOfNums y124).size ≤ 9223372036854775807 then (if (strOfNums y119).size + t122.size + t123.size + (strOfNums y124).size + a0_1.size ≤ 9223372036854775807 then (if (strOfNums y119).size + t122.size + t123.size + (strOfNums y124).size + a0_1.size + a0_2.size ≤ 9223372036854775807 then (some ((((((strOfNums y119) ++ t122) ++ t123) ++ (strOfNums y124)) ++ a0_1) ++ a0_2, true)) else (none)) else (none)) else (none))) else (none))) else (none)))) = some (r1, r2) := by rw [if_pos rfl] at H; exact H
   clear H
   have H := H1
   clear H1
   obtain ⟨y119, hy119⟩ : ∃ y_ : List Int, y_ = (([(a0_0) % 256] : List Int)) := ⟨_, rfl⟩
   replace H : ((escutcheonref1_PutBig.f (IntKind.u64.wrap (wrap64 (a0_3 + 1000000000000))) 8).bind fun t122 => (if (strOfNums y119).size + t122.size ≤ 9223372036854775807 then ((escutcheonref1_PutBig.f (IntKind.u64.wrap (a0_4)) 8).bind fun t123 => (if (strOfNums y119).size + t122.size + t123.size ≤ 9223372036854775807 then ((some (([((a0_1.size : Int)) % 256] : List Int) : List Int)).bind fun y124 => (if (strOfNums y119).size + t122.size + t123.size + (strOfNums y124).size ≤ 9223372036854775807 then (if (strOfNums y119).size + t122.size + t123.size + (strOfNums y124).size + a0_1.size ≤ 9223372036854775807 then (if (strOfNums y119).size + t122.size + t123.size + (strOfNums y124).size + a0_1.size + a0_2.size ≤ 9223372036854775807 then (some ((((((strOfNums y119) ++ t122) ++ t123) ++ (strOfNums y124)) ++ a0_1) ++ a0_2, true)) else (none)) else (none)) else (none))) else (none))) else (none))) = some (r1, r2) := by first | (rw [hy119]; with_reducible exact H) | (have H2_ := (Option.bind_some _ _).symm.trans H; rw [hy119]; with_reducible exact H2_) | (have H2_ := (Option.bind_some _ _).symm.trans H; with_reducible exact H2_) | with_reducible exact H | (rw [hy119]; exact H) | exact H
   have Ny119 := Aside0.mk hy119
   clear hy119
   replace H := Option.bind_eq_some_iff.mp H
   obtain ⟨t122, A40, H⟩ := H
   replace H : (if (strOfNums y119).size + t122.size ≤ 9223372036854775807 then ((escutcheonref1_PutBig.f (IntKind.u64.wrap (a0_4)) 8).bind fun t123 => (if (strOfNums y119).size + t122.size + t123.size ≤ 9223372036854775807 then ((some (([((a0_1.size : Int)) % 256] : List Int) : List Int)).bind fun y124 => (if (strOfNums y119).size + t122.size + t123.size + (strOfNums y124).size ≤ 9223372036854775807 then (if (strOfNums y119).size + t122.size + t123.size + (strOfNums y124).size + a0_1.size ≤ 9223372036854775807 then (if (strOfNums y119).size + t122.size + t123.size + (strOfNums y124).size + a0_1.size + a0_2.size ≤ 9223372036854775807 then (some ((((((strOfNums y119) ++ t122) ++ t123) ++ (strOfNums y124)) ++ a0_1) ++ a0_2, true)) else (none)) else (none)) else (none))) else (none))) else (none)) = some (r1, r2) := H
   have A4 := Aside0.mk A40
   clear A40
   by_cases c5 : (strOfNums y119).size + t122.size ≤ 9223372036854775807
   · rw [if_pos c5] at H
     have c5b0 := eq_true c5
     have c5b1 : decide ((strOfNums y119).size + t122.size ≤ 9223372036854775807) = true := decide_eq_true c5
     try have c5b2 : (9223372036854775807 < (strOfNums y119).size + t122.size) = False := eq_false (Nat.not_lt.2 c5)
     replace H := Option.bind_eq_some_iff.mp H
     obtain ⟨t123, A60, H⟩ := H
     replace H : (if (strOfNums y119).size + t122.size + t123.size ≤ 9223372036854775807 then ((some (([((a0_1.size : Int)) % 256] : List Int) : List Int)).bind fun y124 => (if (strOfNums y119).size + t122.size + t123.size + (strOfNums y124).size ≤ 9223372036854775807 then (if (strOfNums y119).size + t122.size + t123.size + (strOfNums y124).size + a0_1.size ≤ 9223372036854775807 then (if (strOfNums y119).size + t122.size + t123.size + (strOfNums y124).size + a0_1.size + a0_2.size ≤ 9223372036854775807 then (some ((((((strOfNums y119) ++ t122) ++ t123) ++ (strOfNums y124)) ++ a0_1) ++ a0_2, true)) else (none)) else (none)) else (none))) else (none)) = some (r1, r2) := H
     have A6 := Aside0.mk A60
     clear A60
     by_cases c7 : (strOfNums y119).size + t122.size + t123.size ≤ 9223372036854775807
     · rw [if_pos c7] at H
       have c7b0 := eq_true c7
       have c7b1 : decide ((strOfNums y119).size + t122.size + t123.size ≤ 9223372036854775807) = true := decide_eq_true c7
       try have c7b2 : (9223372036854775807 < (strOfNums y119).size + t122.size + t123.size) = False := eq_false (Nat.not_lt.2 c7)
       obtain ⟨y124, hy124⟩ : ∃ y_ : List Int, y_ = (([((a0_1.size : Int)) % 256] : List Int)) := ⟨_, rfl⟩
       replace H : (if (strOfNums y119).size + t122.size + t123.size + (strOfNums y124).size ≤ 9223372036854775807 then (if (strOfNums y119).size + t122.size + t123.size + (strOfNums y124).size + a0_1.size ≤ 9223372036854775807 then (if (strOfNums y119).size + t122.size + t123.size + (strOfNums y124).size + a0_1.size + a0_2.size ≤ 9223372036854775807 then (some ((((((strOfNums y119) ++ t122) ++ t123) ++ (strOfNums y124)) ++ a0_1) ++ a0_2, true)) else (none)) else (none)) else (none)) = some (r1, r2) := by first | (rw [hy124]; with_reducible exact H) | (have H2_ := (Option.bind_some _ _).symm.trans H; rw [hy124]; with_reducible exact H2_) | (have H2_ := (Option.bind_some _ _).symm.trans H; with_reducible exact H2_) | with_reducible exact H | (rw [hy124]; exact H) | exact H
       have Ny124 := Aside0.mk hy124
       clear hy124
       by_cases c8 : (strOfNums y119).size + t122.size + t123.size + (strOfNums y124).size ≤ 9223372036854775807
       · rw [if_pos c8] at H
         have c8b0 := eq_true c8
         have c8b1 : decide ((strOfNums y119).size + t122.size + t123.size + (strOfNums y124).size ≤ 9223372036854775807) = true := decide_eq_true c8
         try have c8b2 : (9223372036854775807 < (strOfNums y119).size + t122.size + t123.size + (strOfNums y124).size) = False := eq_false (Nat.not_lt.2 c8)
         by_cases c9 : (strOfNums y119).size + t122.size + t123.size + (strOfNums y124).size + a0_1.size ≤ 9223372036854775807
         · rw [if_pos c9] at H
           have c9b0 := eq_true c9
           have c9b1 : decide ((strOfNums y119).size + t122.size + t123.size + (strOfNums y124).size + a0_1.size ≤ 9223372036854775807) = true := decide_eq_true c9
           try have c9b2 : (9223372036854775807 < (strOfNums y119).size + t122.size + t123.size + (strOfNums y124).size + a0_1.size) = False := eq_false (Nat.not_lt.2 c9)
           by_cases c10 : (strOfNums y119).size + t122.size + t123.size + (strOfNums y124).size + a0_1.size + a0_2.size ≤ 9223372036854775807
           · rw [if_pos c10] at H
             have c10b0 := eq_true c10
             have c10b1 : decide ((strOfNums y119).size + t122.size + t123.size + (strOfNums y124).size + a0_1.size + a0_2.size ≤ 9223372036854775807) = true := decide_eq_true c10
             try have c10b2 : (9223372036854775807 < (strOfNums y119).size + t122.size + t123.size + (strOfNums y124).size + a0_1.size + a0_2.size) = False := eq_false (Nat.not_lt.2 c10)
             simp only [Option.some.injEq, Prod.mk.injEq] at H
             obtain ⟨rfl, rfl⟩ := H
             go_enter Tryd.func11, Tryd.ntmps11
             try go_wp2_with (first | ((with_reducible refine gate_dst (N := 1) rfl ?_); refine box_event ?hg (N := 1) ?hd (cs := #[.int .i64 a0_0, .string a0_1, .string a0_2, .int .i64 a0_3, .int .i64 a0_4]) (t := 23) ?hr ?_; (case hd => rfl); (case hg => rfl); (case hr => first | (go_simp; done) | (go_simp; rfl)); intro gb117 hg w11 hbox hb; have n0_ := Aside0.mk (below_step (by repeat (first | (with_reducible first | exact HB.out | apply below_alloc | apply pw_below_drewN | apply below_drew1) | exact HB.out)) hb); have n1_ := Aside0.mk (hbox); have n2_ := Aside0.mk ((by rw [hg]; exact (below_size (by repeat (first | (with_reducible first | exact HB.out | apply below_alloc | apply pw_below_drewN | apply below_drew1) | exact HB.out))) : w.heap.size ≤ gb117)); have n3_ := Aside0.mk ((by rw [hg]; exact (below_size (by repeat (first | (with_reducible first | exact HB.out | apply below_alloc | apply pw_below_drewN | apply below_drew1) | exact HB.out))) : w.heap.size ≤ gb117)); clear HB; have HB := n0_; have BK117 := n1_; have GW117 := n2_; have GE117 := n3_; clear n0_ n1_ n2_ n3_; clear hb hbox hg; have hcz12_0 : w11.cell? ⟨gb117, 0, none⟩ = some (.int .i64 a0_0) := (blk_cell BK117.out 0).trans rfl; have hcz12_1 : w11.cell? ⟨gb117, 1, none⟩ = some (.string a0_1) := (blk_cell BK117.out 1).trans rfl; have hcz12_2 : w11.cell? ⟨gb117, 2, none⟩ = some (.string a0_2) := (blk_cell BK117.out 2).trans rfl; have hcz12_3 : w11.cell? ⟨gb117, 3, none⟩ = some (.int .i64 a0_3) := (blk_cell BK117.out 3).trans rfl; have hcz12_4 : w11.cell? ⟨gb117, 4, none⟩ = some (.int .i64 a0_4) := (blk_cell BK117.out 4).trans rfl; have hfz12_0 := blk_frozen BK117.out 0; have hfz12_1 := blk_frozen BK117.out 1; have hfz12_2 := blk_frozen BK117.out 2; have hfz12_3 := blk_frozen BK117.out 3; have hfz12_4 := blk_frozen BK117.out 4) | ((with_reducible refine gate_callee (f := 15) rfl ?_); refine goesL_ (some 5) rfl rfl Tryd.func15 (by kernel_rfl) rfl #[.agg #[.int .i64 a0_0, .string a0_1, .string a0_2, .int .i64 a0_3, .int .i64 a0_4]] rfl (by (try simp only [List.map_toArray, List.map_cons, List.map_nil]); first | done | rfl | (simp only [List.length_drop, List.length_take]; rfl)) ?_; (with_reducible refine (escutcheonref1_Command.calls a0_0 a0_1 a0_2 a0_3 a0_4 true _ A2.out).mono ?_); rintro e w13 ⟨rfl, hb⟩; refine ⟨_, rfl, ?_⟩; have n0_ := Aside0.mk (blk_below (g := gb117) (o := .cells #[.int .i64 a0_0, .string a0_1, .string a0_2, .int .i64 a0_3, .int .i64 a0_4] 23 (0, 0)) (by (with_reducible repeat (first | refine blk_drewN ?_ _ | refine blk_drew ?_ | refine blk_alloc ?_ _)); exact BK117.out) hb); have n1_ := Aside0.mk (below_step (by repeat (first | (with_reducible first | exact HB.out | apply below_alloc | apply pw_below_drewN | apply below_drew1 | refine below_set ?_ GE117.out) | exact HB.out)) hb); clear BK117; clear HB; have BK117 := n0_; have HB := n1_; clear n0_ n1_; (try clear hb); (try clear hb2); (try clear hk); (try clear hi)))
             have n0_ := Aside0.mk (blk_drew BK117.out)
             have n1_ := Aside0.mk (below_drew1 HB.out)
             clear BK117
             clear HB
             have BK117 := n0_
             have HB := n1_
             clear n0_ n1_
             refine start_ (n := 31) (S := fun w' => w'.cell? ⟨gb117, 0, none⟩ = some (.int .i64 a0_0) ∧ w'.cell? ⟨gb117, 1, none⟩ = some (.string a0_1) ∧ w'.cell? ⟨gb117, 2, none⟩ = some (.string a0_2) ∧ w'.cell? ⟨gb117, 3, none⟩ = some (.int .i64 a0_3) ∧ w'.cell? ⟨gb117, 4, none⟩ = some (.int .i64 a0_4)) (ds := []) #[false, false, false, false, false, false, false, false, false, false, false, false, false, false, false, false, false, false, false, false, false, false, false, false, false, false, false, false, false, false, false] (by kernel_rfl) rfl rfl (five_ BK117.out) (fun hHeld => ?_); refine with_tabW escutcheonref1_Put.tab3 escutcheonref1_Put.bits3 (fun HT_ HW_ => ?_)
             generalize w13.drew = w14 at BK117 HB hHeld ⊢
             refine pure_ (i := 0) (N := some 7) (v := ?_) (a' := ?_) #[true, false, false, false, false, false, false, false, false, false, false, false, false, false, false, false, false, false, false, false, false, false, false, false, false, false, false, false, false, false, false] rfl rfl (any_of HT_.out (by kernel_rfl)) (fun _ _ _ h => h) (Or.inl ⟨by rfl, ?_⟩) ?_ ?_
             rotate_left
             · intro w'
               go_simp
               with_reducible rfl
             rotate_left
             · simp only [Act.put, lsA, lsB, lsC, i64_w, i32_w]
               rfl
             refine pure_ (i := 5) (N := some 12) (v := ?_) (a' := ?_) #[true, false, false, false, false, true, false, false, false, false, false, false, false, false, false, false, false, false, false, false, false, false, false, false, false, false, false, false, false, false, false] rfl rfl (any_of HT_.out (by kernel_rfl)) (fun _ _ _ h => h) (Or.inl ⟨by rfl, ?_⟩) ?_ ?_
             rotate_left
             · intro w'
               go_simp
               with_reducible rfl
             rotate_left
             · simp only [Act.put, lsA, lsB, lsC, i64_w, i32_w]
               rfl
             refine pure_ (i := 11) (N := some 18) (v := ?_) (a' := ?_) #[true, false, false, false, false, true, false, false, false, false, false, true, false, false, false, false, false, false, false, false, false, false, false, false, false, false, false, false, false, false, false] rfl rfl (any_of HT_.out (by kernel_rfl)) (fun _ _ _ h => h) (Or.inl ⟨by rfl, ?_⟩) ?_ ?_
             rotate_left
             · intro w'
               go_simp
               with_reducible rfl
             rotate_left
             · simp only [Act.put, lsA, lsB, lsC, i64_w, i32_w]
               rfl
             refine pure_ (i := 16) (N := some 23) (v := ?_) (a' := ?_) #[true, false, false, false, false, true, false, false, false, false, false, true, false, false, false, false, true, false, false, false, false, false, false, false, false, false, false, false, false, false, false] rfl rfl (any_of HT_.out (by kernel_rfl)) (fun _ _ _ h => h) (Or.inl ⟨by rfl, ?_⟩) ?_ ?_
             rotate_left
             · intro w'
               go_simp
               with_reducible rfl
             rotate_left
             · simp only [Act.put, lsA, lsB, lsC, i64_w, i32_w]
               rfl
             refine pure_ (i := 23) (N := some 30) (v := ?_) (a' := ?_) #[true, false, false, false, false, true, false, false, false, false, false, true, false, false, false, false, true, false, false, false, false, false, false, true, false, false, false, false, false, false, false] rfl rfl (any_of HT_.out (by kernel_rfl)) (fun _ _ _ h => h) (Or.inl ⟨by rfl, ?_⟩) ?_ ?_
             rotate_left
             · intro w'
               go_simp
               with_reducible rfl
             rotate_left
             · simp only [Act.put, lsA, lsB, lsC, i64_w, i32_w]
               rfl
             refine pure_ (i := 26) (N := some 33) (v := ?_) (a' := ?_) #[true, false, false, false, false, true, false, false, false, false, false, true, false, false, false, false, true, false, false, false, false, false, false, true, false, false, true, false, false, false, false] rfl rfl (any_of HT_.out (by kernel_rfl)) (fun _ _ _ h => h) (Or.inl ⟨by rfl, ?_⟩) ?_ ?_
             rotate_left
             · intro w'
               go_simp
               with_reducible rfl
             rotate_left
             · simp only [Act.put, lsA, lsB, lsC, i64_w, i32_w]
               rfl
             refine take_ (i := 1) (N := some 8) (v := ?_) (a' := ?_) #[true, true, false, false, false, true, false, false, false, false, false, true, false, false, false, false, true, false, false, false, false, false, false, true, false, false, true, false, false, false, false] rfl rfl (take_ofW HT_.out HW_.out (by kernel_rfl)) (fun _ _ _ h => h) (Or.inl ⟨by rfl, ?_⟩) hHeld ?_ ?_
             rotate_left
             · rintro w' ⟨s0, s1, s2, s3, s4⟩
               go_simp
               with_reducible rfl
             rotate_left
             · simp only [Act.put, lsA, lsB, lsC, i64_w, i32_w]
               rfl
             refine pure_ (i := 2) (N := some 9) (v := ?_) (a' := ?_) #[true, true, true, false, false, true, false, false, false, false, false, true, false, false, false, false, true, false, false, false, false, false, false, true, false, false, true, false, false, false, false] rfl rfl (any_of HT_.out (by kernel_rfl)) (fun _ _ _ h => h) (Or.inl ⟨by rfl, ?_⟩) ?_ ?_
             rotate_left
             · intro w'
               go_simp
               with_reducible rfl
             rotate_left
             · simp only [Act.put, lsA, lsB, lsC, i64_w, i32_w]
               rfl
             refine take_ (i := 6) (N := some 13) (v := ?_) (a' := ?_) #[true, true, true, false, false, true, true, false, false, false, false, true, false, false, false, false, true, false, false, false, false, false, false, true, false, false, true, false, false, false, false] rfl rfl (take_ofW HT_.out HW_.out (by kernel_rfl)) (fun _ _ _ h => h) (Or.inl ⟨by rfl, ?_⟩) hHeld ?_ ?_
             rotate_left
             · rintro w' ⟨s0, s1, s2, s3, s4⟩
               go_simp
               with_reducible rfl
             rotate_left
             · simp only [Act.put, lsA, lsB, lsC, i64_w, i32_w]
               rfl
             refine pure_ (i := 7) (N := some 14) (v := ?_) (a' := ?_) #[true, true, true, false, false, true, true, true, false, false, false, true, false, false, false, false, true, false, false, false, false, false, false, true, false, false, true, false, false, false, false] rfl rfl (any_of HT_.out (by kernel_rfl)) (fun _ _ _ h => h) (Or.inl ⟨by rfl, ?_⟩) ?_ ?_
             rotate_left
             · intro w'
               go_simp
               with_reducible rfl
             rotate_left
             · simp only [Act.put, lsA, lsB, lsC, i64_w, i32_w]
               rfl
             refine pure_ (i := 8) (N := some 15) (v := ?_) (a' := ?_) #[true, true, true, false, false, true, true, true, true, false, false, true, false, false, false, false, true, false, false, false, false, false, false, true, false, false, true, false, false, false, false] rfl rfl (any_of HT_.out (by kernel_rfl)) (fun _ _ _ h => h) (Or.inl ⟨by rfl, ?_⟩) ?_ ?_
             rotate_left
             · intro w'
               go_simp
               with_reducible rfl
             rotate_left
             · simp only [Act.put, lsA, lsB, lsC, i64_w, i32_w]
               rfl
             refine take_ (i := 12) (N := some 19) (v := ?_) (a' := ?_) #[true, true, true, false, false, true, true, true, true, false, false, true, true, false, false, false, true, false, false, false, false, false, false, true, false, false, true, false, false, false, false] rfl rfl (take_ofW HT_.out HW_.out (by kernel_rfl)) (fun _ _ _ h => h) (Or.inl ⟨by rfl, ?_⟩) hHeld ?_ ?_
             rotate_left
             · rintro w' ⟨s0, s1, s2, s3, s4⟩
               go_simp
               with_reducible rfl
             rotate_left
             · simp only [Act.put, lsA, lsB, lsC, i64_w, i32_w]
               rfl
             refine pure_ (i := 13) (N := some 20) (v := ?_) (a' := ?_) #[true, true, true, false, false, true, true, true, true, false, false, true, true, true, false, false, true, false, false, false, false, false, false, true, false, false, true, false, false, false, false] rfl rfl (any_of HT_.out (by kernel_rfl)) (fun _ _ _ h => h) (Or.inl ⟨by rfl, ?_⟩) ?_ ?_
             rotate_left
             · intro w'
               go_simp
               with_reducible rfl
             rotate_left
             · simp only [Act.put, lsA, lsB, lsC, i64_w, i32_w]
               rfl
             refine take_ (i := 17) (N := some 24) (v := ?_) (a' := ?_) #[true, true, true, false, false, true, true, true, true, false, false, true, true, true, false, false, true, true, false, false, false, false, false, true, false, false, true, false, false, false, false] rfl rfl (take_ofW HT_.out HW_.out (by kernel_rfl)) (fun _ _ _ h => h) (Or.inl ⟨by rfl, ?_⟩) hHeld ?_ ?_
             rotate_left
             · rintro w' ⟨s0, s1, s2, s3, s4⟩
               go_simp
               with_reducible rfl
             rotate_left
             · simp only [Act.put, lsA, lsB, lsC, i64_w, i32_w]
               rfl
             refine pure_ (i := 18) (N := some 25) (v := ?_) (a' := ?_) #[true, true, true, false, false, true, true, true, true, false, false, true, true, true, false, false, true, true, true, false, false, false, false, true, false, false, true, false, false, false, false] rfl rfl (any_of HT_.out (by kernel_rfl)) (fun _ _ _ h => h) (Or.inl ⟨by rfl, ?_⟩) ?_ ?_
             rotate_left
             · intro w'
               go_simp
               with_reducible rfl
             rotate_left
             · simp only [Act.put, lsA, lsB, lsC, i64_w, i32_w]
               rfl
             refine pure_ (i := 19) (N := some 26) (v := ?_) (a' := ?_) #[true, true, true, false, false, true, true, true, true, false, false, true, true, true, false, false, true, true, true, true, false, false, false, true, false, false, true, false, false, false, false] rfl rfl (any_of HT_.out (by kernel_rfl)) (fun _ _ _ h => h) (Or.inl ⟨by rfl, ?_⟩) ?_ ?_
             rotate_left
             · intro w'
               go_simp
               with_reducible rfl
             rotate_left
             · simp only [Act.put, lsA, lsB, lsC, i64_w, i32_w]
               rfl
             refine take_ (i := 24) (N := some 31) (v := ?_) (a' := ?_) #[true, true, true, false, false, true, true, true, true, false, false, true, true, true, false, false, true, true, true, true, false, false, false, true, true, false, true, false, false, false, false] rfl rfl (take_ofW HT_.out HW_.out (by kernel_rfl)) (fun _ _ _ h => h) (Or.inl ⟨by rfl, ?_⟩) hHeld ?_ ?_
             rotate_left
             · rintro w' ⟨s0, s1, s2, s3, s4⟩
               go_simp
               with_reducible rfl
             rotate_left
             · simp only [Act.put, lsA, lsB, lsC, i64_w, i32_w]
               rfl
             refine take_ (i := 27) (N := some 34) (v := ?_) (a' := ?_) #[true, true, true, false, false, true, true, true, true, false, false, true, true, true, false, false, true, true, true, true, false, false, false, true, true, false, true, true, false, false, false] rfl rfl (take_ofW HT_.out HW_.out (by kernel_rfl)) (fun _ _ _ h => h) (Or.inl ⟨by rfl, ?_⟩) hHeld ?_ ?_
             rotate_left
             · rintro w' ⟨s0, s1, s2, s3, s4⟩
               go_simp
               with_reducible rfl
             rotate_left
             · simp only [Act.put, lsA, lsB, lsC, i64_w, i32_w]
               rfl
             refine join_ (σ := Value × Value) 5 #[true, true, true, true, true, true, true, true, true, true, true, true, true, true, true, true, true, true, true, true, true, true, false, true, true, false, true, true, false, false, false] (fun s_ => [(10, s_.1), (11, .string (strOfNums y119)), (16, .string t122), (21, .string t123), (27, s_.2), (28, .string (strOfNums y124)), (17, .string ((strOfNums y119) ++ t122)), (22, .string (((strOfNums y119) ++ t122) ++ t123))]) (fun s_ w' => (w'.cell? ⟨gb117, 0, none⟩ = some (.int .i64 a0_0) ∧ w'.cell? ⟨gb117, 1, none⟩ = some (.string a0_1) ∧ w'.cell? ⟨gb117, 2, none⟩ = some (.string a0_2) ∧ w'.cell? ⟨gb117, 3, none⟩ = some (.int .i64 a0_3) ∧ w'.cell? ⟨gb117, 4, none⟩ = some (.int .i64 a0_4)) ∧ (Kd.R (Kd.int .u8) 5 w' w.heap.size (fun k_ => some k_ ≠ (s_.2 : Value).ownBlock) s_.1 y119) ∧ (Kd.R (Kd.int .u8) 5 w' w.heap.size (fun k_ => some k_ ≠ (s_.1 : Value).ownBlock) s_.2 y124) ∧ (w'.heap[gb117]? = some (.cells #[.int .i64 a0_0, .string a0_1, .string a0_2, .int .i64 a0_3, .int .i64 a0_4] 23 (0, 0))) ∧ (Below w.heap.size w w')) ?_ ?_
             rotate_left
             · intro hJ3_4_9_14_20_21
               refine join_ (σ := Value × Value) 6 #[true, true, true, true, true, true, true, true, true, true, true, true, true, true, true, true, true, true, true, true, true, false, false, true, true, false, true, true, false, false, false] (fun s_ => [(10, s_.1), (11, .string (strOfNums y119)), (16, .string t122), (21, .string t123), (27, s_.2), (17, .string ((strOfNums y119) ++ t122)), (22, .string (((strOfNums y119) ++ t122) ++ t123))]) (fun s_ w' => (w'.cell? ⟨gb117, 0, none⟩ = some (.int .i64 a0_0) ∧ w'.cell? ⟨gb117, 1, none⟩ = some (.string a0_1) ∧ w'.cell? ⟨gb117, 2, none⟩ = some (.string a0_2) ∧ w'.cell? ⟨gb117, 3, none⟩ = some (.int .i64 a0_3) ∧ w'.cell? ⟨gb117, 4, none⟩ = some (.int .i64 a0_4)) ∧ (Kd.R (Kd.int .u8) 5 w' w.heap.size (fun k_ => some k_ ≠ (s_.2 : Value).ownBlock) s_.1 y119) ∧ (Kd.R (Kd.int .u8) 5 w' w.heap.size (fun k_ => some k_ ≠ (s_.1 : Value).ownBlock) s_.2 y124) ∧ (w'.heap[gb117]? = some (.cells #[.int .i64 a0_0, .string a0_1, .string a0_2, .int .i64 a0_3, .int .i64 a0_4] 23 (0, 0))) ∧ (Below w.heap.size w w')) ?_ ?_
               rotate_left
               · intro hJ3_4_9_14_20
                 refine join_ (σ := Value × Value) 7 #[true, true, true, true, true, true, true, true, true, true, true, true, true, true, false, false, true, true, true, true, true, true, false, true, true, false, true, true, false, false, false] (fun s_ => [(10, s_.1), (11, .string (strOfNums y119)), (16, .string t122), (27, s_.2), (28, .string (strOfNums y124)), (17, .string ((strOfNums y119) ++ t122))]) (fun s_ w' => (w'.cell? ⟨gb117, 0, none⟩ = some (.int .i64 a0_0) ∧ w'.cell? ⟨gb117, 1, none⟩ = some (.string a0_1) ∧ w'.cell? ⟨gb117, 2, none⟩ = some (.string a0_2) ∧ w'.cell? ⟨gb117, 3, none⟩ = some (.int .i64 a0_3) ∧ w'.cell? ⟨gb117, 4, none⟩ = some (.int .i64 a0_4)) ∧ (Kd.R (Kd.int .u8) 5 w' w.heap.size (fun k_ => some k_ ≠ (s_.2 : Value).ownBlock) s_.1 y119) ∧ (Kd.R (Kd.int .u8) 5 w' w.heap.size (fun k_ => some k_ ≠ (s_.1 : Value).ownBlock) s_.2 y124) ∧ (w'.heap[gb117]? = some (.cells #[.int .i64 a0_0, .string a0_1, .string a0_2, .int .i64 a0_3, .int .i64 a0_4] 23 (0, 0))) ∧ (Below w.heap.size w w')) ?_ ?_
                 rotate_left
                 · intro hJ3_4_9_20_21
                   refine join_ (σ := Value × Value) 8 #[true, true, true, true, false, true, true, true, true, true, false, true, true, true, true, false, true, true, true, true, true, true, false, true, true, false, true, true, false, false, false] (fun s_ => [(10, s_.1), (16, .string t122), (21, .string t123), (27, s_.2), (28, .string (strOfNums y124))]) (fun s_ w' => (w'.cell? ⟨gb117, 0, none⟩ = some (.int .i64 a0_0) ∧ w'.cell? ⟨gb117, 1, none⟩ = some (.string a0_1) ∧ w'.cell? ⟨gb117, 2, none⟩ = some (.string a0_2) ∧ w'.cell? ⟨gb117, 3, none⟩ = some (.int .i64 a0_3) ∧ w'.cell? ⟨gb117, 4, none⟩ = some (.int .i64 a0_4)) ∧ (Kd.R (Kd.int .u8) 5 w' w.heap.size (fun k_ => some k_ ≠ (s_.2 : Value).ownBlock) s_.1 y119) ∧ (Kd.R (Kd.int .u8) 5 w' w.heap.size (fun k_ => some k_ ≠ (s_.1 : Value).ownBlock) s_.2 y124) ∧ (w'.heap[gb117]? = some (.cells #[.int .i64 a0_0, .string a0_1, .string a0_2, .int .i64 a0_3, .int .i64 a0_4] 23 (0, 0))) ∧ (Below w.heap.size w w')) ?_ ?_
                   rotate_left
                   · intro hJ3_9_14_20_21
                     refine join_ (σ := Value) 7 #[true, true, true, true, true, true, true, true, true, true, true, true, true, true, true, true, true, true, true, true, false, false, false, true, true, false, true, true, false, false, false] (fun s_ => [(10, s_), (11, .string (strOfNums y119)), (16, .string t122), (21, .string t123), (17, .string ((strOfNums y119) ++ t122)), (22, .string (((strOfNums y119) ++ t122) ++ t123))]) (fun s_ w' => (w'.cell? ⟨gb117, 0, none⟩ = some (.int .i64 a0_0) ∧ w'.cell? ⟨gb117, 1, none⟩ = some (.string a0_1) ∧ w'.cell? ⟨gb117, 2, none⟩ = some (.string a0_2) ∧ w'.cell? ⟨gb117, 3, none⟩ = some (.int .i64 a0_3) ∧ w'.cell? ⟨gb117, 4, none⟩ = some (.int .i64 a0_4)) ∧ (Kd.R (Kd.int .u8) 5 w' w.heap.size (fun _ => True) s_ y119) ∧ (w'.heap[gb117]? = some (.cells #[.int .i64 a0_0, .string a0_1, .string a0_2, .int .i64 a0_3, .int .i64 a0_4] 23 (0, 0))) ∧ (Below w.heap.size w w')) ?_ ?_
                     rotate_left
                     · intro hJ3_4_9_14
                       refine join_ (σ := Value × Value) 8 #[true, true, true, true, true, true, true, true, true, true, true, true, true, true, false, false, true, true, true, true, true, false, false, true, true, false, true, true, false, false, false] (fun s_ => [(10, s_.1), (11, .string (strOfNums y119)), (16, .string t122), (27, s_.2), (17, .string ((strOfNums y119) ++ t122))]) (fun s_ w' => (w'.cell? ⟨gb117, 0, none⟩ = some (.int .i64 a0_0) ∧ w'.cell? ⟨gb117, 1, none⟩ = some (.string a0_1) ∧ w'.cell? ⟨gb117, 2, none⟩ = some (.string a0_2) ∧ w'.cell? ⟨gb117, 3, none⟩ = some (.int .i64 a0_3) ∧ w'.cell? ⟨gb117, 4, none⟩ = some (.int .i64 a0_4)) ∧ (Kd.R (Kd.int .u8) 5 w' w.heap.size (fun k_ => some k_ ≠ (s_.2 : Value).ownBlock) s_.1 y119) ∧ (Kd.R (Kd.int .u8) 5 w' w.heap.size (fun k_ => some k_ ≠ (s_.1 : Value).ownBlock) s_.2 y124) ∧ (w'.heap[gb117]? = some (.cells #[.int .i64 a0_0, .string a0_1, .string a0_2, .int .i64 a0_3, .int .i64 a0_4] 23 (0, 0))) ∧ (Below w.heap.size w w')) ?_ ?_
                       rotate_left
                       · intro hJ3_4_9_20
                         refine join_ (σ := Value × Value) 9 #[true, true, true, true, true, true, true, true, true, false, false, true, true, true, false, false, true, true, true, true, true, true, false, true, true, false, true, true, false, false, false] (fun s_ => [(10, s_.1), (11, .string (strOfNums y119)), (27, s_.2), (28, .string (strOfNums y124))]) (fun s_ w' => (w'.cell? ⟨gb117, 0, none⟩ = some (.int .i64 a0_0) ∧ w'.cell? ⟨gb117, 1, none⟩ = some (.string a0_1) ∧ w'.cell? ⟨gb117, 2, none⟩ = some (.string a0_2) ∧ w'.cell? ⟨gb117, 3, none⟩ = some (.int .i64 a0_3) ∧ w'.cell? ⟨gb117, 4, none⟩ = some (.int .i64 a0_4)) ∧ (Kd.R (Kd.int .u8) 5 w' w.heap.size (fun k_ => some k_ ≠ (s_.2 : Value).ownBlock) s_.1 y119) ∧ (Kd.R (Kd.int .u8) 5 w' w.heap.size (fun k_ => some k_ ≠ (s_.1 : Value).ownBlock) s_.2 y124) ∧ (w'.heap[gb117]? = some (.cells #[.int .i64 a0_0, .string a0_1, .string a0_2, .int .i64 a0_3, .int .i64 a0_4] 23 (0, 0))) ∧ (Below w.heap.size w w')) ?_ ?_
                         rotate_left
                         · intro hJ3_4_20_21
                           refine join_ (σ := Value × Value) 9 #[true, true, true, true, false, true, true, true, true, true, false, true, true, true, true, false, true, true, true, true, true, false, false, true, true, false, true, true, false, false, false] (fun s_ => [(10, s_.1), (16, .string t122), (21, .string t123), (27, s_.2)]) (fun s_ w' => (w'.cell? ⟨gb117, 0, none⟩ = some (.int .i64 a0_0) ∧ w'.cell? ⟨gb117, 1, none⟩ = some (.string a0_1) ∧ w'.cell? ⟨gb117, 2, none⟩ = some (.string a0_2) ∧ w'.cell? ⟨gb117, 3, none⟩ = some (.int .i64 a0_3) ∧ w'.cell? ⟨gb117, 4, none⟩ = some (.int .i64 a0_4)) ∧ (Kd.R (Kd.int .u8) 5 w' w.heap.size (fun k_ => some k_ ≠ (s_.2 : Value).ownBlock) s_.1 y119) ∧ (Kd.R (Kd.int .u8) 5 w' w.heap.size (fun k_ => some k_ ≠ (s_.1 : Value).ownBlock) s_.2 y124) ∧ (w'.heap[gb117]? = some (.cells #[.int .i64 a0_0, .string a0_1, .string a0_2, .int .i64 a0_3, .int .i64 a0_4] 23 (0, 0))) ∧ (Below w.heap.size w w')) ?_ ?_
                           rotate_left
                           · intro hJ3_9_14_20
                             refine join_ (σ := Value × Value) 9 #[true, true, true, true, false, true, true, true, true, true, false, true, true, true, false, false, true, true, true, true, true, true, false, true, true, false, true, true, false, false, false] (fun s_ => [(10, s_.1), (16, .string t122), (27, s_.2), (28, .string (strOfNums y124))]) (fun s_ w' => (w'.cell? ⟨gb117, 0, none⟩ = some (.int .i64 a0_0) ∧ w'.cell? ⟨gb117, 1, none⟩ = some (.string a0_1) ∧ w'.cell? ⟨gb117, 2, none⟩ = some (.string a0_2) ∧ w'.cell? ⟨gb117, 3, none⟩ = some (.int .i64 a0_3) ∧ w'.cell? ⟨gb117, 4, none⟩ = some (.int .i64 a0_4)) ∧ (Kd.R (Kd.int .u8) 5 w' w.heap.size (fun k_ => some k_ ≠ (s_.2 : Value).ownBlock) s_.1 y119) ∧ (Kd.R (Kd.int .u8) 5 w' w.heap.size (fun k_ => some k_ ≠ (s_.1 : Value).ownBlock) s_.2 y124) ∧ (w'.heap[gb117]? = some (.cells #[.int .i64 a0_0, .string a0_1, .string a0_2, .int .i64 a0_3, .int .i64 a0_4] 23 (0, 0))) ∧ (Below w.heap.size w w')) ?_ ?_
                             rotate_left
                             · intro hJ3_9_20_21
                               refine join_ (σ := Value) 9 #[true, true, true, false, false, true, true, true, true, true, false, true, true, true, true, false, true, true, true, true, true, true, false, true, true, false, true, true, false, false, false] (fun s_ => [(16, .string t122), (21, .string t123), (27, s_), (28, .string (strOfNums y124))]) (fun s_ w' => (w'.cell? ⟨gb117, 0, none⟩ = some (.int .i64 a0_0) ∧ w'.cell? ⟨gb117, 1, none⟩ = some (.string a0_1) ∧ w'.cell? ⟨gb117, 2, none⟩ = some (.string a0_2) ∧ w'.cell? ⟨gb117, 3, none⟩ = some (.int .i64 a0_3) ∧ w'.cell? ⟨gb117, 4, none⟩ = some (.int .i64 a0_4)) ∧ (Kd.R (Kd.int .u8) 5 w' w.heap.size (fun _ => True) s_ y124) ∧ (w'.heap[gb117]? = some (.cells #[.int .i64 a0_0, .string a0_1, .string a0_2, .int .i64 a0_3, .int .i64 a0_4] 23 (0, 0))) ∧ (Below w.heap.size w w')) ?_ ?_
                               rotate_left
                               · intro hJ9_14_20_21
                                 refine join_ (σ := Value) 9 #[true, true, true, true, true, true, true, true, true, true, true, true, true, true, false, false, true, true, true, true, false, false, false, true, true, false, true, true, false, false, false] (fun s_ => [(10, s_), (11, .string (strOfNums y119)), (16, .string t122), (17, .string ((strOfNums y119) ++ t122))]) (fun s_ w' => (w'.cell? ⟨gb117, 0, none⟩ = some (.int .i64 a0_0) ∧ w'.cell? ⟨gb117, 1, none⟩ = some (.string a0_1) ∧ w'.cell? ⟨gb117, 2, none⟩ = some (.string a0_2) ∧ w'.cell? ⟨gb117, 3, none⟩ = some (.int .i64 a0_3) ∧ w'.cell? ⟨gb117, 4, none⟩ = some (.int .i64 a0_4)) ∧ (Kd.R (Kd.int .u8) 5 w' w.heap.size (fun _ => True) s_ y119) ∧ (w'.heap[gb117]? = some (.cells #[.int .i64 a0_0, .string a0_1, .string a0_2, .int .i64 a0_3, .int .i64 a0_4] 23 (0, 0))) ∧ (Below w.heap.size w w')) ?_ ?_
                                 rotate_left
                                 · intro hJ3_4_9
                                   refine join_ (σ := Value × Value) 10 #[true, true, true, true, true, true, true, true, true, false, false, true, true, true, false, false, true, true, true, true, true, false, false, true, true, false, true, true, false, false, false] (fun s_ => [(10, s_.1), (11, .string (strOfNums y119)), (27, s_.2)]) (fun s_ w' => (w'.cell? ⟨gb117, 0, none⟩ = some (.int .i64 a0_0) ∧ w'.cell? ⟨gb117, 1, none⟩ = some (.string a0_1) ∧ w'.cell? ⟨gb117, 2, none⟩ = some (.string a0_2) ∧ w'.cell? ⟨gb117, 3, none⟩ = some (.int .i64 a0_3) ∧ w'.cell? ⟨gb117, 4, none⟩ = some (.int .i64 a0_4)) ∧ (Kd.R (Kd.int .u8) 5 w' w.heap.size (fun k_ => some k_ ≠ (s_.2 : Value).ownBlock) s_.1 y119) ∧ (Kd.R (Kd.int .u8) 5 w' w.heap.size (fun k_ => some k_ ≠ (s_.1 : Value).ownBlock) s_.2 y124) ∧ (w'.heap[gb117]? = some (.cells #[.int .i64 a0_0, .string a0_1, .string a0_2, .int .i64 a0_3, .int .i64 a0_4] 23 (0, 0))) ∧ (Below w.heap.size w w')) ?_ ?_
                                   rotate_left
                                   · intro hJ3_4_20
                                     refine join_ (σ := Value) 10 #[true, true, true, true, false, true, true, true, true, true, false, true, true, true, true, false, true, true, true, true, false, false, false, true, true, false, true, true, false, false, false] (fun s_ => [(10, s_), (16, .string t122), (21, .string t123)]) (fun s_ w' => (w'.cell? ⟨gb117, 0, none⟩ = some (.int .i64 a0_0) ∧ w'.cell? ⟨gb117, 1, none⟩ = some (.string a0_1) ∧ w'.cell? ⟨gb117, 2, none⟩ = some (.string a0_2) ∧ w'.cell? ⟨gb117, 3, none⟩ = some (.int .i64 a0_3) ∧ w'.cell? ⟨gb117, 4, none⟩ = some (.int .i64 a0_4)) ∧ (Kd.R (Kd.int .u8) 5 w' w.heap.size (fun _ => True) s_ y119) ∧ (w'.heap[gb117]? = some (.cells #[.int .i64 a0_0, .string a0_1, .string a0_2, .int .i64 a0_3, .int .i64 a0_4] 23 (0, 0))) ∧ (Below w.heap.size w w')) ?_ ?_
                                     rotate_left
                                     · intro hJ3_9_14
                                       refine join_ (σ := Value × Value) 10 #[true, true, true, true, false, true, true, true, true, true, false, true, true, true, false, false, true, true, true, true, true, false, false, true, true, false, true, true, false, false, false] (fun s_ => [(10, s_.1), (16, .string t122), (27, s_.2)]) (fun s_ w' => (w'.cell? ⟨gb117, 0, none⟩ = some (.int .i64 a0_0) ∧ w'.cell? ⟨gb117, 1, none⟩ = some (.string a0_1) ∧ w'.cell? ⟨gb117, 2, none⟩ = some (.string a0_2) ∧ w'.cell? ⟨gb117, 3, none⟩ = some (.int .i64 a0_3) ∧ w'.cell? ⟨gb117, 4, none⟩ = some (.int .i64 a0_4)) ∧ (Kd.R (Kd.int .u8) 5 w' w.heap.size (fun k_ => some k_ ≠ (s_.2 : Value).ownBlock) s_.1 y119) ∧ (Kd.R (Kd.int .u8) 5 w' w.heap.size (fun k_ => some k_ ≠ (s_.1 : Value).ownBlock) s_.2 y124) ∧ (w'.heap[gb117]? = some (.cells #[.int .i64 a0_0, .string a0_1, .string a0_2, .int .i64 a0_3, .int .i64 a0_4] 23 (0, 0))) ∧ (Below w.heap.size w w')) ?_ ?_
                                       rotate_left
                                       · intro hJ3_9_20
                                         refine join_ (σ := Value × Value) 10 #[true, true, true, true, false, true, true, true, true, false, false, true, true, true, false, false, true, true, true, true, true, true, false, true, true, false, true, true, false, false, false] (fun s_ => [(10, s_.1), (27, s_.2), (28, .string (strOfNums y124))]) (fun s_ w' => (w'.cell? ⟨gb117, 0, none⟩ = some (.int .i64 a0_0) ∧ w'.cell? ⟨gb117, 1, none⟩ = some (.string a0_1) ∧ w'.cell? ⟨gb117, 2, none⟩ = some (.string a0_2) ∧ w'.cell? ⟨gb117, 3, none⟩ = some (.int .i64 a0_3) ∧ w'.cell? ⟨gb117, 4, none⟩ = some (.int .i64 a0_4)) ∧ (Kd.R (Kd.int .u8) 5 w' w.heap.size (fun k_ => some k_ ≠ (s_.2 : Value).ownBlock) s_.1 y119) ∧ (Kd.R (Kd.int .u8) 5 w' w.heap.size (fun k_ => some k_ ≠ (s_.1 : Value).ownBlock) s_.2 y124) ∧ (w'.heap[gb117]? = some (.cells #[.int .i64 a0_0, .string a0_1, .string a0_2, .int .i64 a0_3, .int .i64 a0_4] 23 (0, 0))) ∧ (Below w.heap.size w w')) ?_ ?_
                                         rotate_left
                                         · intro hJ3_20_21
                                           refine join_ (σ := Value) 10 #[true, true, true, false, false, true, true, true, true, true, false, true, true, true, true, false, true, true, true, true, true, false, false, true, true, false, true, true, false, false, false] (fun s_ => [(16, .string t122), (21, .string t123), (27, s_)]) (fun s_ w' => (w'.cell? ⟨gb117, 0, none⟩ = some (.int .i64 a0_0) ∧ w'.cell? ⟨gb117, 1, none⟩ = some (.string a0_1) ∧ w'.cell? ⟨gb117, 2, none⟩ = some (.string a0_2) ∧ w'.cell? ⟨gb117, 3, none⟩ = some (.int .i64 a0_3) ∧ w'.cell? ⟨gb117, 4, none⟩ = some (.int .i64 a0_4)) ∧ (Kd.R (Kd.int .u8) 5 w' w.heap.size (fun _ => True) s_ y124) ∧ (w'.heap[gb117]? = some (.cells #[.int .i64 a0_0, .string a0_1, .string a0_2, .int .i64 a0_3, .int .i64 a0_4] 23 (0, 0))) ∧ (Below w.heap.size w w')) ?_ ?_
                                           rotate_left
                                           · intro hJ9_14_20
                                             refine join_ (σ := Value) 10 #[true, true, true, false, false, true, true, true, true, true, false, true, true, true, false, false, true, true, true, true, true, true, false, true, true, false, true, true, false, false, false] (fun s_ => [(16, .string t122), (27, s_), (28, .string (strOfNums y124))]) (fun s_ w' => (w'.cell? ⟨gb117, 0, none⟩ = some (.int .i64 a0_0) ∧ w'.cell? ⟨gb117, 1, none⟩ = some (.string a0_1) ∧ w'.cell? ⟨gb117, 2, none⟩ = some (.string a0_2) ∧ w'.cell? ⟨gb117, 3, none⟩ = some (.int .i64 a0_3) ∧ w'.cell? ⟨gb117, 4, none⟩ = some (.int .i64 a0_4)) ∧ (Kd.R (Kd.int .u8) 5 w' w.heap.size (fun _ => True) s_ y124) ∧ (w'.heap[gb117]? = some (.cells #[.int .i64 a0_0, .string a0_1, .string a0_2, .int .i64 a0_3, .int .i64 a0_4] 23 (0, 0))) ∧ (Below w.heap.size w w')) ?_ ?_
                                             rotate_left
                                             · intro hJ9_20_21
                                               refine join_ (σ := Value) 11 #[true, true, true, true, true, true, true, true, true, false, false, true, true, true, false, false, true, true, true, true, false, false, false, true, true, false, true, true, false, false, false] (fun s_ => [(10, s_), (11, .string (strOfNums y119))]) (fun s_ w' => (w'.cell? ⟨gb117, 0, none⟩ = some (.int .i64 a0_0) ∧ w'.cell? ⟨gb117, 1, none⟩ = some (.string a0_1) ∧ w'.cell? ⟨gb117, 2, none⟩ = some (.string a0_2) ∧ w'.cell? ⟨gb117, 3, none⟩ = some (.int .i64 a0_3) ∧ w'.cell? ⟨gb117, 4, none⟩ = some (.int .i64 a0_4)) ∧ (Kd.R (Kd.int .u8) 5 w' w.heap.size (fun _ => True) s_ y119) ∧ (w'.heap[gb117]? = some (.cells #[.int .i64 a0_0, .string a0_1, .string a0_2, .int .i64 a0_3, .int .i64 a0_4] 23 (0, 0))) ∧ (Below w.heap.size w w')) ?_ ?_
                                               rotate_left
                                               · intro hJ3_4
                                                 refine join_ (σ := Value) 11 #[true, true, true, true, false, true, true, true, true, true, false, true, true, true, false, false, true, true, true, true, false, false, false, true, true, false, true, true, false, false, false] (fun s_ => [(10, s_), (16, .string t122)]) (fun s_ w' => (w'.cell? ⟨gb117, 0, none⟩ = some (.int .i64 a0_0) ∧ w'.cell? ⟨gb117, 1, none⟩ = some (.string a0_1) ∧ w'.cell? ⟨gb117, 2, none⟩ = some (.string a0_2) ∧ w'.cell? ⟨gb117, 3, none⟩ = some (.int .i64 a0_3) ∧ w'.cell? ⟨gb117, 4, none⟩ = some (.int .i64 a0_4)) ∧ (Kd.R (Kd.int .u8) 5 w' w.heap.size (fun _ => True) s_ y119) ∧ (w'.heap[gb117]? = some (.cells #[.int .i64 a0_0, .string a0_1, .string a0_2, .int .i64 a0_3, .int .i64 a0_4] 23 (0, 0))) ∧ (Below w.heap.size w w')) ?_ ?_
                                                 rotate_left
                                                 · intro hJ3_9
                                                   refine join_ (σ := Value × Value) 11 #[true, true, true, true, false, true, true, true, true, false, false, true, true, true, false, false, true, true, true, true, true, false, false, true, true, false, true, true, false, false, false] (fun s_ => [(10, s_.1), (27, s_.2)]) (fun s_ w' => (w'.cell? ⟨gb117, 0, none⟩ = some (.int .i64 a0_0) ∧ w'.cell? ⟨gb117, 1, none⟩ = some (.string a0_1) ∧ w'.cell? ⟨gb117, 2, none⟩ = some (.string a0_2) ∧ w'.cell? ⟨gb117, 3, none⟩ = some (.int .i64 a0_3) ∧ w'.cell? ⟨gb117, 4, none⟩ = some (.int .i64 a0_4)) ∧ (Kd.R (Kd.int .u8) 5 w' w.heap.size (fun k_ => some k_ ≠ (s_.2 : Value).ownBlock) s_.1 y119) ∧ (Kd.R (Kd.int .u8) 5 w' w.heap.size (fun k_ => some k_ ≠ (s_.1 : Value).ownBlock) s_.2 y124) ∧ (w'.heap[gb117]? = some (.cells #[.int .i64 a0_0, .string a0_1, .string a0_2, .int .i64 a0_3, .int .i64 a0_4] 23 (0, 0))) ∧ (Below w.heap.size w w')) ?_ ?_
                                                   rotate_left
                                                   · intro hJ3_20
                                                     refine join_ (σ := Unit) 11 #[true, true, true, false, false, true, true, true, true, true, false, true, true, true, true, false, true, true, true, true, false, false, false, true, true, false, true, true, false, false, false] (fun s_ => [(16, .string t122), (21, .string t123)]) (fun s_ w' => (w'.cell? ⟨gb117, 0, none⟩ = some (.int .i64 a0_0) ∧ w'.cell? ⟨gb117, 1, none⟩ = some (.string a0_1) ∧ w'.cell? ⟨gb117, 2, none⟩ = some (.string a0_2) ∧ w'.cell? ⟨gb117, 3, none⟩ = some (.int .i64 a0_3) ∧ w'.cell? ⟨gb117, 4, none⟩ = some (.int .i64 a0_4)) ∧ (w'.heap[gb117]? = some (.cells #[.int .i64 a0_0, .string a0_1, .string a0_2, .int .i64 a0_3, .int .i64 a0_4] 23 (0, 0))) ∧ (Below w.heap.size w w')) ?_ ?_
                                                     rotate_left
                                                     · intro hJ9_14
                                                       refine join_ (σ := Value) 11 #[true, true, true, false, false, true, true, true, true, true, false, true, true, true, false, false, true, true, true, true, true, false, false, true, true, false, true, true, false, false, false] (fun s_ => [(16, .string t122), (27, s_)]) (fun s_ w' => (w'.cell? ⟨gb117, 0, none⟩ = some (.int .i64 a0_0) ∧ w'.cell? ⟨gb117, 1, none⟩ = some (.string a0_1) ∧ w'.cell? ⟨gb117, 2, none⟩ = some (.string a0_2) ∧ w'.cell? ⟨gb117, 3, none⟩ = some (.int .i64 a0_3) ∧ w'.cell? ⟨gb117, 4, none⟩ = some (.int .i64 a0_4)) ∧ (Kd.R (Kd.int .u8) 5 w' w.heap.size (fun _ => True) s_ y124) ∧ (w'.heap[gb117]? = some (.cells #[.int .i64 a0_0, .string a0_1, .string a0_2, .int .i64 a0_3, .int .i64 a0_4] 23 (0, 0))) ∧ (Below w.heap.size w w')) ?_ ?_
                                                       rotate_left
                                                       · intro hJ9_20
                                                         refine join_ (σ := Value) 11 #[true, true, true, false, false, true, true, true, true, false, false, true, true, true, false, false, true, true, true, true, true, true, false, true, true, false, true, true, false, false, false] (fun s_ => [(27, s_), (28, .string (strOfNums y124))]) (fun s_ w' => (w'.cell? ⟨gb117, 0, none⟩ = some (.int .i64 a0_0) ∧ w'.cell? ⟨gb117, 1, none⟩ = some (.string a0_1) ∧ w'.cell? ⟨gb117, 2, none⟩ = some (.string a0_2) ∧ w'.cell? ⟨gb117, 3, none⟩ = some (.int .i64 a0_3) ∧ w'.cell? ⟨gb117, 4, none⟩ = some (.int .i64 a0_4)) ∧ (Kd.R (Kd.int .u8) 5 w' w.heap.size (fun _ => True) s_ y124) ∧ (w'.heap[gb117]? = some (.cells #[.int .i64 a0_0, .string a0_1, .string a0_2, .int .i64 a0_3, .int .i64 a0_4] 23 (0, 0))) ∧ (Below w.heap.size w w')) ?_ ?_
                                                         rotate_left
                                                         · intro hJ20_21
                                                           refine join_ (σ := Value) 12 #[true, true, true, true, false, true, true, true, true, false, false, true, true, true, false, false, true, true, true, true, false, false, false, true, true, false, true, true, false, false, false] (fun s_ => [(10, s_)]) (fun s_ w' => (w'.cell? ⟨gb117, 0, none⟩ = some (.int .i64 a0_0) ∧ w'.cell? ⟨gb117, 1, none⟩ = some (.string a0_1) ∧ w'.cell? ⟨gb117, 2, none⟩ = some (.string a0_2) ∧ w'.cell? ⟨gb117, 3, none⟩ = some (.int .i64 a0_3) ∧ w'.cell? ⟨gb117, 4, none⟩ = some (.int .i64 a0_4)) ∧ (Kd.R (Kd.int .u8) 5 w' w.heap.size (fun _ => True) s_ y119) ∧ (w'.heap[gb117]? = some (.cells #[.int .i64 a0_0, .string a0_1, .string a0_2, .int .i64 a0_3, .int .i64 a0_4] 23 (0, 0))) ∧ (Below w.heap.size w w')) ?_ ?_
                                                           rotate_left
                                                           · intro hJ3
                                                             refine join_ (σ := Unit) 12 #[true, true, true, false, false, true, true, true, true, true, false, true, true, true, false, false, true, true, true, true, false, false, false, true, true, false, true, true, false, false, false] (fun s_ => [(16, .string t122)]) (fun s_ w' => (w'.cell? ⟨gb117, 0, none⟩ = some (.int .i64 a0_0) ∧ w'.cell? ⟨gb117, 1, none⟩ = some (.string a0_1) ∧ w'.cell? ⟨gb117, 2, none⟩ = some (.string a0_2) ∧ w'.cell? ⟨gb117, 3, none⟩ = some (.int .i64 a0_3) ∧ w'.cell? ⟨gb117, 4, none⟩ = some (.int .i64 a0_4)) ∧ (w'.heap[gb117]? = some (.cells #[.int .i64 a0_0, .string a0_1, .string a0_2, .int .i64 a0_3, .int .i64 a0_4] 23 (0, 0))) ∧ (Below w.heap.size w w')) ?_ ?_
                                                             rotate_left
                                                             · intro hJ9
                                                               refine join_ (σ := Value) 12 #[true, true, true, false, false, true, true, true, true, false, false, true, true, true, false, false, true, true, true, true, true, false, false, true, true, false, true, true, false, false, false] (fun s_ => [(27, s_)]) (fun s_ w' => (w'.cell? ⟨gb117, 0, none⟩ = some (.int .i64 a0_0) ∧ w'.cell? ⟨gb117, 1, none⟩ = some (.string a0_1) ∧ w'.cell? ⟨gb117, 2, none⟩ = some (.string a0_2) ∧ w'.cell? ⟨gb117, 3, none⟩ = some (.int .i64 a0_3) ∧ w'.cell? ⟨gb117, 4, none⟩ = some (.int .i64 a0_4)) ∧ (Kd.R (Kd.int .u8) 5 w' w.heap.size (fun _ => True) s_ y124) ∧ (w'.heap[gb117]? = some (.cells #[.int .i64 a0_0, .string a0_1, .string a0_2, .int .i64 a0_3, .int .i64 a0_4] 23 (0, 0))) ∧ (Below w.heap.size w w')) ?_ ?_
                                                               rotate_left
                                                               · intro hJ20
                                                                 refine three_ (i := 3) (j := 9) (k := 20) (Ni := some 10) (Nj := some 16) (Nk := some 27) #[true, true, true, true, false, true, true, true, true, false, false, true, true, true, false, false, true, true, true, true, false, false, false, true, true, false, true, true, false, false, false] #[true, true, true, false, false, true, true, true, true, true, false, true, true, true, false, false, true, true, true, true, false, false, false, true, true, false, true, true, false, false, false] #[true, true, true, false, false, true, true, true, true, false, false, true, true, true, false, false, true, true, true, true, true, false, false, true, true, false, true, true, false, false, false] rfl rfl rfl rfl rfl rfl (three_of HT_.out (by kernel_rfl)) (by decide) (by decide) (by decide) (fun K hK => ?_) (fun K hK => ?_) (fun K hK => ?_)
                                                                 · skip
                                                                   refine Kd.R_lit_step (Kd.int .u8) _ 5 ?hg (N := 10) ?hd (xs := ([(a0_0) % 256] : List Int)) (inner := [.int .u8 ((a0_0) % 256)]) (ok := fun _ => True) (okp := fun _ => True) ?hr ?hp (fun _ hk => hk) trivial (Below.refl _ _) (Nat.le_refl _) (by simp) ?_; (case hd => rfl); (case hg => rfl); (case hr => first | (go_simp; done) | (go_simp; rfl)); (case hp => exact (Reps.one (show Kd.M (Kd.int .u8) _ _ _ ((a0_0) % 256) [.int .u8 ((a0_0) % 256)] from rfl) (Reps.none _ _)))
                                                                   intro v120 w15 ho16 hb hg_ hnew_
                                                                   clear hg_ hnew_
                                                                   (first | rw [← Ny119.out] at ho16 | (simp only [Int.reduceToNat] at ho16; rw [← Ny119.out] at ho16))
                                                                   have n0_ := Aside0.mk (Kd.R_lower ho16 (below_size (by repeat (first | (with_reducible first | exact HB.out | apply below_alloc | apply pw_below_drewN | apply below_drew1 | refine below_set ?_ GE117.out) | exact HB.out))))
                                                                   have n1_ := Aside0.mk (blk_below (g := gb117) (o := .cells #[.int .i64 a0_0, .string a0_1, .string a0_2, .int .i64 a0_3, .int .i64 a0_4] 23 (0, 0)) (by (with_reducible repeat (first | refine blk_drewN ?_ _ | refine blk_drew ?_ | refine blk_alloc ?_ _)); exact BK117.out) hb)
                                                                   have n2_ := Aside0.mk (below_step (by repeat (first | (with_reducible first | exact HB.out | apply below_alloc | apply pw_below_drewN | apply below_drew1 | refine below_set ?_ GE117.out) | exact HB.out)) hb)
                                                                   clear BK117
                                                                   clear HB
                                                                   have HO121 := n0_
                                                                   have BK117 := n1_
                                                                   have HB := n2_
                                                                   clear n0_ n1_ n2_
                                                                   clear hb ho16
                                                                   refine hK.out _ _ (five_ BK117.out) (fun hHeld => ?_)
                                                                   clear hK K
                                                                   refine norm_ (a' := ?_) ?_ ?_
                                                                   rotate_left
                                                                   · show Act.put _ (some 10) _ = _
                                                                     simp only [Act.put, lsA, lsB, lsC, i64_w, i32_w]
                                                                     rfl
                                                                   exact norm_ (by first | (simp only [putAll, Act.put, lsA, lsB, lsC]; done) | (simp only [putAll, Act.put, lsA, lsB, lsC]; rfl)) (hJ3 (v120) _ ⟨hHeld, (by (with_reducible repeat (first | apply Kd.R_alloc | apply Kd.R_drewN | apply Kd.R_drew)); exact HO121.out), (by (with_reducible repeat (first | refine blk_drewN ?_ _ | refine blk_drew ?_ | refine blk_alloc ?_ _)); exact BK117.out), (by repeat (first | (with_reducible first | exact HB.out | apply below_alloc | apply pw_below_drewN | apply below_drew1 | refine below_set ?_ GE117.out) | exact HB.out))⟩)
                                                                 · skip
                                                                   refine goes_ Tryd.func23 (by kernel_rfl) rfl #[.int .u64 (IntKind.u64.wrap (wrap64 (a0_3 + 1000000000000))), .int .i64 8] (by rfl) rfl rfl (by (try simp only [List.map_toArray, List.map_cons, List.map_nil]); first | done | rfl | (simp only [List.length_drop, List.length_take]; rfl)) ?_
                                                                   with_reducible refine (escutcheonref1_PutBig.calls (IntKind.u64.wrap (wrap64 (a0_3 + 1000000000000))) 8 t122 _ A4.out).mono ?_
                                                                   rintro e w15 ⟨rfl, hb⟩
                                                                   refine ⟨_, rfl, ?_⟩
                                                                   have n0_ := Aside0.mk (blk_below (g := gb117) (o := .cells #[.int .i64 a0_0, .string a0_1, .string a0_2, .int .i64 a0_3, .int .i64 a0_4] 23 (0, 0)) (by (with_reducible repeat (first | refine blk_drewN ?_ _ | refine blk_drew ?_ | refine blk_alloc ?_ _)); exact BK117.out) hb)
                                                                   have n1_ := Aside0.mk (below_step (by repeat (first | (with_reducible first | exact HB.out | apply below_alloc | apply pw_below_drewN | apply below_drew1 | refine below_set ?_ GE117.out) | exact HB.out)) hb)
                                                                   clear BK117
                                                                   clear HB
                                                                   have BK117 := n0_
                                                                   have HB := n1_
                                                                   clear n0_ n1_
                                                                   (try clear hb)
                                                                   (try clear hb2)
                                                                   (try clear hk)
                                                                   (try clear hi)
                                                                   refine hK.out _ _ (five_ BK117.out) (fun hHeld => ?_)
                                                                   clear hK K
                                                                   refine norm_ (a' := ?_) ?_ ?_
                                                                   rotate_left
                                                                   · show Act.put _ (some 16) _ = _
                                                                     simp only [Act.put, lsA, lsB, lsC, i64_w, i32_w]
                                                                     rfl
                                                                   exact norm_ (by first | (simp only [putAll, Act.put, lsA, lsB, lsC]; done) | (simp only [putAll, Act.put, lsA, lsB, lsC]; rfl)) (hJ9 () _ ⟨hHeld, (by (with_reducible repeat (first | refine blk_drewN ?_ _ | refine blk_drew ?_ | refine blk_alloc ?_ _)); exact BK117.out), (by repeat (first | (with_reducible first | exact HB.out | apply below_alloc | apply pw_below_drewN | apply below_drew1 | refine below_set ?_ GE117.out) | exact HB.out))⟩)
                                                                 · skip
                                                                   refine Kd.R_lit_step (Kd.int .u8) _ 5 ?hg (N := 27) ?hd (xs := ([((a0_1.size : Int)) % 256] : List Int)) (inner := [.int .u8 (((a0_1.size : Int)) % 256)]) (ok := fun _ => True) (okp := fun _ => True) ?hr ?hp (fun _ hk => hk) trivial (Below.refl _ _) (Nat.le_refl _) (by simp) ?_; (case hd => rfl); (case hg => rfl); (case hr => first | (go_simp; done) | (go_simp; rfl)); (case hp => exact (Reps.one (show Kd.M (Kd.int .u8) _ _ _ (((a0_1.size : Int)) % 256) [.int .u8 (((a0_1.size : Int)) % 256)] from rfl) (Reps.none _ _)))
                                                                   intro v125 w15 ho16 hb hg_ hnew_
                                                                   clear hg_ hnew_
                                                                   (first | rw [← Ny124.out] at ho16 | (simp only [Int.reduceToNat] at ho16; rw [← Ny124.out] at ho16))
                                                                   have n0_ := Aside0.mk (Kd.R_lower ho16 (below_size (by repeat (first | (with_reducible first | exact HB.out | apply below_alloc | apply pw_below_drewN | apply below_drew1 | refine below_set ?_ GE117.out) | exact HB.out))))
                                                                   have n1_ := Aside0.mk (blk_below (g := gb117) (o := .cells #[.int .i64 a0_0, .string a0_1, .string a0_2, .int .i64 a0_3, .int .i64 a0_4] 23 (0, 0)) (by (with_reducible repeat (first | refine blk_drewN ?_ _ | refine blk_drew ?_ | refine blk_alloc ?_ _)); exact BK117.out) hb)
                                                                   have n2_ := Aside0.mk (below_step (by repeat (first | (with_reducible first | exact HB.out | apply below_alloc | apply pw_below_drewN | apply below_drew1 | refine below_set ?_ GE117.out) | exact HB.out)) hb)
                                                                   clear BK117
                                                                   clear HB
                                                                   have HO126 := n0_
                                                                   have BK117 := n1_
                                                                   have HB := n2_
                                                                   clear n0_ n1_ n2_
                                                                   clear hb ho16
                                                                   refine hK.out _ _ (five_ BK117.out) (fun hHeld => ?_)
                                                                   clear hK K
                                                                   refine norm_ (a' := ?_) ?_ ?_
                                                                   rotate_left
                                                                   · show Act.put _ (some 27) _ = _
                                                                     simp only [Act.put, lsA, lsB, lsC, i64_w, i32_w]
                                                                     rfl
                                                                   exact norm_ (by first | (simp only [putAll, Act.put, lsA, lsB, lsC]; done) | (simp only [putAll, Act.put, lsA, lsB, lsC]; rfl)) (hJ20 (v125) _ ⟨hHeld, (by (with_reducible repeat (first | apply Kd.R_alloc | apply Kd.R_drewN | apply Kd.R_drew)); exact HO126.out), (by (with_reducible repeat (first | refine blk_drewN ?_ _ | refine blk_drew ?_ | refine blk_alloc ?_ _)); exact BK117.out), (by repeat (first | (with_reducible first | exact HB.out | apply below_alloc | apply pw_below_drewN | apply below_drew1 | refine below_set ?_ GE117.out) | exact HB.out))⟩)
                                                               · skip
                                                                 rintro v125 w17 ⟨hS_, h0_, h1_, h2_⟩
                                                                 have n0_ : Aside0 (Kd.R (Kd.int .u8) 5 w17 w.heap.size (fun _ => True) v125 y124) := ⟨h0_⟩
                                                                 have n1_ : Aside0 (w17.heap[gb117]? = some (.cells #[.int .i64 a0_0, .string a0_1, .string a0_2, .int .i64 a0_3, .int .i64 a0_4] 23 (0, 0))) := ⟨h1_⟩
                                                                 have n2_ : Aside0 (Below w.heap.size w w17) := ⟨h2_⟩
                                                                 clear BK117
                                                                 clear HB
                                                                 clear h0_ h1_ h2_
                                                                 have HO126 := n0_
                                                                 have BK117 := n1_
                                                                 have HB := n2_
                                                                 clear n0_ n1_ n2_
                                                                 have hHeld : w17.cell? ⟨gb117, 0, none⟩ = some (.int .i64 a0_0) ∧ w17.cell? ⟨gb117, 1, none⟩ = some (.string a0_1) ∧ w17.cell? ⟨gb117, 2, none⟩ = some (.string a0_2) ∧ w17.cell? ⟨gb117, 3, none⟩ = some (.int .i64 a0_3) ∧ w17.cell? ⟨gb117, 4, none⟩ = some (.int .i64 a0_4) := hS_
                                                                 refine norm_ (a' := ?_) ?_ ?_
                                                                 rotate_left
                                                                 · simp only [putAll, Act.put, lsA, lsB, lsC]
                                                                   rfl
                                                                 refine three_ (i := 3) (j := 9) (k := 21) (Ni := some 10) (Nj := some 16) (Nk := some 28) #[true, true, true, true, false, true, true, true, true, false, false, true, true, true, false, false, true, true, true, true, true, false, false, true, true, false, true, true, false, false, false] #[true, true, true, false, false, true, true, true, true, true, false, true, true, true, false, false, true, true, true, true, true, false, false, true, true, false, true, true, false, false, false] #[true, true, true, false, false, true, true, true, true, false, false, true, true, true, false, false, true, true, true, true, true, true, false, true, true, false, true, true, false, false, false] rfl rfl rfl rfl rfl rfl (three_of HT_.out (by kernel_rfl)) (by decide) (by decide) (by decide) (fun K hK => ?_) (fun K hK => ?_) (fun K hK => ?_)
                                                                 · skip
                                                                   refine Kd.R_lit_step (Kd.int .u8) _ 5 ?hg (N := 10) ?hd (xs := ([(a0_0) % 256] : List Int)) (inner := [.int .u8 ((a0_0) % 256)]) (ok := fun _ => True) (okp := fun _ => True) ?hr ?hp (fun _ hk => hk) trivial (Below.refl _ _) (Nat.le_refl _) (by simp) ?_; (case hd => rfl); (case hg => rfl); (case hr => first | (go_simp; done) | (go_simp; rfl)); (case hp => exact (Reps.one (show Kd.M (Kd.int .u8) _ _ _ ((a0_0) % 256) [.int .u8 ((a0_0) % 256)] from rfl) (Reps.none _ _)))
                                                                   intro v120 w18 ho19 hb hg_ hnew_
                                                                   clear hg_ hnew_
                                                                   (first | rw [← Ny119.out] at ho19 | (simp only [Int.reduceToNat] at ho19; rw [← Ny119.out] at ho19))
                                                                   have n0_ := Aside0.mk (Kd.R_elder' (by (with_reducible repeat (first | apply Kd.R_alloc | apply Kd.R_drewN | apply Kd.R_drew)); exact HO126.out) (Kd.R_base ho19) hb)
                                                                   have n1_ := Aside0.mk (Kd.R_lower (Kd.R_new' ho19 (Kd.R_lt (by (with_reducible repeat (first | apply Kd.R_alloc | apply Kd.R_drewN | apply Kd.R_drew)); exact HO126.out))) (below_size (by repeat (first | (with_reducible first | exact HB.out | apply below_alloc | apply pw_below_drewN | apply below_drew1 | refine below_set ?_ GE117.out) | exact HB.out))))
                                                                   have n2_ := Aside0.mk (blk_below (g := gb117) (o := .cells #[.int .i64 a0_0, .string a0_1, .string a0_2, .int .i64 a0_3, .int .i64 a0_4] 23 (0, 0)) (by (with_reducible repeat (first | refine blk_drewN ?_ _ | refine blk_drew ?_ | refine blk_alloc ?_ _)); exact BK117.out) hb)
                                                                   have n3_ := Aside0.mk (below_step (by repeat (first | (with_reducible first | exact HB.out | apply below_alloc | apply pw_below_drewN | apply below_drew1 | refine below_set ?_ GE117.out) | exact HB.out)) hb)
                                                                   clear HO126
                                                                   clear BK117
                                                                   clear HB
                                                                   have HO126 := n0_
                                                                   have HO121 := n1_
                                                                   have BK117 := n2_
                                                                   have HB := n3_
                                                                   clear n0_ n1_ n2_ n3_
                                                                   clear hb ho19
                                                                   refine hK.out _ _ (five_ BK117.out) (fun hHeld => ?_)
                                                                   clear hK K
                                                                   refine norm_ (a' := ?_) ?_ ?_
                                                                   rotate_left
                                                                   · show Act.put _ (some 10) _ = _
                                                                     simp only [Act.put, lsA, lsB, lsC, i64_w, i32_w]
                                                                     rfl
                                                                   exact norm_ (by first | (simp only [putAll, Act.put, lsA, lsB, lsC]; done) | (simp only [putAll, Act.put, lsA, lsB, lsC]; rfl)) (hJ3_20 (v120, v125) _ ⟨hHeld, (by (with_reducible repeat (first | apply Kd.R_alloc | apply Kd.R_drewN | apply Kd.R_drew)); exact Kd.R_mono HO121.out (fun _ hk => hk.2)), (by (with_reducible repeat (first | apply Kd.R_alloc | apply Kd.R_drewN | apply Kd.R_drew)); exact Kd.R_mono HO126.out (fun _ hk => hk.2)), (by (with_reducible repeat (first | refine blk_drewN ?_ _ | refine blk_drew ?_ | refine blk_alloc ?_ _)); exact BK117.out), (by repeat (first | (with_reducible first | exact HB.out | apply below_alloc | apply pw_below_drewN | apply below_drew1 | refine below_set ?_ GE117.out) | exact HB.out))⟩)
                                                                 · skip
                                                                   refine goes_ Tryd.func23 (by kernel_rfl) rfl #[.int .u64 (IntKind.u64.wrap (wrap64 (a0_3 + 1000000000000))), .int .i64 8] (by rfl) rfl rfl (by (try simp only [List.map_toArray, List.map_cons, List.map_nil]); first | done | rfl | (simp only [List.length_drop, List.length_take]; rfl)) ?_
                                                                   with_reducible refine (escutcheonref1_PutBig.calls (IntKind.u64.wrap (wrap64 (a0_3 + 1000000000000))) 8 t122 _ A4.out).mono ?_
                                                                   rintro e w18 ⟨rfl, hb⟩
                                                                   refine ⟨_, rfl, ?_⟩
                                                                   have n0_ := Aside0.mk (Kd.R_below (by (with_reducible repeat (first | apply Kd.R_alloc | apply Kd.R_drewN | apply Kd.R_drew)); exact HO126.out) hb)
                                                                   have n1_ := Aside0.mk (blk_below (g := gb117) (o := .cells #[.int .i64 a0_0, .string a0_1, .string a0_2, .int .i64 a0_3, .int .i64 a0_4] 23 (0, 0)) (by (with_reducible repeat (first | refine blk_drewN ?_ _ | refine blk_drew ?_ | refine blk_alloc ?_ _)); exact BK117.out) hb)
                                                                   have n2_ := Aside0.mk (below_step (by repeat (first | (with_reducible first | exact HB.out | apply below_alloc | apply pw_below_drewN | apply below_drew1 | refine below_set ?_ GE117.out) | exact HB.out)) hb)
                                                                   clear HO126
                                                                   clear BK117
                                                                   clear HB
                                                                   have HO126 := n0_
                                                                   have BK117 := n1_
                                                                   have HB := n2_
                                                                   clear n0_ n1_ n2_
                                                                   (try clear hb)
                                                                   (try clear hb2)
                                                                   (try clear hk)
                                                                   (try clear hi)
                                                                   refine hK.out _ _ (five_ BK117.out) (fun hHeld => ?_)
                                                                   clear hK K
                                                                   refine norm_ (a' := ?_) ?_ ?_
                                                                   rotate_left
                                                                   · show Act.put _ (some 16) _ = _
                                                                     simp only [Act.put, lsA, lsB, lsC, i64_w, i32_w]
                                                                     rfl
                                                                   exact norm_ (by first | (simp only [putAll, Act.put, lsA, lsB, lsC]; done) | (simp only [putAll, Act.put, lsA, lsB, lsC]; rfl)) (hJ9_20 (v125) _ ⟨hHeld, (by (with_reducible repeat (first | apply Kd.R_alloc | apply Kd.R_drewN | apply Kd.R_drew)); exact HO126.out), (by (with_reducible repeat (first | refine blk_drewN ?_ _ | refine blk_drew ?_ | refine blk_alloc ?_ _)); exact BK117.out), (by repeat (first | (with_reducible first | exact HB.out | apply below_alloc | apply pw_below_drewN | apply below_drew1 | refine below_set ?_ GE117.out) | exact HB.out))⟩)
                                                                 · skip
                                                                   have hcv18 := own_string (P := Tryd.prog) Tryd.underlying35 Tryd.underlying5 Tryd.underlying9 (Kd.own_of_R HO126.out)
                                                                   refine value_ (w1 := ?_) (v := ?_) (by rfl) rfl ?_ ?_
                                                                   rotate_left 2
                                                                   · go_simp
                                                                     constructor
                                                                     · rfl
                                                                     · rfl
                                                                   clear hcv18
                                                                   refine hK.out _ _ (five_ BK117.out) (fun hHeld => ?_)
                                                                   clear hK K
                                                                   refine norm_ (a' := ?_) ?_ ?_
                                                                   rotate_left
                                                                   · show Act.put _ (some 28) _ = _
                                                                     simp only [Act.put, lsA, lsB, lsC, i64_w, i32_w]
                                                                     rfl
                                                                   exact norm_ (by first | (simp only [putAll, Act.put, lsA, lsB, lsC]; done) | (simp only [putAll, Act.put, lsA, lsB, lsC]; rfl)) (hJ20_21 (v125) _ ⟨hHeld, (by (with_reducible repeat (first | apply Kd.R_alloc | apply Kd.R_drewN | apply Kd.R_drew)); exact HO126.out), (by (with_reducible repeat (first | refine blk_drewN ?_ _ | refine blk_drew ?_ | refine blk_alloc ?_ _)); exact BK117.out), (by repeat (first | (with_reducible first | exact HB.out | apply below_alloc | apply pw_below_drewN | apply below_drew1 | refine below_set ?_ GE117.out) | exact HB.out))⟩)
                                                             · skip
                                                               rintro _ w16 ⟨hS_, h0_, h1_⟩
                                                               have n0_ : Aside0 (w16.heap[gb117]? = some (.cells #[.int .i64 a0_0, .string a0_1, .string a0_2, .int .i64 a0_3, .int .i64 a0_4] 23 (0, 0))) := ⟨h0_⟩
                                                               have n1_ : Aside0 (Below w.heap.size w w16) := ⟨h1_⟩
                                                               clear BK117
                                                               clear HB
                                                               clear h0_ h1_
                                                               have BK117 := n0_
                                                               have HB := n1_
                                                               clear n0_ n1_
                                                               have hHeld : w16.cell? ⟨gb117, 0, none⟩ = some (.int .i64 a0_0) ∧ w16.cell? ⟨gb117, 1, none⟩ = some (.string a0_1) ∧ w16.cell? ⟨gb117, 2, none⟩ = some (.string a0_2) ∧ w16.cell? ⟨gb117, 3, none⟩ = some (.int .i64 a0_3) ∧ w16.cell? ⟨gb117, 4, none⟩ = some (.int .i64 a0_4) := hS_
                                                               refine norm_ (a' := ?_) ?_ ?_
                                                               rotate_left
                                                               · simp only [putAll, Act.put, lsA, lsB, lsC]
                                                                 rfl
                                                               refine three_ (i := 3) (j := 14) (k := 20) (Ni := some 10) (Nj := some 21) (Nk := some 27) #[true, true, true, true, false, true, true, true, true, true, false, true, true, true, false, false, true, true, true, true, false, false, false, true, true, false, true, true, false, false, false] #[true, true, true, false, false, true, true, true, true, true, false, true, true, true, true, false, true, true, true, true, false, false, false, true, true, false, true, true, false, false, false] #[true, true, true, false, false, true, true, true, true, true, false, true, true, true, false, false, true, true, true, true, true, false, false, true, true, false, true, true, false, false, false] rfl rfl rfl rfl rfl rfl (three_of HT_.out (by kernel_rfl)) (by decide) (by decide) (by decide) (fun K hK => ?_) (fun K hK => ?_) (fun K hK => ?_)
                                                               · skip
                                                                 refine Kd.R_lit_step (Kd.int .u8) _ 5 ?hg (N := 10) ?hd (xs := ([(a0_0) % 256] : List Int)) (inner := [.int .u8 ((a0_0) % 256)]) (ok := fun _ => True) (okp := fun _ => True) ?hr ?hp (fun _ hk => hk) trivial (Below.refl _ _) (Nat.le_refl _) (by simp) ?_; (case hd => rfl); (case hg => rfl); (case hr => first | (go_simp; done) | (go_simp; rfl)); (case hp => exact (Reps.one (show Kd.M (Kd.int .u8) _ _ _ ((a0_0) % 256) [.int .u8 ((a0_0) % 256)] from rfl) (Reps.none _ _)))
                                                                 intro v120 w17 ho18 hb hg_ hnew_
                                                                 clear hg_ hnew_
                                                                 (first | rw [← Ny119.out] at ho18 | (simp only [Int.reduceToNat] at ho18; rw [← Ny119.out] at ho18))
                                                                 have n0_ := Aside0.mk (Kd.R_lower ho18 (below_size (by repeat (first | (with_reducible first | exact HB.out | apply below_alloc | apply pw_below_drewN | apply below_drew1 | refine below_set ?_ GE117.out) | exact HB.out))))
                                                                 have n1_ := Aside0.mk (blk_below (g := gb117) (o := .cells #[.int .i64 a0_0, .string a0_1, .string a0_2, .int .i64 a0_3, .int .i64 a0_4] 23 (0, 0)) (by (with_reducible repeat (first | refine blk_drewN ?_ _ | refine blk_drew ?_ | refine blk_alloc ?_ _)); exact BK117.out) hb)
                                                                 have n2_ := Aside0.mk (below_step (by repeat (first | (with_reducible first | exact HB.out | apply below_alloc | apply pw_below_drewN | apply below_drew1 | refine below_set ?_ GE117.out) | exact HB.out)) hb)
                                                                 clear BK117
                                                                 clear HB
                                                                 have HO121 := n0_
                                                                 have BK117 := n1_
                                                                 have HB := n2_
                                                                 clear n0_ n1_ n2_
                                                                 clear hb ho18
                                                                 refine hK.out _ _ (five_ BK117.out) (fun hHeld => ?_)
                                                                 clear hK K
                                                                 refine norm_ (a' := ?_) ?_ ?_
                                                                 rotate_left
                                                                 · show Act.put _ (some 10) _ = _
                                                                   simp only [Act.put, lsA, lsB, lsC, i64_w, i32_w]
                                                                   rfl
                                                                 exact norm_ (by first | (simp only [putAll, Act.put, lsA, lsB, lsC]; done) | (simp only [putAll, Act.put, lsA, lsB, lsC]; rfl)) (hJ3_9 (v120) _ ⟨hHeld, (by (with_reducible repeat (first | apply Kd.R_alloc | apply Kd.R_drewN | apply Kd.R_drew)); exact HO121.out), (by (with_reducible repeat (first | refine blk_drewN ?_ _ | refine blk_drew ?_ | refine blk_alloc ?_ _)); exact BK117.out), (by repeat (first | (with_reducible first | exact HB.out | apply below_alloc | apply pw_below_drewN | apply below_drew1 | refine below_set ?_ GE117.out) | exact HB.out))⟩)
                                                               · skip
                                                                 refine goes_ Tryd.func23 (by kernel_rfl) rfl #[.int .u64 (IntKind.u64.wrap (a0_4)), .int .i64 8] (by rfl) rfl rfl (by (try simp only [List.map_toArray, List.map_cons, List.map_nil]); first | done | rfl | (simp only [List.length_drop, List.length_take]; rfl)) ?_
                                                                 with_reducible refine (escutcheonref1_PutBig.calls (IntKind.u64.wrap (a0_4)) 8 t123 _ A6.out).mono ?_
                                                                 rintro e w17 ⟨rfl, hb⟩
                                                                 refine ⟨_, rfl, ?_⟩
                                                                 have n0_ := Aside0.mk (blk_below (g := gb117) (o := .cells #[.int .i64 a0_0, .string a0_1, .string a0_2, .int .i64 a0_3, .int .i64 a0_4] 23 (0, 0)) (by (with_reducible repeat (first | refine blk_drewN ?_ _ | refine blk_drew ?_ | refine blk_alloc ?_ _)); exact BK117.out) hb)
                                                                 have n1_ := Aside0.mk (below_step (by repeat (first | (with_reducible first | exact HB.out | apply below_alloc | apply pw_below_drewN | apply below_drew1 | refine below_set ?_ GE117.out) | exact HB.out)) hb)
                                                                 clear BK117
                                                                 clear HB
                                                                 have BK117 := n0_
                                                                 have HB := n1_
                                                                 clear n0_ n1_
                                                                 (try clear hb)
                                                                 (try clear hb2)
                                                                 (try clear hk)
                                                                 (try clear hi)
                                                                 refine hK.out _ _ (five_ BK117.out) (fun hHeld => ?_)
                                                                 clear hK K
                                                                 refine norm_ (a' := ?_) ?_ ?_
                                                                 rotate_left
                                                                 · show Act.put _ (some 21) _ = _
                                                                   simp only [Act.put, lsA, lsB, lsC, i64_w, i32_w]
                                                                   rfl
                                                                 exact norm_ (by first | (simp only [putAll, Act.put, lsA, lsB, lsC]; done) | (simp only [putAll, Act.put, lsA, lsB, lsC]; rfl)) (hJ9_14 () _ ⟨hHeld, (by (with_reducible repeat (first | refine blk_drewN ?_ _ | refine blk_drew ?_ | refine blk_alloc ?_ _)); exact BK117.out), (by repeat (first | (with_reducible first | exact HB.out | apply below_alloc | apply pw_below_drewN | apply below_drew1 | refine below_set ?_ GE117.out) | exact HB.out))⟩)
                                                               · skip
                                                                 refine Kd.R_lit_step (Kd.int .u8) _ 5 ?hg (N := 27) ?hd (xs := ([((a0_1.size : Int)) % 256] : List Int)) (inner := [.int .u8 (((a0_1.size : Int)) % 256)]) (ok := fun _ => True) (okp := fun _ => True) ?hr ?hp (fun _ hk => hk) trivial (Below.refl _ _) (Nat.le_refl _) (by simp) ?_; (case hd => rfl); (case hg => rfl); (case hr => first | (go_simp; done) | (go_simp; rfl)); (case hp => exact (Reps.one (show Kd.M (Kd.int .u8) _ _ _ (((a0_1.size : Int)) % 256) [.int .u8 (((a0_1.size : Int)) % 256)] from rfl) (Reps.none _ _)))
                                                                 intro v125 w17 ho18 hb hg_ hnew_
                                                                 clear hg_ hnew_
                                                                 (first | rw [← Ny124.out] at ho18 | (simp only [Int.reduceToNat] at ho18; rw [← Ny124.out] at ho18))
                                                                 have n0_ := Aside0.mk (Kd.R_lower ho18 (below_size (by repeat (first | (with_reducible first | exact HB.out | apply below_alloc | apply pw_below_drewN | apply below_drew1 | refine below_set ?_ GE117.out) | exact HB.out))))
                                                                 have n1_ := Aside0.mk (blk_below (g := gb117) (o := .cells #[.int .i64 a0_0, .string a0_1, .string a0_2, .int .i64 a0_3, .int .i64 a0_4] 23 (0, 0)) (by (with_reducible repeat (first | refine blk_drewN ?_ _ | refine blk_drew ?_ | refine blk_alloc ?_ _)); exact BK117.out) hb)
                                                                 have n2_ := Aside0.mk (below_step (by repeat (first | (with_reducible first | exact HB.out | apply below_alloc | apply pw_below_drewN | apply below_drew1 | refine below_set ?_ GE117.out) | exact HB.out)) hb)
                                                                 clear BK117
                                                                 clear HB
                                                                 have HO126 := n0_
                                                                 have BK117 := n1_
                                                                 have HB := n2_
                                                                 clear n0_ n1_ n2_
                                                                 clear hb ho18
                                                                 refine hK.out _ _ (five_ BK117.out) (fun hHeld => ?_)
                                                                 clear hK K
                                                                 refine norm_ (a' := ?_) ?_ ?_
                                                                 rotate_left
                                                                 · show Act.put _ (some 27) _ = _
                                                                   simp only [Act.put, lsA, lsB, lsC, i64_w, i32_w]
                                                                   rfl
                                                                 exact norm_ (by first | (simp only [putAll, Act.put, lsA, lsB, lsC]; done) | (simp only [putAll, Act.put, lsA, lsB, lsC]; rfl)) (hJ9_20 (v125) _ ⟨hHeld, (by (with_reducible repeat (first | apply Kd.R_alloc | apply Kd.R_drewN | apply Kd.R_drew)); exact HO126.out), (by (with_reducible repeat (first | refine blk_drewN ?_ _ | refine blk_drew ?_ | refine blk_alloc ?_ _)); exact BK117.out), (by repeat (first | (with_reducible first | exact HB.out | apply below_alloc | apply pw_below_drewN | apply below_drew1 | refine below_set ?_ GE117.out) | exact HB.out))⟩)
                                                           · skip
                                                             rintro v120 w17 ⟨hS_, h0_, h1_, h2_⟩
                                                             have n0_ : Aside0 (Kd.R (Kd.int .u8) 5 w17 w.heap.size (fun _ => True) v120 y119) := ⟨h0_⟩
                                                             have n1_ : Aside0 (w17.heap[gb117]? = some (.cells #[.int .i64 a0_0, .string a0_1, .string a0_2, .int .i64 a0_3, .int .i64 a0_4] 23 (0, 0))) := ⟨h1_⟩
                                                             have n2_ : Aside0 (Below w.heap.size w w17) := ⟨h2_⟩
                                                             clear BK117
                                                             clear HB
                                                             clear h0_ h1_ h2_
                                                             have HO121 := n0_
                                                             have BK117 := n1_
                                                             have HB := n2_
                                                             clear n0_ n1_ n2_
                                                             have hHeld : w17.cell? ⟨gb117, 0, none⟩ = some (.int .i64 a0_0) ∧ w17.cell? ⟨gb117, 1, none⟩ = some (.string a0_1) ∧ w17.cell? ⟨gb117, 2, none⟩ = some (.string a0_2) ∧ w17.cell? ⟨gb117, 3, none⟩ = some (.int .i64 a0_3) ∧ w17.cell? ⟨gb117, 4, none⟩ = some (.int .i64 a0_4) := hS_
                                                             refine norm_ (a' := ?_) ?_ ?_
                                                             rotate_left
                                                             · simp only [putAll, Act.put, lsA, lsB, lsC]
                                                               rfl
                                                             refine three_ (i := 4) (j := 9) (k := 20) (Ni := some 11) (Nj := some 16) (Nk := some 27) #[true, true, true, true, true, true, true, true, true, false, false, true, true, true, false, false, true, true, true, true, false, false, false, true, true, false, true, true, false, false, false] #[true, true, true, true, false, true, true, true, true, true, false, true, true, true, false, false, true, true, true, true, false, false, false, true, true, false, true, true, false, false, false] #[true, true, true, true, false, true, true, true, true, false, false, true, true, true, false, false, true, true, true, true, true, false, false, true, true, false, true, true, false, false, false] rfl rfl rfl rfl rfl rfl (three_of HT_.out (by kernel_rfl)) (by decide) (by decide) (by decide) (fun K hK => ?_) (fun K hK => ?_) (fun K hK => ?_)
                                                             · skip
                                                               have hcv18 := own_string (P := Tryd.prog) Tryd.underlying35 Tryd.underlying5 Tryd.underlying9 (Kd.own_of_R HO121.out)
                                                               refine value_ (w1 := ?_) (v := ?_) (by rfl) rfl ?_ ?_
                                                               rotate_left 2
                                                               · go_simp
                                                                 constructor
                                                                 · rfl
                                                                 · rfl
                                                               clear hcv18
                                                               refine hK.out _ _ (five_ BK117.out) (fun hHeld => ?_)
                                                               clear hK K
                                                               refine norm_ (a' := ?_) ?_ ?_
                                                               rotate_left
                                                               · show Act.put _ (some 11) _ = _
                                                                 simp only [Act.put, lsA, lsB, lsC, i64_w, i32_w]
                                                                 rfl
                                                               exact norm_ (by first | (simp only [putAll, Act.put, lsA, lsB, lsC]; done) | (simp only [putAll, Act.put, lsA, lsB, lsC]; rfl)) (hJ3_4 (v120) _ ⟨hHeld, (by (with_reducible repeat (first | apply Kd.R_alloc | apply Kd.R_drewN | apply Kd.R_drew)); exact HO121.out), (by (with_reducible repeat (first | refine blk_drewN ?_ _ | refine blk_drew ?_ | refine blk_alloc ?_ _)); exact BK117.out), (by repeat (first | (with_reducible first | exact HB.out | apply below_alloc | apply pw_below_drewN | apply below_drew1 | refine below_set ?_ GE117.out) | exact HB.out))⟩)
                                                             · skip
                                                               refine goes_ Tryd.func23 (by kernel_rfl) rfl #[.int .u64 (IntKind.u64.wrap (wrap64 (a0_3 + 1000000000000))), .int .i64 8] (by rfl) rfl rfl (by (try simp only [List.map_toArray, List.map_cons, List.map_nil]); first | done | rfl | (simp only [List.length_drop, List.length_take]; rfl)) ?_
                                                               with_reducible refine (escutcheonref1_PutBig.calls (IntKind.u64.wrap (wrap64 (a0_3 + 1000000000000))) 8 t122 _ A4.out).mono ?_
                                                               rintro e w18 ⟨rfl, hb⟩
                                                               refine ⟨_, rfl, ?_⟩
                                                               have n0_ := Aside0.mk (Kd.R_below (by (with_reducible repeat (first | apply Kd.R_alloc | apply Kd.R_drewN | apply Kd.R_drew)); exact HO121.out) hb)
                                                               have n1_ := Aside0.mk (blk_below (g := gb117) (o := .cells #[.int .i64 a0_0, .string a0_1, .string a0_2, .int .i64 a0_3, .int .i64 a0_4] 23 (0, 0)) (by (with_reducible repeat (first | refine blk_drewN ?_ _ | refine blk_drew ?_ | refine blk_alloc ?_ _)); exact BK117.out) hb)
                                                               have n2_ := Aside0.mk (below_step (by repeat (first | (with_reducible first | exact HB.out | apply below_alloc | apply pw_below_drewN | apply below_drew1 | refine below_set ?_ GE117.out) | exact HB.out)) hb)
                                                               clear HO121
                                                               clear BK117
                                                               clear HB
                                                               have HO121 := n0_
                                                               have BK117 := n1_
                                                               have HB := n2_
                                                               clear n0_ n1_ n2_
                                                               (try clear hb)
                                                               (try clear hb2)
                                                               (try clear hk)
                                                               (try clear hi)
                                                               refine hK.out _ _ (five_ BK117.out) (fun hHeld => ?_)
                                                               clear hK K
                                                               refine norm_ (a' := ?_) ?_ ?_
                                                               rotate_left
                                                               · show Act.put _ (some 16) _ = _
                                                                 simp only [Act.put, lsA, lsB, lsC, i64_w, i32_w]
                                                                 rfl
                                                               exact norm_ (by first | (simp only [putAll, Act.put, lsA, lsB, lsC]; done) | (simp only [putAll, Act.put, lsA, lsB, lsC]; rfl)) (hJ3_9 (v120) _ ⟨hHeld, (by (with_reducible repeat (first | apply Kd.R_alloc | apply Kd.R_drewN | apply Kd.R_drew)); exact HO121.out), (by (with_reducible repeat (first | refine blk_drewN ?_ _ | refine blk_drew ?_ | refine blk_alloc ?_ _)); exact BK117.out), (by repeat (first | (with_reducible first | exact HB.out | apply below_alloc | apply pw_below_drewN | apply below_drew1 | refine below_set ?_ GE117.out) | exact HB.out))⟩)
                                                             · skip
                                                               refine Kd.R_lit_step (Kd.int .u8) _ 5 ?hg (N := 27) ?hd (xs := ([((a0_1.size : Int)) % 256] : List Int)) (inner := [.int .u8 (((a0_1.size : Int)) % 256)]) (ok := fun _ => True) (okp := fun _ => True) ?hr ?hp (fun _ hk => hk) trivial (Below.refl _ _) (Nat.le_refl _) (by simp) ?_; (case hd => rfl); (case hg => rfl); (case hr => first | (go_simp; done) | (go_simp; rfl)); (case hp => exact (Reps.one (show Kd.M (Kd.int .u8) _ _ _ (((a0_1.size : Int)) % 256) [.int .u8 (((a0_1.size : Int)) % 256)] from rfl) (Reps.none _ _)))
                                                               intro v125 w18 ho19 hb hg_ hnew_
                                                               clear hg_ hnew_
                                                               (first | rw [← Ny124.out] at ho19 | (simp only [Int.reduceToNat] at ho19; rw [← Ny124.out] at ho19))
                                                               have n0_ := Aside0.mk (Kd.R_elder' (by (with_reducible repeat (first | apply Kd.R_alloc | apply Kd.R_drewN | apply Kd.R_drew)); exact HO121.out) (Kd.R_base ho19) hb)
                                                               have n1_ := Aside0.mk (Kd.R_lower (Kd.R_new' ho19 (Kd.R_lt (by (with_reducible repeat (first | apply Kd.R_alloc | apply Kd.R_drewN | apply Kd.R_drew)); exact HO121.out))) (below_size (by repeat (first | (with_reducible first | exact HB.out | apply below_alloc | apply pw_below_drewN | apply below_drew1 | refine below_set ?_ GE117.out) | exact HB.out))))
                                                               have n2_ := Aside0.mk (blk_below (g := gb117) (o := .cells #[.int .i64 a0_0, .string a0_1, .string a0_2, .int .i64 a0_3, .int .i64 a0_4] 23 (0, 0)) (by (with_reducible repeat (first | refine blk_drewN ?_ _ | refine blk_drew ?_ | refine blk_alloc ?_ _)); exact BK117.out) hb)
                                                               have n3_ := Aside0.mk (below_step (by repeat (first | (with_reducible first | exact HB.out | apply below_alloc | apply pw_below_drewN | apply below_drew1 | refine below_set ?_ GE117.out) | exact HB.out)) hb)
                                                               clear HO121
                                                               clear BK117
                                                               clear HB
                                                               have HO121 := n0_
                                                               have HO126 := n1_
                                                               have BK117 := n2_
                                                               have HB := n3_
                                                               clear n0_ n1_ n2_ n3_
                                                               clear hb ho19
                                                               refine hK.out _ _ (five_ BK117.out) (fun hHeld => ?_)
                                                               clear hK K
                                                               refine norm_ (a' := ?_) ?_ ?_
                                                               rotate_left
                                                               · show Act.put _ (some 27) _ = _
                                                                 simp only [Act.put, lsA, lsB, lsC, i64_w, i32_w]
                                                                 rfl
                                                               exact norm_ (by first | (simp only [putAll, Act.put, lsA, lsB, lsC]; done) | (simp only [putAll, Act.put, lsA, lsB, lsC]; rfl)) (hJ3_20 (v120, v125) _ ⟨hHeld, (by (with_reducible repeat (first | apply Kd.R_alloc | apply Kd.R_drewN | apply Kd.R_drew)); exact Kd.R_mono HO121.out (fun _ hk => hk.2)), (by (with_reducible repeat (first | apply Kd.R_alloc | apply Kd.R_drewN | apply Kd.R_drew)); exact Kd.R_mono HO126.out (fun _ hk => hk.2)), (by (with_reducible repeat (first | refine blk_drewN ?_ _ | refine blk_drew ?_ | refine blk_alloc ?_ _)); exact BK117.out), (by repeat (first | (with_reducible first | exact HB.out | apply below_alloc | apply pw_below_drewN | apply below_drew1 | refine below_set ?_ GE117.out) | exact HB.out))⟩)
                                                         · skip
                                                           rintro v125 w18 ⟨hS_, h0_, h1_, h2_⟩
                                                           have n0_ : Aside0 (Kd.R (Kd.int .u8) 5 w18 w.heap.size (fun _ => True) v125 y124) := ⟨h0_⟩
                                                           have n1_ : Aside0 (w18.heap[gb117]? = some (.cells #[.int .i64 a0_0, .string a0_1, .string a0_2, .int .i64 a0_3, .int .i64 a0_4] 23 (0, 0))) := ⟨h1_⟩
                                                           have n2_ : Aside0 (Below w.heap.size w w18) := ⟨h2_⟩
                                                           clear BK117
                                                           clear HB
                                                           clear h0_ h1_ h2_
                                                           have HO126 := n0_
                                                           have BK117 := n1_
                                                           have HB := n2_
                                                           clear n0_ n1_ n2_
                                                           have hHeld : w18.cell? ⟨gb117, 0, none⟩ = some (.int .i64 a0_0) ∧ w18.cell? ⟨gb117, 1, none⟩ = some (.string a0_1) ∧ w18.cell? ⟨gb117, 2, none⟩ = some (.string a0_2) ∧ w18.cell? ⟨gb117, 3, none⟩ = some (.int .i64 a0_3) ∧ w18.cell? ⟨gb117, 4, none⟩ = some (.int .i64 a0_4) := hS_
                                                           refine norm_ (a' := ?_) ?_ ?_
                                                           rotate_left
                                                           · simp only [putAll, Act.put, lsA, lsB, lsC]
                                                             rfl
                                                           refine two_ (i := 3) (j := 9) (Ni := some 10) (Nj := some 16) #[true, true, true, true, false, true, true, true, true, false, false, true, true, true, false, false, true, true, true, true, true, true, false, true, true, false, true, true, false, false, false] #[true, true, true, false, false, true, true, true, true, true, false, true, true, true, false, false, true, true, true, true, true, true, false, true, true, false, true, true, false, false, false] rfl rfl rfl rfl (two_of HT_.out (by kernel_rfl)) (by decide) (by decide) (fun K hK => ?_) (fun K hK => ?_)
                                                           · skip
                                                             refine Kd.R_lit_step (Kd.int .u8) _ 5 ?hg (N := 10) ?hd (xs := ([(a0_0) % 256] : List Int)) (inner := [.int .u8 ((a0_0) % 256)]) (ok := fun _ => True) (okp := fun _ => True) ?hr ?hp (fun _ hk => hk) trivial (Below.refl _ _) (Nat.le_refl _) (by simp) ?_; (case hd => rfl); (case hg => rfl); (case hr => first | (go_simp; done) | (go_simp; rfl)); (case hp => exact (Reps.one (show Kd.M (Kd.int .u8) _ _ _ ((a0_0) % 256) [.int .u8 ((a0_0) % 256)] from rfl) (Reps.none _ _)))
                                                             intro v120 w19 ho20 hb hg_ hnew_
                                                             clear hg_ hnew_
                                                             (first | rw [← Ny119.out] at ho20 | (simp only [Int.reduceToNat] at ho20; rw [← Ny119.out] at ho20))
                                                             have n0_ := Aside0.mk (Kd.R_elder' (by (with_reducible repeat (first | apply Kd.R_alloc | apply Kd.R_drewN | apply Kd.R_drew)); exact HO126.out) (Kd.R_base ho20) hb)
                                                             have n1_ := Aside0.mk (Kd.R_lower (Kd.R_new' ho20 (Kd.R_lt (by (with_reducible repeat (first | apply Kd.R_alloc | apply Kd.R_drewN | apply Kd.R_drew)); exact HO126.out))) (below_size (by repeat (first | (with_reducible first | exact HB.out | apply below_alloc | apply pw_below_drewN | apply below_drew1 | refine below_set ?_ GE117.out) | exact HB.out))))
                                                             have n2_ := Aside0.mk (blk_below (g := gb117) (o := .cells #[.int .i64 a0_0, .string a0_1, .string a0_2, .int .i64 a0_3, .int .i64 a0_4] 23 (0, 0)) (by (with_reducible repeat (first | refine blk_drewN ?_ _ | refine blk_drew ?_ | refine blk_alloc ?_ _)); exact BK117.out) hb)
                                                             have n3_ := Aside0.mk (below_step (by repeat (first | (with_reducible first | exact HB.out | apply below_alloc | apply pw_below_drewN | apply below_drew1 | refine below_set ?_ GE117.out) | exact HB.out)) hb)
                                                             clear HO126
                                                             clear BK117
                                                             clear HB
                                                             have HO126 := n0_
                                                             have HO121 := n1_
                                                             have BK117 := n2_
                                                             have HB := n3_
                                                             clear n0_ n1_ n2_ n3_
                                                             clear hb ho20
                                                             refine hK.out _ _ (five_ BK117.out) (fun hHeld => ?_)
                                                             clear hK K
                                                             refine norm_ (a' := ?_) ?_ ?_
                                                             rotate_left
                                                             · show Act.put _ (some 10) _ = _
                                                               simp only [Act.put, lsA, lsB, lsC, i64_w, i32_w]
                                                               rfl
                                                             exact norm_ (by first | (simp only [putAll, Act.put, lsA, lsB, lsC]; done) | (simp only [putAll, Act.put, lsA, lsB, lsC]; rfl)) (hJ3_20_21 (v120, v125) _ ⟨hHeld, (by (with_reducible repeat (first | apply Kd.R_alloc | apply Kd.R_drewN | apply Kd.R_drew)); exact Kd.R_mono HO121.out (fun _ hk => hk.2)), (by (with_reducible repeat (first | apply Kd.R_alloc | apply Kd.R_drewN | apply Kd.R_drew)); exact Kd.R_mono HO126.out (fun _ hk => hk.2)), (by (with_reducible repeat (first | refine blk_drewN ?_ _ | refine blk_drew ?_ | refine blk_alloc ?_ _)); exact BK117.out), (by repeat (first | (with_reducible first | exact HB.out | apply below_alloc | apply pw_below_drewN | apply below_drew1 | refine below_set ?_ GE117.out) | exact HB.out))⟩)
                                                           · skip
                                                             refine goes_ Tryd.func23 (by kernel_rfl) rfl #[.int .u64 (IntKind.u64.wrap (wrap64 (a0_3 + 1000000000000))), .int .i64 8] (by rfl) rfl rfl (by (try simp only [List.map_toArray, List.map_cons, List.map_nil]); first | done | rfl | (simp only [List.length_drop, List.length_take]; rfl)) ?_
                                                             with_reducible refine (escutcheonref1_PutBig.calls (IntKind.u64.wrap (wrap64 (a0_3 + 1000000000000))) 8 t122 _ A4.out).mono ?_
                                                             rintro e w19 ⟨rfl, hb⟩
                                                             refine ⟨_, rfl, ?_⟩
                                                             have n0_ := Aside0.mk (Kd.R_below (by (with_reducible repeat (first | apply Kd.R_alloc | apply Kd.R_drewN | apply Kd.R_drew)); exact HO126.out) hb)
                                                             have n1_ := Aside0.mk (blk_below (g := gb117) (o := .cells #[.int .i64 a0_0, .string a0_1, .string a0_2, .int .i64 a0_3, .int .i64 a0_4] 23 (0, 0)) (by (with_reducible repeat (first | refine blk_drewN ?_ _ | refine blk_drew ?_ | refine blk_alloc ?_ _)); exact BK117.out) hb)
                                                             have n2_ := Aside0.mk (below_step (by repeat (first | (with_reducible first | exact HB.out | apply below_alloc | apply pw_below_drewN | apply below_drew1 | refine below_set ?_ GE117.out) | exact HB.out)) hb)
                                                             clear HO126
                                                             clear BK117
                                                             clear HB
                                                             have HO126 := n0_
                                                             have BK117 := n1_
                                                             have HB := n2_
                                                             clear n0_ n1_ n2_
                                                             (try clear hb)
                                                             (try clear hb2)
                                                             (try clear hk)
                                                             (try clear hi)
                                                             refine hK.out _ _ (five_ BK117.out) (fun hHeld => ?_)
                                                             clear hK K
                                                             refine norm_ (a' := ?_) ?_ ?_
                                                             rotate_left
                                                             · show Act.put _ (some 16) _ = _
                                                               simp only [Act.put, lsA, lsB, lsC, i64_w, i32_w]
                                                               rfl
                                                             exact norm_ (by first | (simp only [putAll, Act.put, lsA, lsB, lsC]; done) | (simp only [putAll, Act.put, lsA, lsB, lsC]; rfl)) (hJ9_20_21 (v125) _ ⟨hHeld, (by (with_reducible repeat (first | apply Kd.R_alloc | apply Kd.R_drewN | apply Kd.R_drew)); exact HO126.out), (by (with_reducible repeat (first | refine blk_drewN ?_ _ | refine blk_drew ?_ | refine blk_alloc ?_ _)); exact BK117.out), (by repeat (first | (with_reducible first | exact HB.out | apply below_alloc | apply pw_below_drewN | apply below_drew1 | refine below_set ?_ GE117.out) | exact HB.out))⟩)
                                                       · skip
                                                         rintro v125 w18 ⟨hS_, h0_, h1_, h2_⟩
                                                         have n0_ : Aside0 (Kd.R (Kd.int .u8) 5 w18 w.heap.size (fun _ => True) v125 y124) := ⟨h0_⟩
                                                         have n1_ : Aside0 (w18.heap[gb117]? = some (.cells #[.int .i64 a0_0, .string a0_1, .string a0_2, .int .i64 a0_3, .int .i64 a0_4] 23 (0, 0))) := ⟨h1_⟩
                                                         have n2_ : Aside0 (Below w.heap.size w w18) := ⟨h2_⟩
                                                         clear BK117
                                                         clear HB
                                                         clear h0_ h1_ h2_
                                                         have HO126 := n0_
                                                         have BK117 := n1_
                                                         have HB := n2_
                                                         clear n0_ n1_ n2_
                                                         have hHeld : w18.cell? ⟨gb117, 0, none⟩ = some (.int .i64 a0_0) ∧ w18.cell? ⟨gb117, 1, none⟩ = some (.string a0_1) ∧ w18.cell? ⟨gb117, 2, none⟩ = some (.string a0_2) ∧ w18.cell? ⟨gb117, 3, none⟩ = some (.int .i64 a0_3) ∧ w18.cell? ⟨gb117, 4, none⟩ = some (.int .i64 a0_4) := hS_
                                                         refine norm_ (a' := ?_) ?_ ?_
                                                         rotate_left
                                                         · simp only [putAll, Act.put, lsA, lsB, lsC]
                                                           rfl
                                                         refine three_ (i := 3) (j := 14) (k := 21) (Ni := some 10) (Nj := some 21) (Nk := some 28) #[true, true, true, true, false, true, true, true, true, true, false, true, true, true, false, false, true, true, true, true, true, false, false, true, true, false, true, true, false, false, false] #[true, true, true, false, false, true, true, true, true, true, false, true, true, true, true, false, true, true, true, true, true, false, false, true, true, false, true, true, false, false, false] #[true, true, true, false, false, true, true, true, true, true, false, true, true, true, false, false, true, true, true, true, true, true, false, true, true, false, true, true, false, false, false] rfl rfl rfl rfl rfl rfl (three_of HT_.out (by kernel_rfl)) (by decide) (by decide) (by decide) (fun K hK => ?_) (fun K hK => ?_) (fun K hK => ?_)
                                                         · skip
                                                           refine Kd.R_lit_step (Kd.int .u8) _ 5 ?hg (N := 10) ?hd (xs := ([(a0_0) % 256] : List Int)) (inner := [.int .u8 ((a0_0) % 256)]) (ok := fun _ => True) (okp := fun _ => True) ?hr ?hp (fun _ hk => hk) trivial (Below.refl _ _) (Nat.le_refl _) (by simp) ?_; (case hd => rfl); (case hg => rfl); (case hr => first | (go_simp; done) | (go_simp; rfl)); (case hp => exact (Reps.one (show Kd.M (Kd.int .u8) _ _ _ ((a0_0) % 256) [.int .u8 ((a0_0) % 256)] from rfl) (Reps.none _ _)))
                                                           intro v120 w19 ho20 hb hg_ hnew_
                                                           clear hg_ hnew_
                                                           (first | rw [← Ny119.out] at ho20 | (simp only [Int.reduceToNat] at ho20; rw [← Ny119.out] at ho20))
                                                           have n0_ := Aside0.mk (Kd.R_elder' (by (with_reducible repeat (first | apply Kd.R_alloc | apply Kd.R_drewN | apply Kd.R_drew)); exact HO126.out) (Kd.R_base ho20) hb)
                                                           have n1_ := Aside0.mk (Kd.R_lower (Kd.R_new' ho20 (Kd.R_lt (by (with_reducible repeat (first | apply Kd.R_alloc | apply Kd.R_drewN | apply Kd.R_drew)); exact HO126.out))) (below_size (by repeat (first | (with_reducible first | exact HB.out | apply below_alloc | apply pw_below_drewN | apply below_drew1 | refine below_set ?_ GE117.out) | exact HB.out))))
                                                           have n2_ := Aside0.mk (blk_below (g := gb117) (o := .cells #[.int .i64 a0_0, .string a0_1, .string a0_2, .int .i64 a0_3, .int .i64 a0_4] 23 (0, 0)) (by (with_reducible repeat (first | refine blk_drewN ?_ _ | refine blk_drew ?_ | refine blk_alloc ?_ _)); exact BK117.out) hb)
                                                           have n3_ := Aside0.mk (below_step (by repeat (first | (with_reducible first | exact HB.out | apply below_alloc | apply pw_below_drewN | apply below_drew1 | refine below_set ?_ GE117.out) | exact HB.out)) hb)
                                                           clear HO126
                                                           clear BK117
                                                           clear HB
                                                           have HO126 := n0_
                                                           have HO121 := n1_
                                                           have BK117 := n2_
                                                           have HB := n3_
                                                           clear n0_ n1_ n2_ n3_
                                                           clear hb ho20
                                                           refine hK.out _ _ (five_ BK117.out) (fun hHeld => ?_)
                                                           clear hK K
                                                           refine norm_ (a' := ?_) ?_ ?_
                                                           rotate_left
                                                           · show Act.put _ (some 10) _ = _
                                                             simp only [Act.put, lsA, lsB, lsC, i64_w, i32_w]
                                                             rfl
                                                           exact norm_ (by first | (simp only [putAll, Act.put, lsA, lsB, lsC]; done) | (simp only [putAll, Act.put, lsA, lsB, lsC]; rfl)) (hJ3_9_20 (v120, v125) _ ⟨hHeld, (by (with_reducible repeat (first | apply Kd.R_alloc | apply Kd.R_drewN | apply Kd.R_drew)); exact Kd.R_mono HO121.out (fun _ hk => hk.2)), (by (with_reducible repeat (first | apply Kd.R_alloc | apply Kd.R_drewN | apply Kd.R_drew)); exact Kd.R_mono HO126.out (fun _ hk => hk.2)), (by (with_reducible repeat (first | refine blk_drewN ?_ _ | refine blk_drew ?_ | refine blk_alloc ?_ _)); exact BK117.out), (by repeat (first | (with_reducible first | exact HB.out | apply below_alloc | apply pw_below_drewN | apply below_drew1 | refine below_set ?_ GE117.out) | exact HB.out))⟩)
                                                         · skip
                                                           refine goes_ Tryd.func23 (by kernel_rfl) rfl #[.int .u64 (IntKind.u64.wrap (a0_4)), .int .i64 8] (by rfl) rfl rfl (by (try simp only [List.map_toArray, List.map_cons, List.map_nil]); first | done | rfl | (simp only [List.length_drop, List.length_take]; rfl)) ?_
                                                           with_reducible refine (escutcheonref1_PutBig.calls (IntKind.u64.wrap (a0_4)) 8 t123 _ A6.out).mono ?_
                                                           rintro e w19 ⟨rfl, hb⟩
                                                           refine ⟨_, rfl, ?_⟩
                                                           have n0_ := Aside0.mk (Kd.R_below (by (with_reducible repeat (first | apply Kd.R_alloc | apply Kd.R_drewN | apply Kd.R_drew)); exact HO126.out) hb)
                                                           have n1_ := Aside0.mk (blk_below (g := gb117) (o := .cells #[.int .i64 a0_0, .string a0_1, .string a0_2, .int .i64 a0_3, .int .i64 a0_4] 23 (0, 0)) (by (with_reducible repeat (first | refine blk_drewN ?_ _ | refine blk_drew ?_ | refine blk_alloc ?_ _)); exact BK117.out) hb)
                                                           have n2_ := Aside0.mk (below_step (by repeat (first | (with_reducible first | exact HB.out | apply below_alloc | apply pw_below_drewN | apply below_drew1 | refine below_set ?_ GE117.out) | exact HB.out)) hb)
                                                           clear HO126
                                                           clear BK117
                                                           clear HB
                                                           have HO126 := n0_
                                                           have BK117 := n1_
                                                           have HB := n2_
                                                           clear n0_ n1_ n2_
                                                           (try clear hb)
                                                           (try clear hb2)
                                                           (try clear hk)
                                                           (try clear hi)
                                                           refine hK.out _ _ (five_ BK117.out) (fun hHeld => ?_)
                                                           clear hK K
                                                           refine norm_ (a' := ?_) ?_ ?_
                                                           rotate_left
                                                           · show Act.put _ (some 21) _ = _
                                                             simp only [Act.put, lsA, lsB, lsC, i64_w, i32_w]
                                                             rfl
                                                           exact norm_ (by first | (simp only [putAll, Act.put, lsA, lsB, lsC]; done) | (simp only [putAll, Act.put, lsA, lsB, lsC]; rfl)) (hJ9_14_20 (v125) _ ⟨hHeld, (by (with_reducible repeat (first | apply Kd.R_alloc | apply Kd.R_drewN | apply Kd.R_drew)); exact HO126.out), (by (with_reducible repeat (first | refine blk_drewN ?_ _ | refine blk_drew ?_ | refine blk_alloc ?_ _)); exact BK117.out), (by repeat (first | (with_reducible first | exact HB.out | apply below_alloc | apply pw_below_drewN | apply below_drew1 | refine below_set ?_ GE117.out) | exact HB.out))⟩)
                                                         · skip
                                                           have hcv19 := own_string (P := Tryd.prog) Tryd.underlying35 Tryd.underlying5 Tryd.underlying9 (Kd.own_of_R HO126.out)
                                                           refine value_ (w1 := ?_) (v := ?_) (by rfl) rfl ?_ ?_
                                                           rotate_left 2
                                                           · go_simp
                                                             constructor
                                                             · rfl
                                                             · rfl
                                                           clear hcv19
                                                           refine hK.out _ _ (five_ BK117.out) (fun hHeld => ?_)
                                                           clear hK K
                                                           refine norm_ (a' := ?_) ?_ ?_
                                                           rotate_left
                                                           · show Act.put _ (some 28) _ = _
                                                             simp only [Act.put, lsA, lsB, lsC, i64_w, i32_w]
                                                             rfl
                                                           exact norm_ (by first | (simp only [putAll, Act.put, lsA, lsB, lsC]; done) | (simp only [putAll, Act.put, lsA, lsB, lsC]; rfl)) (hJ9_20_21 (v125) _ ⟨hHeld, (by (with_reducible repeat (first | apply Kd.R_alloc | apply Kd.R_drewN | apply Kd.R_drew)); exact HO126.out), (by (with_reducible repeat (first | refine blk_drewN ?_ _ | refine blk_drew ?_ | refine blk_alloc ?_ _)); exact BK117.out), (by repeat (first | (with_reducible first | exact HB.out | apply below_alloc | apply pw_below_drewN | apply below_drew1 | refine below_set ?_ GE117.out) | exact HB.out))⟩)
                                                     · skip
                                                       rintro _ w17 ⟨hS_, h0_, h1_⟩
                                                       have n0_ : Aside0 (w17.heap[gb117]? = some (.cells #[.int .i64 a0_0, .string a0_1, .string a0_2, .int .i64 a0_3, .int .i64 a0_4] 23 (0, 0))) := ⟨h0_⟩
                                                       have n1_ : Aside0 (Below w.heap.size w w17) := ⟨h1_⟩
                                                       clear BK117
                                                       clear HB
                                                       clear h0_ h1_
                                                       have BK117 := n0_
                                                       have HB := n1_
                                                       clear n0_ n1_
                                                       have hHeld : w17.cell? ⟨gb117, 0, none⟩ = some (.int .i64 a0_0) ∧ w17.cell? ⟨gb117, 1, none⟩ = some (.string a0_1) ∧ w17.cell? ⟨gb117, 2, none⟩ = some (.string a0_2) ∧ w17.cell? ⟨gb117, 3, none⟩ = some (.int .i64 a0_3) ∧ w17.cell? ⟨gb117, 4, none⟩ = some (.int .i64 a0_4) := hS_
                                                       refine norm_ (a' := ?_) ?_ ?_
                                                       rotate_left
                                                       · simp only [putAll, Act.put, lsA, lsB, lsC]
                                                         rfl
                                                       refine two_ (i := 3) (j := 20) (Ni := some 10) (Nj := some 27) #[true, true, true, true, false, true, true, true, true, true, false, true, true, true, true, false, true, true, true, true, false, false, false, true, true, false, true, true, false, false, false] #[true, true, true, false, false, true, true, true, true, true, false, true, true, true, true, false, true, true, true, true, true, false, false, true, true, false, true, true, false, false, false] rfl rfl rfl rfl (two_of HT_.out (by kernel_rfl)) (by decide) (by decide) (fun K hK => ?_) (fun K hK => ?_)
                                                       · skip
                                                         refine Kd.R_lit_step (Kd.int .u8) _ 5 ?hg (N := 10) ?hd (xs := ([(a0_0) % 256] : List Int)) (inner := [.int .u8 ((a0_0) % 256)]) (ok := fun _ => True) (okp := fun _ => True) ?hr ?hp (fun _ hk => hk) trivial (Below.refl _ _) (Nat.le_refl _) (by simp) ?_; (case hd => rfl); (case hg => rfl); (case hr => first | (go_simp; done) | (go_simp; rfl)); (case hp => exact (Reps.one (show Kd.M (Kd.int .u8) _ _ _ ((a0_0) % 256) [.int .u8 ((a0_0) % 256)] from rfl) (Reps.none _ _)))
                                                         intro v120 w18 ho19 hb hg_ hnew_
                                                         clear hg_ hnew_
                                                         (first | rw [← Ny119.out] at ho19 | (simp only [Int.reduceToNat] at ho19; rw [← Ny119.out] at ho19))
                                                         have n0_ := Aside0.mk (Kd.R_lower ho19 (below_size (by repeat (first | (with_reducible first | exact HB.out | apply below_alloc | apply pw_below_drewN | apply below_drew1 | refine below_set ?_ GE117.out) | exact HB.out))))
                                                         have n1_ := Aside0.mk (blk_below (g := gb117) (o := .cells #[.int .i64 a0_0, .string a0_1, .string a0_2, .int .i64 a0_3, .int .i64 a0_4] 23 (0, 0)) (by (with_reducible repeat (first | refine blk_drewN ?_ _ | refine blk_drew ?_ | refine blk_alloc ?_ _)); exact BK117.out) hb)
                                                         have n2_ := Aside0.mk (below_step (by repeat (first | (with_reducible first | exact HB.out | apply below_alloc | apply pw_below_drewN | apply below_drew1 | refine below_set ?_ GE117.out) | exact HB.out)) hb)
                                                         clear BK117
                                                         clear HB
                                                         have HO121 := n0_
                                                         have BK117 := n1_
                                                         have HB := n2_
                                                         clear n0_ n1_ n2_
                                                         clear hb ho19
                                                         refine hK.out _ _ (five_ BK117.out) (fun hHeld => ?_)
                                                         clear hK K
                                                         refine norm_ (a' := ?_) ?_ ?_
                                                         rotate_left
                                                         · show Act.put _ (some 10) _ = _
                                                           simp only [Act.put, lsA, lsB, lsC, i64_w, i32_w]
                                                           rfl
                                                         exact norm_ (by first | (simp only [putAll, Act.put, lsA, lsB, lsC]; done) | (simp only [putAll, Act.put, lsA, lsB, lsC]; rfl)) (hJ3_9_14 (v120) _ ⟨hHeld, (by (with_reducible repeat (first | apply Kd.R_alloc | apply Kd.R_drewN | apply Kd.R_drew)); exact HO121.out), (by (with_reducible repeat (first | refine blk_drewN ?_ _ | refine blk_drew ?_ | refine blk_alloc ?_ _)); exact BK117.out), (by repeat (first | (with_reducible first | exact HB.out | apply below_alloc | apply pw_below_drewN | apply below_drew1 | refine below_set ?_ GE117.out) | exact HB.out))⟩)
                                                       · skip
                                                         refine Kd.R_lit_step (Kd.int .u8) _ 5 ?hg (N := 27) ?hd (xs := ([((a0_1.size : Int)) % 256] : List Int)) (inner := [.int .u8 (((a0_1.size : Int)) % 256)]) (ok := fun _ => True) (okp := fun _ => True) ?hr ?hp (fun _ hk => hk) trivial (Below.refl _ _) (Nat.le_refl _) (by simp) ?_; (case hd => rfl); (case hg => rfl); (case hr => first | (go_simp; done) | (go_simp; rfl)); (case hp => exact (Reps.one (show Kd.M (Kd.int .u8) _ _ _ (((a0_1.size : Int)) % 256) [.int .u8 (((a0_1.size : Int)) % 256)] from rfl) (Reps.none _ _)))
                                                         intro v125 w18 ho19 hb hg_ hnew_
                                                         clear hg_ hnew_
                                                         (first | rw [← Ny124.out] at ho19 | (simp only [Int.reduceToNat] at ho19; rw [← Ny124.out] at ho19))
                                                         have n0_ := Aside0.mk (Kd.R_lower ho19 (below_size (by repeat (first | (with_reducible first | exact HB.out | apply below_alloc | apply pw_below_drewN | apply below_drew1 | refine below_set ?_ GE117.out) | exact HB.out))))
                                                         have n1_ := Aside0.mk (blk_below (g := gb117) (o := .cells #[.int .i64 a0_0, .string a0_1, .string a0_2, .int .i64 a0_3, .int .i64 a0_4] 23 (0, 0)) (by (with_reducible repeat (first | refine blk_drewN ?_ _ | refine blk_drew ?_ | refine blk_alloc ?_ _)); exact BK117.out) hb)
                                                         have n2_ := Aside0.mk (below_step (by repeat (first | (with_reducible first | exact HB.out | apply below_alloc | apply pw_below_drewN | apply below_drew1 | refine below_set ?_ GE117.out) | exact HB.out)) hb)
                                                         clear BK117
                                                         clear HB
                                                         have HO126 := n0_
                                                         have BK117 := n1_
                                                         have HB := n2_
                                                         clear n0_ n1_ n2_
                                                         clear hb ho19
                                                         refine hK.out _ _ (five_ BK117.out) (fun hHeld => ?_)
                                                         clear hK K
                                                         refine norm_ (a' := ?_) ?_ ?_
                                                         rotate_left
                                                         · show Act.put _ (some 27) _ = _
                                                           simp only [Act.put, lsA, lsB, lsC, i64_w, i32_w]
                                                           rfl
                                                         exact norm_ (by first | (simp only [putAll, Act.put, lsA, lsB, lsC]; done) | (simp only [putAll, Act.put, lsA, lsB, lsC]; rfl)) (hJ9_14_20 (v125) _ ⟨hHeld, (by (with_reducible repeat (first | apply Kd.R_alloc | apply Kd.R_drewN | apply Kd.R_drew)); exact HO126.out), (by (with_reducible repeat (first | refine blk_drewN ?_ _ | refine blk_drew ?_ | refine blk_alloc ?_ _)); exact BK117.out), (by repeat (first | (with_reducible first | exact HB.out | apply below_alloc | apply pw_below_drewN | apply below_drew1 | refine below_set ?_ GE117.out) | exact HB.out))⟩)
                                                   · skip
                                                     rintro ⟨v120, v125⟩ w19 ⟨hS_, h0_, h1_, h2_, h3_⟩
                                                     have n0_ : Aside0 (Kd.R (Kd.int .u8) 5 w19 w.heap.size (fun k_ => some k_ ≠ (v125 : Value).ownBlock) v120 y119) := ⟨h0_⟩
                                                     have n1_ : Aside0 (Kd.R (Kd.int .u8) 5 w19 w.heap.size (fun k_ => some k_ ≠ (v120 : Value).ownBlock) v125 y124) := ⟨h1_⟩
                                                     have n2_ : Aside0 (w19.heap[gb117]? = some (.cells #[.int .i64 a0_0, .string a0_1, .string a0_2, .int .i64 a0_3, .int .i64 a0_4] 23 (0, 0))) := ⟨h2_⟩
                                                     have n3_ : Aside0 (Below w.heap.size w w19) := ⟨h3_⟩
                                                     clear BK117
                                                     clear HB
                                                     clear h0_ h1_ h2_ h3_
                                                     have HO121 := n0_
                                                     have HO126 := n1_
                                                     have BK117 := n2_
                                                     have HB := n3_
                                                     clear n0_ n1_ n2_ n3_
                                                     have hHeld : w19.cell? ⟨gb117, 0, none⟩ = some (.int .i64 a0_0) ∧ w19.cell? ⟨gb117, 1, none⟩ = some (.string a0_1) ∧ w19.cell? ⟨gb117, 2, none⟩ = some (.string a0_2) ∧ w19.cell? ⟨gb117, 3, none⟩ = some (.int .i64 a0_3) ∧ w19.cell? ⟨gb117, 4, none⟩ = some (.int .i64 a0_4) := hS_
                                                     refine norm_ (a' := ?_) ?_ ?_
                                                     rotate_left
                                                     · simp only [putAll, Act.put, lsA, lsB, lsC]
                                                       rfl
                                                     refine three_ (i := 4) (j := 9) (k := 21) (Ni := some 11) (Nj := some 16) (Nk := some 28) #[true, true, true, true, true, true, true, true, true, false, false, true, true, true, false, false, true, true, true, true, true, false, false, true, true, false, true, true, false, false, false] #[true, true, true, true, false, true, true, true, true, true, false, true, true, true, false, false, true, true, true, true, true, false, false, true, true, false, true, true, false, false, false] #[true, true, true, true, false, true, true, true, true, false, false, true, true, true, false, false, true, true, true, true, true, true, false, true, true, false, true, true, false, false, false] rfl rfl rfl rfl rfl rfl (three_of HT_.out (by kernel_rfl)) (by decide) (by decide) (by decide) (fun K hK => ?_) (fun K hK => ?_) (fun K hK => ?_)
                                                     · skip
                                                       have hcv20 := own_string (P := Tryd.prog) Tryd.underlying35 Tryd.underlying5 Tryd.underlying9 (Kd.own_of_R HO121.out)
                                                       refine value_ (w1 := ?_) (v := ?_) (by rfl) rfl ?_ ?_
                                                       rotate_left 2
                                                       · go_simp
                                                         constructor
                                                         · rfl
                                                         · rfl
                                                       clear hcv20
                                                       refine hK.out _ _ (five_ BK117.out) (fun hHeld => ?_)
                                                       clear hK K
                                                       refine norm_ (a' := ?_) ?_ ?_
                                                       rotate_left
                                                       · show Act.put _ (some 11) _ = _
                                                         simp only [Act.put, lsA, lsB, lsC, i64_w, i32_w]
                                                         rfl
                                                       exact norm_ (by first | (simp only [putAll, Act.put, lsA, lsB, lsC]; done) | (simp only [putAll, Act.put, lsA, lsB, lsC]; rfl)) (hJ3_4_20 (v120, v125) _ ⟨hHeld, (by (with_reducible repeat (first | apply Kd.R_alloc | apply Kd.R_drewN | apply Kd.R_drew)); exact HO121.out), (by (with_reducible repeat (first | apply Kd.R_alloc | apply Kd.R_drewN | apply Kd.R_drew)); exact HO126.out), (by (with_reducible repeat (first | refine blk_drewN ?_ _ | refine blk_drew ?_ | refine blk_alloc ?_ _)); exact BK117.out), (by repeat (first | (with_reducible first | exact HB.out | apply below_alloc | apply pw_below_drewN | apply below_drew1 | refine below_set ?_ GE117.out) | exact HB.out))⟩)
                                                     · skip
                                                       refine goes_ Tryd.func23 (by kernel_rfl) rfl #[.int .u64 (IntKind.u64.wrap (wrap64 (a0_3 + 1000000000000))), .int .i64 8] (by rfl) rfl rfl (by (try simp only [List.map_toArray, List.map_cons, List.map_nil]); first | done | rfl | (simp only [List.length_drop, List.length_take]; rfl)) ?_
                                                       with_reducible refine (escutcheonref1_PutBig.calls (IntKind.u64.wrap (wrap64 (a0_3 + 1000000000000))) 8 t122 _ A4.out).mono ?_
                                                       rintro e w20 ⟨rfl, hb⟩
                                                       refine ⟨_, rfl, ?_⟩
                                                       have n0_ := Aside0.mk (Kd.R_below (by (with_reducible repeat (first | apply Kd.R_alloc | apply Kd.R_drewN | apply Kd.R_drew)); exact HO121.out) hb)
                                                       have n1_ := Aside0.mk (Kd.R_below (by (with_reducible repeat (first | apply Kd.R_alloc | apply Kd.R_drewN | apply Kd.R_drew)); exact HO126.out) hb)
                                                       have n2_ := Aside0.mk (blk_below (g := gb117) (o := .cells #[.int .i64 a0_0, .string a0_1, .string a0_2, .int .i64 a0_3, .int .i64 a0_4] 23 (0, 0)) (by (with_reducible repeat (first | refine blk_drewN ?_ _ | refine blk_drew ?_ | refine blk_alloc ?_ _)); exact BK117.out) hb)
                                                       have n3_ := Aside0.mk (below_step (by repeat (first | (with_reducible first | exact HB.out | apply below_alloc | apply pw_below_drewN | apply below_drew1 | refine below_set ?_ GE117.out) | exact HB.out)) hb)
                                                       clear HO121
                                                       clear HO126
                                                       clear BK117
                                                       clear HB
                                                       have HO121 := n0_
                                                       have HO126 := n1_
                                                       have BK117 := n2_
                                                       have HB := n3_
                                                       clear n0_ n1_ n2_ n3_
                                                       (try clear hb)
                                                       (try clear hb2)
                                                       (try clear hk)
                                                       (try clear hi)
                                                       refine hK.out _ _ (five_ BK117.out) (fun hHeld => ?_)
                                                       clear hK K
                                                       refine norm_ (a' := ?_) ?_ ?_
                                                       rotate_left
                                                       · show Act.put _ (some 16) _ = _
                                                         simp only [Act.put, lsA, lsB, lsC, i64_w, i32_w]
                                                         rfl
                                                       exact norm_ (by first | (simp only [putAll, Act.put, lsA, lsB, lsC]; done) | (simp only [putAll, Act.put, lsA, lsB, lsC]; rfl)) (hJ3_9_20 (v120, v125) _ ⟨hHeld, (by (with_reducible repeat (first | apply Kd.R_alloc | apply Kd.R_drewN | apply Kd.R_drew)); exact HO121.out), (by (with_reducible repeat (first | apply Kd.R_alloc | apply Kd.R_drewN | apply Kd.R_drew)); exact HO126.out), (by (with_reducible repeat (first | refine blk_drewN ?_ _ | refine blk_drew ?_ | refine blk_alloc ?_ _)); exact BK117.out), (by repeat (first | (with_reducible first | exact HB.out | apply below_alloc | apply pw_below_drewN | apply below_drew1 | refine below_set ?_ GE117.out) | exact HB.out))⟩)
                                                     · skip
                                                       have hcv20 := own_string (P := Tryd.prog) Tryd.underlying35 Tryd.underlying5 Tryd.underlying9 (Kd.own_of_R HO126.out)
                                                       refine value_ (w1 := ?_) (v := ?_) (by rfl) rfl ?_ ?_
                                                       rotate_left 2
                                                       · go_simp
                                                         constructor
                                                         · rfl
                                                         · rfl
                                                       clear hcv20
                                                       refine hK.out _ _ (five_ BK117.out) (fun hHeld => ?_)
                                                       clear hK K
                                                       refine norm_ (a' := ?_) ?_ ?_
                                                       rotate_left
                                                       · show Act.put _ (some 28) _ = _
                                                         simp only [Act.put, lsA, lsB, lsC, i64_w, i32_w]
                                                         rfl
                                                       exact norm_ (by first | (simp only [putAll, Act.put, lsA, lsB, lsC]; done) | (simp only [putAll, Act.put, lsA, lsB, lsC]; rfl)) (hJ3_20_21 (v120, v125) _ ⟨hHeld, (by (with_reducible repeat (first | apply Kd.R_alloc | apply Kd.R_drewN | apply Kd.R_drew)); exact HO121.out), (by (with_reducible repeat (first | apply Kd.R_alloc | apply Kd.R_drewN | apply Kd.R_drew)); exact HO126.out), (by (with_reducible repeat (first | refine blk_drewN ?_ _ | refine blk_drew ?_ | refine blk_alloc ?_ _)); exact BK117.out), (by repeat (first | (with_reducible first | exact HB.out | apply below_alloc | apply pw_below_drewN | apply below_drew1 | refine below_set ?_ GE117.out) | exact HB.out))⟩)
                                                 · skip
                                                   rintro v120 w18 ⟨hS_, h0_, h1_, h2_⟩
                                                   have n0_ : Aside0 (Kd.R (Kd.int .u8) 5 w18 w.heap.size (fun _ => True) v120 y119) := ⟨h0_⟩
                                                   have n1_ : Aside0 (w18.heap[gb117]? = some (.cells #[.int .i64 a0_0, .string a0_1, .string a0_2, .int .i64 a0_3, .int .i64 a0_4] 23 (0, 0))) := ⟨h1_⟩
                                                   have n2_ : Aside0 (Below w.heap.size w w18) := ⟨h2_⟩
                                                   clear BK117
                                                   clear HB
                                                   clear h0_ h1_ h2_
                                                   have HO121 := n0_
                                                   have BK117 := n1_
                                                   have HB := n2_
                                                   clear n0_ n1_ n2_
                                                   have hHeld : w18.cell? ⟨gb117, 0, none⟩ = some (.int .i64 a0_0) ∧ w18.cell? ⟨gb117, 1, none⟩ = some (.string a0_1) ∧ w18.cell? ⟨gb117, 2, none⟩ = some (.string a0_2) ∧ w18.cell? ⟨gb117, 3, none⟩ = some (.int .i64 a0_3) ∧ w18.cell? ⟨gb117, 4, none⟩ = some (.int .i64 a0_4) := hS_
                                                   refine norm_ (a' := ?_) ?_ ?_
                                                   rotate_left
                                                   · simp only [putAll, Act.put, lsA, lsB, lsC]
                                                     rfl
                                                   refine three_ (i := 4) (j := 14) (k := 20) (Ni := some 11) (Nj := some 21) (Nk := some 27) #[true, true, true, true, true, true, true, true, true, true, false, true, true, true, false, false, true, true, true, true, false, false, false, true, true, false, true, true, false, false, false] #[true, true, true, true, false, true, true, true, true, true, false, true, true, true, true, false, true, true, true, true, false, false, false, true, true, false, true, true, false, false, false] #[true, true, true, true, false, true, true, true, true, true, false, true, true, true, false, false, true, true, true, true, true, false, false, true, true, false, true, true, false, false, false] rfl rfl rfl rfl rfl rfl (three_of HT_.out (by kernel_rfl)) (by decide) (by decide) (by decide) (fun K hK => ?_) (fun K hK => ?_) (fun K hK => ?_)
                                                   · skip
                                                     have hcv19 := own_string (P := Tryd.prog) Tryd.underlying35 Tryd.underlying5 Tryd.underlying9 (Kd.own_of_R HO121.out)
                                                     refine value_ (w1 := ?_) (v := ?_) (by rfl) rfl ?_ ?_
                                                     rotate_left 2
                                                     · go_simp
                                                       constructor
                                                       · rfl
                                                       · rfl
                                                     clear hcv19
                                                     refine hK.out _ _ (five_ BK117.out) (fun hHeld => ?_)
                                                     clear hK K
                                                     refine norm_ (a' := ?_) ?_ ?_
                                                     rotate_left
                                                     · show Act.put _ (some 11) _ = _
                                                       simp only [Act.put, lsA, lsB, lsC, i64_w, i32_w]
                                                       rfl
                                                     refine pure_ (i := 10) (N := some 17) (v := ?_) (a' := ?_) #[true, true, true, true, true, true, true, true, true, true, true, true, true, true, false, false, true, true, true, true, false, false, false, true, true, false, true, true, false, false, false] rfl rfl (any_of HT_.out (by kernel_rfl)) (fun _ _ _ h => h) (Or.inl ⟨by rfl, ?_⟩) ?_ ?_
                                                     rotate_left
                                                     · intro w'
                                                       go_simp
                                                       with_reducible rfl
                                                     rotate_left
                                                     · simp only [Act.put, lsA, lsB, lsC, i64_w, i32_w]
                                                       rfl
                                                     exact norm_ (by first | (simp only [putAll, Act.put, lsA, lsB, lsC]; done) | (simp only [putAll, Act.put, lsA, lsB, lsC]; rfl)) (hJ3_4_9 (v120) _ ⟨hHeld, (by (with_reducible repeat (first | apply Kd.R_alloc | apply Kd.R_drewN | apply Kd.R_drew)); exact HO121.out), (by (with_reducible repeat (first | refine blk_drewN ?_ _ | refine blk_drew ?_ | refine blk_alloc ?_ _)); exact BK117.out), (by repeat (first | (with_reducible first | exact HB.out | apply below_alloc | apply pw_below_drewN | apply below_drew1 | refine below_set ?_ GE117.out) | exact HB.out))⟩)
                                                   · skip
                                                     refine goes_ Tryd.func23 (by kernel_rfl) rfl #[.int .u64 (IntKind.u64.wrap (a0_4)), .int .i64 8] (by rfl) rfl rfl (by (try simp only [List.map_toArray, List.map_cons, List.map_nil]); first | done | rfl | (simp only [List.length_drop, List.length_take]; rfl)) ?_
                                                     with_reducible refine (escutcheonref1_PutBig.calls (IntKind.u64.wrap (a0_4)) 8 t123 _ A6.out).mono ?_
                                                     rintro e w19 ⟨rfl, hb⟩
                                                     refine ⟨_, rfl, ?_⟩
                                                     have n0_ := Aside0.mk (Kd.R_below (by (with_reducible repeat (first | apply Kd.R_alloc | apply Kd.R_drewN | apply Kd.R_drew)); exact HO121.out) hb)
                                                     have n1_ := Aside0.mk (blk_below (g := gb117) (o := .cells #[.int .i64 a0_0, .string a0_1, .string a0_2, .int .i64 a0_3, .int .i64 a0_4] 23 (0, 0)) (by (with_reducible repeat (first | refine blk_drewN ?_ _ | refine blk_drew ?_ | refine blk_alloc ?_ _)); exact BK117.out) hb)
                                                     have n2_ := Aside0.mk (below_step (by repeat (first | (with_reducible first | exact HB.out | apply below_alloc | apply pw_below_drewN | apply below_drew1 | refine below_set ?_ GE117.out) | exact HB.out)) hb)
                                                     clear HO121
                                                     clear BK117
                                                     clear HB
                                                     have HO121 := n0_
                                                     have BK117 := n1_
                                                     have HB := n2_
                                                     clear n0_ n1_ n2_
                                                     (try clear hb)
                                                     (try clear hb2)
                                                     (try clear hk)
                                                     (try clear hi)
                                                     refine hK.out _ _ (five_ BK117.out) (fun hHeld => ?_)
                                                     clear hK K
                                                     refine norm_ (a' := ?_) ?_ ?_
                                                     rotate_left
                                                     · show Act.put _ (some 21) _ = _
                                                       simp only [Act.put, lsA, lsB, lsC, i64_w, i32_w]
                                                       rfl
                                                     exact norm_ (by first | (simp only [putAll, Act.put, lsA, lsB, lsC]; done) | (simp only [putAll, Act.put, lsA, lsB, lsC]; rfl)) (hJ3_9_14 (v120) _ ⟨hHeld, (by (with_reducible repeat (first | apply Kd.R_alloc | apply Kd.R_drewN | apply Kd.R_drew)); exact HO121.out), (by (with_reducible repeat (first | refine blk_drewN ?_ _ | refine blk_drew ?_ | refine blk_alloc ?_ _)); exact BK117.out), (by repeat (first | (with_reducible first | exact HB.out | apply below_alloc | apply pw_below_drewN | apply below_drew1 | refine below_set ?_ GE117.out) | exact HB.out))⟩)
                                                   · skip
                                                     refine Kd.R_lit_step (Kd.int .u8) _ 5 ?hg (N := 27) ?hd (xs := ([((a0_1.size : Int)) % 256] : List Int)) (inner := [.int .u8 (((a0_1.size : Int)) % 256)]) (ok := fun _ => True) (okp := fun _ => True) ?hr ?hp (fun _ hk => hk) trivial (Below.refl _ _) (Nat.le_refl _) (by simp) ?_; (case hd => rfl); (case hg => rfl); (case hr => first | (go_simp; done) | (go_simp; rfl)); (case hp => exact (Reps.one (show Kd.M (Kd.int .u8) _ _ _ (((a0_1.size : Int)) % 256) [.int .u8 (((a0_1.size : Int)) % 256)] from rfl) (Reps.none _ _)))
                                                     intro v125 w19 ho20 hb hg_ hnew_
                                                     clear hg_ hnew_
                                                     (first | rw [← Ny124.out] at ho20 | (simp only [Int.reduceToNat] at ho20; rw [← Ny124.out] at ho20))
                                                     have n0_ := Aside0.mk (Kd.R_elder' (by (with_reducible repeat (first | apply Kd.R_alloc | apply Kd.R_drewN | apply Kd.R_drew)); exact HO121.out) (Kd.R_base ho20) hb)
                                                     have n1_ := Aside0.mk (Kd.R_lower (Kd.R_new' ho20 (Kd.R_lt (by (with_reducible repeat (first | apply Kd.R_alloc | apply Kd.R_drewN | apply Kd.R_drew)); exact HO121.out))) (below_size (by repeat (first | (with_reducible first | exact HB.out | apply below_alloc | apply pw_below_drewN | apply below_drew1 | refine below_set ?_ GE117.out) | exact HB.out))))
                                                     have n2_ := Aside0.mk (blk_below (g := gb117) (o := .cells #[.int .i64 a0_0, .string a0_1, .string a0_2, .int .i64 a0_3, .int .i64 a0_4] 23 (0, 0)) (by (with_reducible repeat (first | refine blk_drewN ?_ _ | refine blk_drew ?_ | refine blk_alloc ?_ _)); exact BK117.out) hb)
                                                     have n3_ := Aside0.mk (below_step (by repeat (first | (with_reducible first | exact HB.out | apply below_alloc | apply pw_below_drewN | apply below_drew1 | refine below_set ?_ GE117.out) | exact HB.out)) hb)
                                                     clear HO121
                                                     clear BK117
                                                     clear HB
                                                     have HO121 := n0_
                                                     have HO126 := n1_
                                                     have BK117 := n2_
                                                     have HB := n3_
                                                     clear n0_ n1_ n2_ n3_
                                                     clear hb ho20
                                                     refine hK.out _ _ (five_ BK117.out) (fun hHeld => ?_)
                                                     clear hK K
                                                     refine norm_ (a' := ?_) ?_ ?_
                                                     rotate_left
                                                     · show Act.put _ (some 27) _ = _
                                                       simp only [Act.put, lsA, lsB, lsC, i64_w, i32_w]
                                                       rfl
                                                     exact norm_ (by first | (simp only [putAll, Act.put, lsA, lsB, lsC]; done) | (simp only [putAll, Act.put, lsA, lsB, lsC]; rfl)) (hJ3_9_20 (v120, v125) _ ⟨hHeld, (by (with_reducible repeat (first | apply Kd.R_alloc | apply Kd.R_drewN | apply Kd.R_drew)); exact Kd.R_mono HO121.out (fun _ hk => hk.2)), (by (with_reducible repeat (first | apply Kd.R_alloc | apply Kd.R_drewN | apply Kd.R_drew)); exact Kd.R_mono HO126.out (fun _ hk => hk.2)), (by (with_reducible repeat (first | refine blk_drewN ?_ _ | refine blk_drew ?_ | refine blk_alloc ?_ _)); exact BK117.out), (by repeat (first | (with_reducible first | exact HB.out | apply below_alloc | apply pw_below_drewN | apply below_drew1 | refine below_set ?_ GE117.out) | exact HB.out))⟩)
                                               · skip
                                                 rintro v120 w18 ⟨hS_, h0_, h1_, h2_⟩
                                                 have n0_ : Aside0 (Kd.R (Kd.int .u8) 5 w18 w.heap.size (fun _ => True) v120 y119) := ⟨h0_⟩
                                                 have n1_ : Aside0 (w18.heap[gb117]? = some (.cells #[.int .i64 a0_0, .string a0_1, .string a0_2, .int .i64 a0_3, .int .i64 a0_4] 23 (0, 0))) := ⟨h1_⟩
                                                 have n2_ : Aside0 (Below w.heap.size w w18) := ⟨h2_⟩
                                                 clear BK117
                                                 clear HB
                                                 clear h0_ h1_ h2_
                                                 have HO121 := n0_
                                                 have BK117 := n1_
                                                 have HB := n2_
                                                 clear n0_ n1_ n2_
                                                 have hHeld : w18.cell? ⟨gb117, 0, none⟩ = some (.int .i64 a0_0) ∧ w18.cell? ⟨gb117, 1, none⟩ = some (.string a0_1) ∧ w18.cell? ⟨gb117, 2, none⟩ = some (.string a0_2) ∧ w18.cell? ⟨gb117, 3, none⟩ = some (.int .i64 a0_3) ∧ w18.cell? ⟨gb117, 4, none⟩ = some (.int .i64 a0_4) := hS_
                                                 refine norm_ (a' := ?_) ?_ ?_
                                                 rotate_left
                                                 · simp only [putAll, Act.put, lsA, lsB, lsC]
                                                   rfl
                                                 refine two_ (i := 9) (j := 20) (Ni := some 16) (Nj := some 27) #[true, true, true, true, true, true, true, true, true, true, false, true, true, true, false, false, true, true, true, true, false, false, false, true, true, false, true, true, false, false, false] #[true, true, true, true, true, true, true, true, true, false, false, true, true, true, false, false, true, true, true, true, true, false, false, true, true, false, true, true, false, false, false] rfl rfl rfl rfl (two_of HT_.out (by kernel_rfl)) (by decide) (by decide) (fun K hK => ?_) (fun K hK => ?_)
                                                 · skip
                                                   refine goes_ Tryd.func23 (by kernel_rfl) rfl #[.int .u64 (IntKind.u64.wrap (wrap64 (a0_3 + 1000000000000))), .int .i64 8] (by rfl) rfl rfl (by (try simp only [List.map_toArray, List.map_cons, List.map_nil]); first | done | rfl | (simp only [List.length_drop, List.length_take]; rfl)) ?_
                                                   with_reducible refine (escutcheonref1_PutBig.calls (IntKind.u64.wrap (wrap64 (a0_3 + 1000000000000))) 8 t122 _ A4.out).mono ?_
                                                   rintro e w19 ⟨rfl, hb⟩
                                                   refine ⟨_, rfl, ?_⟩
                                                   have n0_ := Aside0.mk (Kd.R_below (by (with_reducible repeat (first | apply Kd.R_alloc | apply Kd.R_drewN | apply Kd.R_drew)); exact HO121.out) hb)
                                                   have n1_ := Aside0.mk (blk_below (g := gb117) (o := .cells #[.int .i64 a0_0, .string a0_1, .string a0_2, .int .i64 a0_3, .int .i64 a0_4] 23 (0, 0)) (by (with_reducible repeat (first | refine blk_drewN ?_ _ | refine blk_drew ?_ | refine blk_alloc ?_ _)); exact BK117.out) hb)
                                                   have n2_ := Aside0.mk (below_step (by repeat (first | (with_reducible first | exact HB.out | apply below_alloc | apply pw_below_drewN | apply below_drew1 | refine below_set ?_ GE117.out) | exact HB.out)) hb)
                                                   clear HO121
                                                   clear BK117
                                                   clear HB
                                                   have HO121 := n0_
                                                   have BK117 := n1_
                                                   have HB := n2_
                                                   clear n0_ n1_ n2_
                                                   (try clear hb)
                                                   (try clear hb2)
                                                   (try clear hk)
                                                   (try clear hi)
                                                   refine hK.out _ _ (five_ BK117.out) (fun hHeld => ?_)
                                                   clear hK K
                                                   refine norm_ (a' := ?_) ?_ ?_
                                                   rotate_left
                                                   · show Act.put _ (some 16) _ = _
                                                     simp only [Act.put, lsA, lsB, lsC, i64_w, i32_w]
                                                     rfl
                                                   refine pure_ (i := 10) (N := some 17) (v := ?_) (a' := ?_) #[true, true, true, true, true, true, true, true, true, true, true, true, true, true, false, false, true, true, true, true, false, false, false, true, true, false, true, true, false, false, false] rfl rfl (any_of HT_.out (by kernel_rfl)) (fun _ _ _ h => h) (Or.inl ⟨by rfl, ?_⟩) ?_ ?_
                                                   rotate_left
                                                   · intro w'
                                                     go_simp
                                                     with_reducible rfl
                                                   rotate_left
                                                   · simp only [Act.put, lsA, lsB, lsC, i64_w, i32_w]
                                                     rfl
                                                   exact norm_ (by first | (simp only [putAll, Act.put, lsA, lsB, lsC]; done) | (simp only [putAll, Act.put, lsA, lsB, lsC]; rfl)) (hJ3_4_9 (v120) _ ⟨hHeld, (by (with_reducible repeat (first | apply Kd.R_alloc | apply Kd.R_drewN | apply Kd.R_drew)); exact HO121.out), (by (with_reducible repeat (first | refine blk_drewN ?_ _ | refine blk_drew ?_ | refine blk_alloc ?_ _)); exact BK117.out), (by repeat (first | (with_reducible first | exact HB.out | apply below_alloc | apply pw_below_drewN | apply below_drew1 | refine below_set ?_ GE117.out) | exact HB.out))⟩)
                                                 · skip
                                                   refine Kd.R_lit_step (Kd.int .u8) _ 5 ?hg (N := 27) ?hd (xs := ([((a0_1.size : Int)) % 256] : List Int)) (inner := [.int .u8 (((a0_1.size : Int)) % 256)]) (ok := fun _ => True) (okp := fun _ => True) ?hr ?hp (fun _ hk => hk) trivial (Below.refl _ _) (Nat.le_refl _) (by simp) ?_; (case hd => rfl); (case hg => rfl); (case hr => first | (go_simp; done) | (go_simp; rfl)); (case hp => exact (Reps.one (show Kd.M (Kd.int .u8) _ _ _ (((a0_1.size : Int)) % 256) [.int .u8 (((a0_1.size : Int)) % 256)] from rfl) (Reps.none _ _)))
                                                   intro v125 w19 ho20 hb hg_ hnew_
                                                   clear hg_ hnew_
                                                   (first | rw [← Ny124.out] at ho20 | (simp only [Int.reduceToNat] at ho20; rw [← Ny124.out] at ho20))
                                                   have n0_ := Aside0.mk (Kd.R_elder' (by (with_reducible repeat (first | apply Kd.R_alloc | apply Kd.R_drewN | apply Kd.R_drew)); exact HO121.out) (Kd.R_base ho20) hb)
                                                   have n1_ := Aside0.mk (Kd.R_lower (Kd.R_new' ho20 (Kd.R_lt (by (with_reducible repeat (first | apply Kd.R_alloc | apply Kd.R_drewN | apply Kd.R_drew)); exact HO121.out))) (below_size (by repeat (first | (with_reducible first | exact HB.out | apply below_alloc | apply pw_below_drewN | apply below_drew1 | refine below_set ?_ GE117.out) | exact HB.out))))
                                                   have n2_ := Aside0.mk (blk_below (g := gb117) (o := .cells #[.int .i64 a0_0, .string a0_1, .string a0_2, .int .i64 a0_3, .int .i64 a0_4] 23 (0, 0)) (by (with_reducible repeat (first | refine blk_drewN ?_ _ | refine blk_drew ?_ | refine blk_alloc ?_ _)); exact BK117.out) hb)
                                                   have n3_ := Aside0.mk (below_step (by repeat (first | (with_reducible first | exact HB.out | apply below_alloc | apply pw_below_drewN | apply below_drew1 | refine below_set ?_ GE117.out) | exact HB.out)) hb)
                                                   clear HO121
                                                   clear BK117
                                                   clear HB
                                                   have HO121 := n0_
                                                   have HO126 := n1_
                                                   have BK117 := n2_
                                                   have HB := n3_
                                                   clear n0_ n1_ n2_ n3_
                                                   clear hb ho20
                                                   refine hK.out _ _ (five_ BK117.out) (fun hHeld => ?_)
                                                   clear hK K
                                                   refine norm_ (a' := ?_) ?_ ?_
                                                   rotate_left
                                                   · show Act.put _ (some 27) _ = _
                                                     simp only [Act.put, lsA, lsB, lsC, i64_w, i32_w]
                                                     rfl
                                                   exact norm_ (by first | (simp only [putAll, Act.put, lsA, lsB, lsC]; done) | (simp only [putAll, Act.put, lsA, lsB, lsC]; rfl)) (hJ3_4_20 (v120, v125) _ ⟨hHeld, (by (with_reducible repeat (first | apply Kd.R_alloc | apply Kd.R_drewN | apply Kd.R_drew)); exact Kd.R_mono HO121.out (fun _ hk => hk.2)), (by (with_reducible repeat (first | apply Kd.R_alloc | apply Kd.R_drewN | apply Kd.R_drew)); exact Kd.R_mono HO126.out (fun _ hk => hk.2)), (by (with_reducible repeat (first | refine blk_drewN ?_ _ | refine blk_drew ?_ | refine blk_alloc ?_ _)); exact BK117.out), (by repeat (first | (with_reducible first | exact HB.out | apply below_alloc | apply pw_below_drewN | apply below_drew1 | refine below_set ?_ GE117.out) | exact HB.out))⟩)
                                             · skip
                                               rintro v125 w19 ⟨hS_, h0_, h1_, h2_⟩
                                               have n0_ : Aside0 (Kd.R (Kd.int .u8) 5 w19 w.heap.size (fun _ => True) v125 y124) := ⟨h0_⟩
                                               have n1_ : Aside0 (w19.heap[gb117]? = some (.cells #[.int .i64 a0_0, .string a0_1, .string a0_2, .int .i64 a0_3, .int .i64 a0_4] 23 (0, 0))) := ⟨h1_⟩
                                               have n2_ : Aside0 (Below w.heap.size w w19) := ⟨h2_⟩
                                               clear BK117
                                               clear HB
                                               clear h0_ h1_ h2_
                                               have HO126 := n0_
                                               have BK117 := n1_
                                               have HB := n2_
                                               clear n0_ n1_ n2_
                                               have hHeld : w19.cell? ⟨gb117, 0, none⟩ = some (.int .i64 a0_0) ∧ w19.cell? ⟨gb117, 1, none⟩ = some (.string a0_1) ∧ w19.cell? ⟨gb117, 2, none⟩ = some (.string a0_2) ∧ w19.cell? ⟨gb117, 3, none⟩ = some (.int .i64 a0_3) ∧ w19.cell? ⟨gb117, 4, none⟩ = some (.int .i64 a0_4) := hS_
                                               refine norm_ (a' := ?_) ?_ ?_
                                               rotate_left
                                               · simp only [putAll, Act.put, lsA, lsB, lsC]
                                                 rfl
                                               refine two_ (i := 3) (j := 14) (Ni := some 10) (Nj := some 21) #[true, true, true, true, false, true, true, true, true, true, false, true, true, true, false, false, true, true, true, true, true, true, false, true, true, false, true, true, false, false, false] #[true, true, true, false, false, true, true, true, true, true, false, true, true, true, true, false, true, true, true, true, true, true, false, true, true, false, true, true, false, false, false] rfl rfl rfl rfl (two_of HT_.out (by kernel_rfl)) (by decide) (by decide) (fun K hK => ?_) (fun K hK => ?_)
                                               · skip
                                                 refine Kd.R_lit_step (Kd.int .u8) _ 5 ?hg (N := 10) ?hd (xs := ([(a0_0) % 256] : List Int)) (inner := [.int .u8 ((a0_0) % 256)]) (ok := fun _ => True) (okp := fun _ => True) ?hr ?hp (fun _ hk => hk) trivial (Below.refl _ _) (Nat.le_refl _) (by simp) ?_; (case hd => rfl); (case hg => rfl); (case hr => first | (go_simp; done) | (go_simp; rfl)); (case hp => exact (Reps.one (show Kd.M (Kd.int .u8) _ _ _ ((a0_0) % 256) [.int .u8 ((a0_0) % 256)] from rfl) (Reps.none _ _)))
                                                 intro v120 w20 ho21 hb hg_ hnew_
                                                 clear hg_ hnew_
                                                 (first | rw [← Ny119.out] at ho21 | (simp only [Int.reduceToNat] at ho21; rw [← Ny119.out] at ho21))
                                                 have n0_ := Aside0.mk (Kd.R_elder' (by (with_reducible repeat (first | apply Kd.R_alloc | apply Kd.R_drewN | apply Kd.R_drew)); exact HO126.out) (Kd.R_base ho21) hb)
                                                 have n1_ := Aside0.mk (Kd.R_lower (Kd.R_new' ho21 (Kd.R_lt (by (with_reducible repeat (first | apply Kd.R_alloc | apply Kd.R_drewN | apply Kd.R_drew)); exact HO126.out))) (below_size (by repeat (first | (with_reducible first | exact HB.out | apply below_alloc | apply pw_below_drewN | apply below_drew1 | refine below_set ?_ GE117.out) | exact HB.out))))
                                                 have n2_ := Aside0.mk (blk_below (g := gb117) (o := .cells #[.int .i64 a0_0, .string a0_1, .string a0_2, .int .i64 a0_3, .int .i64 a0_4] 23 (0, 0)) (by (with_reducible repeat (first | refine blk_drewN ?_ _ | refine blk_drew ?_ | refine blk_alloc ?_ _)); exact BK117.out) hb)
                                                 have n3_ := Aside0.mk (below_step (by repeat (first | (with_reducible first | exact HB.out | apply below_alloc | apply pw_below_drewN | apply below_drew1 | refine below_set ?_ GE117.out) | exact HB.out)) hb)
                                                 clear HO126
                                                 clear BK117
                                                 clear HB
                                                 have HO126 := n0_
                                                 have HO121 := n1_
                                                 have BK117 := n2_
                                                 have HB := n3_
                                                 clear n0_ n1_ n2_ n3_
                                                 clear hb ho21
                                                 refine hK.out _ _ (five_ BK117.out) (fun hHeld => ?_)
                                                 clear hK K
                                                 refine norm_ (a' := ?_) ?_ ?_
                                                 rotate_left
                                                 · show Act.put _ (some 10) _ = _
                                                   simp only [Act.put, lsA, lsB, lsC, i64_w, i32_w]
                                                   rfl
                                                 exact norm_ (by first | (simp only [putAll, Act.put, lsA, lsB, lsC]; done) | (simp only [putAll, Act.put, lsA, lsB, lsC]; rfl)) (hJ3_9_20_21 (v120, v125) _ ⟨hHeld, (by (with_reducible repeat (first | apply Kd.R_alloc | apply Kd.R_drewN | apply Kd.R_drew)); exact Kd.R_mono HO121.out (fun _ hk => hk.2)), (by (with_reducible repeat (first | apply Kd.R_alloc | apply Kd.R_drewN | apply Kd.R_drew)); exact Kd.R_mono HO126.out (fun _ hk => hk.2)), (by (with_reducible repeat (first | refine blk_drewN ?_ _ | refine blk_drew ?_ | refine blk_alloc ?_ _)); exact BK117.out), (by repeat (first | (with_reducible first | exact HB.out | apply below_alloc | apply pw_below_drewN | apply below_drew1 | refine below_set ?_ GE117.out) | exact HB.out))⟩)
                                               · skip
                                                 refine goes_ Tryd.func23 (by kernel_rfl) rfl #[.int .u64 (IntKind.u64.wrap (a0_4)), .int .i64 8] (by rfl) rfl rfl (by (try simp only [List.map_toArray, List.map_cons, List.map_nil]); first | done | rfl | (simp only [List.length_drop, List.length_take]; rfl)) ?_
                                                 with_reducible refine (escutcheonref1_PutBig.calls (IntKind.u64.wrap (a0_4)) 8 t123 _ A6.out).mono ?_
                                                 rintro e w20 ⟨rfl, hb⟩
                                                 refine ⟨_, rfl, ?_⟩
                                                 have n0_ := Aside0.mk (Kd.R_below (by (with_reducible repeat (first | apply Kd.R_alloc | apply Kd.R_drewN | apply Kd.R_drew)); exact HO126.out) hb)
                                                 have n1_ := Aside0.mk (blk_below (g := gb117) (o := .cells #[.int .i64 a0_0, .string a0_1, .string a0_2, .int .i64 a0_3, .int .i64 a0_4] 23 (0, 0)) (by (with_reducible repeat (first | refine blk_drewN ?_ _ | refine blk_drew ?_ | refine blk_alloc ?_ _)); exact BK117.out) hb)
                                                 have n2_ := Aside0.mk (below_step (by repeat (first | (with_reducible first | exact HB.out | apply below_alloc | apply pw_below_drewN | apply below_drew1 | refine below_set ?_ GE117.out) | exact HB.out)) hb)
                                                 clear HO126
                                                 clear BK117
                                                 clear HB
                                                 have HO126 := n0_
                                                 have BK117 := n1_
                                                 have HB := n2_
                                                 clear n0_ n1_ n2_
                                                 (try clear hb)
                                                 (try clear hb2)
                                                 (try clear hk)
                                                 (try clear hi)
                                                 refine hK.out _ _ (five_ BK117.out) (fun hHeld => ?_)
                                                 clear hK K
                                                 refine norm_ (a' := ?_) ?_ ?_
                                                 rotate_left
                                                 · show Act.put _ (some 21) _ = _
                                                   simp only [Act.put, lsA, lsB, lsC, i64_w, i32_w]
                                                   rfl
                                                 exact norm_ (by first | (simp only [putAll, Act.put, lsA, lsB, lsC]; done) | (simp only [putAll, Act.put, lsA, lsB, lsC]; rfl)) (hJ9_14_20_21 (v125) _ ⟨hHeld, (by (with_reducible repeat (first | apply Kd.R_alloc | apply Kd.R_drewN | apply Kd.R_drew)); exact HO126.out), (by (with_reducible repeat (first | refine blk_drewN ?_ _ | refine blk_drew ?_ | refine blk_alloc ?_ _)); exact BK117.out), (by repeat (first | (with_reducible first | exact HB.out | apply below_alloc | apply pw_below_drewN | apply below_drew1 | refine below_set ?_ GE117.out) | exact HB.out))⟩)
                                           · skip
                                             rintro v125 w19 ⟨hS_, h0_, h1_, h2_⟩
                                             have n0_ : Aside0 (Kd.R (Kd.int .u8) 5 w19 w.heap.size (fun _ => True) v125 y124) := ⟨h0_⟩
                                             have n1_ : Aside0 (w19.heap[gb117]? = some (.cells #[.int .i64 a0_0, .string a0_1, .string a0_2, .int .i64 a0_3, .int .i64 a0_4] 23 (0, 0))) := ⟨h1_⟩
                                             have n2_ : Aside0 (Below w.heap.size w w19) := ⟨h2_⟩
                                             clear BK117
                                             clear HB
                                             clear h0_ h1_ h2_
                                             have HO126 := n0_
                                             have BK117 := n1_
                                             have HB := n2_
                                             clear n0_ n1_ n2_
                                             have hHeld : w19.cell? ⟨gb117, 0, none⟩ = some (.int .i64 a0_0) ∧ w19.cell? ⟨gb117, 1, none⟩ = some (.string a0_1) ∧ w19.cell? ⟨gb117, 2, none⟩ = some (.string a0_2) ∧ w19.cell? ⟨gb117, 3, none⟩ = some (.int .i64 a0_3) ∧ w19.cell? ⟨gb117, 4, none⟩ = some (.int .i64 a0_4) := hS_
                                             refine norm_ (a' := ?_) ?_ ?_
                                             rotate_left
                                             · simp only [putAll, Act.put, lsA, lsB, lsC]
                                               rfl
                                             refine two_ (i := 3) (j := 21) (Ni := some 10) (Nj := some 28) #[true, true, true, true, false, true, true, true, true, true, false, true, true, true, true, false, true, true, true, true, true, false, false, true, true, false, true, true, false, false, false] #[true, true, true, false, false, true, true, true, true, true, false, true, true, true, true, false, true, true, true, true, true, true, false, true, true, false, true, true, false, false, false] rfl rfl rfl rfl (two_of HT_.out (by kernel_rfl)) (by decide) (by decide) (fun K hK => ?_) (fun K hK => ?_)
                                             · skip
                                               refine Kd.R_lit_step (Kd.int .u8) _ 5 ?hg (N := 10) ?hd (xs := ([(a0_0) % 256] : List Int)) (inner := [.int .u8 ((a0_0) % 256)]) (ok := fun _ => True) (okp := fun _ => True) ?hr ?hp (fun _ hk => hk) trivial (Below.refl _ _) (Nat.le_refl _) (by simp) ?_; (case hd => rfl); (case hg => rfl); (case hr => first | (go_simp; done) | (go_simp; rfl)); (case hp => exact (Reps.one (show Kd.M (Kd.int .u8) _ _ _ ((a0_0) % 256) [.int .u8 ((a0_0) % 256)] from rfl) (Reps.none _ _)))
                                               intro v120 w20 ho21 hb hg_ hnew_
                                               clear hg_ hnew_
                                               (first | rw [← Ny119.out] at ho21 | (simp only [Int.reduceToNat] at ho21; rw [← Ny119.out] at ho21))
                                               have n0_ := Aside0.mk (Kd.R_elder' (by (with_reducible repeat (first | apply Kd.R_alloc | apply Kd.R_drewN | apply Kd.R_drew)); exact HO126.out) (Kd.R_base ho21) hb)
                                               have n1_ := Aside0.mk (Kd.R_lower (Kd.R_new' ho21 (Kd.R_lt (by (with_reducible repeat (first | apply Kd.R_alloc | apply Kd.R_drewN | apply Kd.R_drew)); exact HO126.out))) (below_size (by repeat (first | (with_reducible first | exact HB.out | apply below_alloc | apply pw_below_drewN | apply below_drew1 | refine below_set ?_ GE117.out) | exact HB.out))))
                                               have n2_ := Aside0.mk (blk_below (g := gb117) (o := .cells #[.int .i64 a0_0, .string a0_1, .string a0_2, .int .i64 a0_3, .int .i64 a0_4] 23 (0, 0)) (by (with_reducible repeat (first | refine blk_drewN ?_ _ | refine blk_drew ?_ | refine blk_alloc ?_ _)); exact BK117.out) hb)
                                               have n3_ := Aside0.mk (below_step (by repeat (first | (with_reducible first | exact HB.out | apply below_alloc | apply pw_below_drewN | apply below_drew1 | refine below_set ?_ GE117.out) | exact HB.out)) hb)
                                               clear HO126
                                               clear BK117
                                               clear HB
                                               have HO126 := n0_
                                               have HO121 := n1_
                                               have BK117 := n2_
                                               have HB := n3_
                                               clear n0_ n1_ n2_ n3_
                                               clear hb ho21
                                               refine hK.out _ _ (five_ BK117.out) (fun hHeld => ?_)
                                               clear hK K
                                               refine norm_ (a' := ?_) ?_ ?_
                                               rotate_left
                                               · show Act.put _ (some 10) _ = _
                                                 simp only [Act.put, lsA, lsB, lsC, i64_w, i32_w]
                                                 rfl
                                               exact norm_ (by first | (simp only [putAll, Act.put, lsA, lsB, lsC]; done) | (simp only [putAll, Act.put, lsA, lsB, lsC]; rfl)) (hJ3_9_14_20 (v120, v125) _ ⟨hHeld, (by (with_reducible repeat (first | apply Kd.R_alloc | apply Kd.R_drewN | apply Kd.R_drew)); exact Kd.R_mono HO121.out (fun _ hk => hk.2)), (by (with_reducible repeat (first | apply Kd.R_alloc | apply Kd.R_drewN | apply Kd.R_drew)); exact Kd.R_mono HO126.out (fun _ hk => hk.2)), (by (with_reducible repeat (first | refine blk_drewN ?_ _ | refine blk_drew ?_ | refine blk_alloc ?_ _)); exact BK117.out), (by repeat (first | (with_reducible first | exact HB.out | apply below_alloc | apply pw_below_drewN | apply below_drew1 | refine below_set ?_ GE117.out) | exact HB.out))⟩)
                                             · skip
                                               have hcv20 := own_string (P := Tryd.prog) Tryd.underlying35 Tryd.underlying5 Tryd.underlying9 (Kd.own_of_R HO126.out)
                                               refine value_ (w1 := ?_) (v := ?_) (by rfl) rfl ?_ ?_
                                               rotate_left 2
                                               · go_simp
                                                 constructor
                                                 · rfl
                                                 · rfl
                                               clear hcv20
                                               refine hK.out _ _ (five_ BK117.out) (fun hHeld => ?_)
                                               clear hK K
                                               refine norm_ (a' := ?_) ?_ ?_
                                               rotate_left
                                               · show Act.put _ (some 28) _ = _
                                                 simp only [Act.put, lsA, lsB, lsC, i64_w, i32_w]
                                                 rfl
                                               exact norm_ (by first | (simp only [putAll, Act.put, lsA, lsB, lsC]; done) | (simp only [putAll, Act.put, lsA, lsB, lsC]; rfl)) (hJ9_14_20_21 (v125) _ ⟨hHeld, (by (with_reducible repeat (first | apply Kd.R_alloc | apply Kd.R_drewN | apply Kd.R_drew)); exact HO126.out), (by (with_reducible repeat (first | refine blk_drewN ?_ _ | refine blk_drew ?_ | refine blk_alloc ?_ _)); exact BK117.out), (by repeat (first | (with_reducible first | exact HB.out | apply below_alloc | apply pw_below_drewN | apply below_drew1 | refine below_set ?_ GE117.out) | exact HB.out))⟩)
                                         · skip
                                           rintro ⟨v120, v125⟩ w20 ⟨hS_, h0_, h1_, h2_, h3_⟩
                                           have n0_ : Aside0 (Kd.R (Kd.int .u8) 5 w20 w.heap.size (fun k_ => some k_ ≠ (v125 : Value).ownBlock) v120 y119) := ⟨h0_⟩
                                           have n1_ : Aside0 (Kd.R (Kd.int .u8) 5 w20 w.heap.size (fun k_ => some k_ ≠ (v120 : Value).ownBlock) v125 y124) := ⟨h1_⟩
                                           have n2_ : Aside0 (w20.heap[gb117]? = some (.cells #[.int .i64 a0_0, .string a0_1, .string a0_2, .int .i64 a0_3, .int .i64 a0_4] 23 (0, 0))) := ⟨h2_⟩
                                           have n3_ : Aside0 (Below w.heap.size w w20) := ⟨h3_⟩
                                           clear BK117
                                           clear HB
                                           clear h0_ h1_ h2_ h3_
                                           have HO121 := n0_
                                           have HO126 := n1_
                                           have BK117 := n2_
                                           have HB := n3_
                                           clear n0_ n1_ n2_ n3_
                                           have hHeld : w20.cell? ⟨gb117, 0, none⟩ = some (.int .i64 a0_0) ∧ w20.cell? ⟨gb117, 1, none⟩ = some (.string a0_1) ∧ w20.cell? ⟨gb117, 2, none⟩ = some (.string a0_2) ∧ w20.cell? ⟨gb117, 3, none⟩ = some (.int .i64 a0_3) ∧ w20.cell? ⟨gb117, 4, none⟩ = some (.int .i64 a0_4) := hS_
                                           refine norm_ (a' := ?_) ?_ ?_
                                           rotate_left
                                           · simp only [putAll, Act.put, lsA, lsB, lsC]
                                             rfl
                                           refine two_ (i := 4) (j := 9) (Ni := some 11) (Nj := some 16) #[true, true, true, true, true, true, true, true, true, false, false, true, true, true, false, false, true, true, true, true, true, true, false, true, true, false, true, true, false, false, false] #[true, true, true, true, false, true, true, true, true, true, false, true, true, true, false, false, true, true, true, true, true, true, false, true, true, false, true, true, false, false, false] rfl rfl rfl rfl (two_of HT_.out (by kernel_rfl)) (by decide) (by decide) (fun K hK => ?_) (fun K hK => ?_)
                                           · skip
                                             have hcv21 := own_string (P := Tryd.prog) Tryd.underlying35 Tryd.underlying5 Tryd.underlying9 (Kd.own_of_R HO121.out)
                                             refine value_ (w1 := ?_) (v := ?_) (by rfl) rfl ?_ ?_
                                             rotate_left 2
                                             · go_simp
                                               constructor
                                               · rfl
                                               · rfl
                                             clear hcv21
                                             refine hK.out _ _ (five_ BK117.out) (fun hHeld => ?_)
                                             clear hK K
                                             refine norm_ (a' := ?_) ?_ ?_
                                             rotate_left
                                             · show Act.put _ (some 11) _ = _
                                               simp only [Act.put, lsA, lsB, lsC, i64_w, i32_w]
                                               rfl
                                             exact norm_ (by first | (simp only [putAll, Act.put, lsA, lsB, lsC]; done) | (simp only [putAll, Act.put, lsA, lsB, lsC]; rfl)) (hJ3_4_20_21 (v120, v125) _ ⟨hHeld, (by (with_reducible repeat (first | apply Kd.R_alloc | apply Kd.R_drewN | apply Kd.R_drew)); exact HO121.out), (by (with_reducible repeat (first | apply Kd.R_alloc | apply Kd.R_drewN | apply Kd.R_drew)); exact HO126.out), (by (with_reducible repeat (first | refine blk_drewN ?_ _ | refine blk_drew ?_ | refine blk_alloc ?_ _)); exact BK117.out), (by repeat (first | (with_reducible first | exact HB.out | apply below_alloc | apply pw_below_drewN | apply below_drew1 | refine below_set ?_ GE117.out) | exact HB.out))⟩)
                                           · skip
                                             refine goes_ Tryd.func23 (by kernel_rfl) rfl #[.int .u64 (IntKind.u64.wrap (wrap64 (a0_3 + 1000000000000))), .int .i64 8] (by rfl) rfl rfl (by (try simp only [List.map_toArray, List.map_cons, List.map_nil]); first | done | rfl | (simp only [List.length_drop, List.length_take]; rfl)) ?_
                                             with_reducible refine (escutcheonref1_PutBig.calls (IntKind.u64.wrap (wrap64 (a0_3 + 1000000000000))) 8 t122 _ A4.out).mono ?_
                                             rintro e w21 ⟨rfl, hb⟩
                                             refine ⟨_, rfl, ?_⟩
                                             have n0_ := Aside0.mk (Kd.R_below (by (with_reducible repeat (first | apply Kd.R_alloc | apply Kd.R_drewN | apply Kd.R_drew)); exact HO121.out) hb)
                                             have n1_ := Aside0.mk (Kd.R_below (by (with_reducible repeat (first | apply Kd.R_alloc | apply Kd.R_drewN | apply Kd.R_drew)); exact HO126.out) hb)
                                             have n2_ := Aside0.mk (blk_below (g := gb117) (o := .cells #[.int .i64 a0_0, .string a0_1, .string a0_2, .int .i64 a0_3, .int .i64 a0_4] 23 (0, 0)) (by (with_reducible repeat (first | refine blk_drewN ?_ _ | refine blk_drew ?_ | refine blk_alloc ?_ _)); exact BK117.out) hb)
                                             have n3_ := Aside0.mk (below_step (by repeat (first | (with_reducible first | exact HB.out | apply below_alloc | apply pw_below_drewN | apply below_drew1 | refine below_set ?_ GE117.out) | exact HB.out)) hb)
                                             clear HO121
                                             clear HO126
                                             clear BK117
                                             clear HB
                                             have HO121 := n0_
                                             have HO126 := n1_
                                             have BK117 := n2_
                                             have HB := n3_
                                             clear n0_ n1_ n2_ n3_
                                             (try clear hb)
                                             (try clear hb2)
                                             (try clear hk)
                                             (try clear hi)
                                             refine hK.out _ _ (five_ BK117.out) (fun hHeld => ?_)
                                             clear hK K
                                             refine norm_ (a' := ?_) ?_ ?_
                                             rotate_left
                                             · show Act.put _ (some 16) _ = _
                                               simp only [Act.put, lsA, lsB, lsC, i64_w, i32_w]
                                               rfl
                                             exact norm_ (by first | (simp only [putAll, Act.put, lsA, lsB, lsC]; done) | (simp only [putAll, Act.put, lsA, lsB, lsC]; rfl)) (hJ3_9_20_21 (v120, v125) _ ⟨hHeld, (by (with_reducible repeat (first | apply Kd.R_alloc | apply Kd.R_drewN | apply Kd.R_drew)); exact HO121.out), (by (with_reducible repeat (first | apply Kd.R_alloc | apply Kd.R_drewN | apply Kd.R_drew)); exact HO126.out), (by (with_reducible repeat (first | refine blk_drewN ?_ _ | refine blk_drew ?_ | refine blk_alloc ?_ _)); exact BK117.out), (by repeat (first | (with_reducible first | exact HB.out | apply below_alloc | apply pw_below_drewN | apply below_drew1 | refine below_set ?_ GE117.out) | exact HB.out))⟩)
                                       · skip
                                         rintro ⟨v120, v125⟩ w20 ⟨hS_, h0_, h1_, h2_, h3_⟩
                                         have n0_ : Aside0 (Kd.R (Kd.int .u8) 5 w20 w.heap.size (fun k_ => some k_ ≠ (v125 : Value).ownBlock) v120 y119) := ⟨h0_⟩
                                         have n1_ : Aside0 (Kd.R (Kd.int .u8) 5 w20 w.heap.size (fun k_ => some k_ ≠ (v120 : Value).ownBlock) v125 y124) := ⟨h1_⟩
                                         have n2_ : Aside0 (w20.heap[gb117]? = some (.cells #[.int .i64 a0_0, .string a0_1, .string a0_2, .int .i64 a0_3, .int .i64 a0_4] 23 (0, 0))) := ⟨h2_⟩
                                         have n3_ : Aside0 (Below w.heap.size w w20) := ⟨h3_⟩
                                         clear BK117
                                         clear HB
                                         clear h0_ h1_ h2_ h3_
                                         have HO121 := n0_
                                         have HO126 := n1_
                                         have BK117 := n2_
                                         have HB := n3_
                                         clear n0_ n1_ n2_ n3_
                                         have hHeld : w20.cell? ⟨gb117, 0, none⟩ = some (.int .i64 a0_0) ∧ w20.cell? ⟨gb117, 1, none⟩ = some (.string a0_1) ∧ w20.cell? ⟨gb117, 2, none⟩ = some (.string a0_2) ∧ w20.cell? ⟨gb117, 3, none⟩ = some (.int .i64 a0_3) ∧ w20.cell? ⟨gb117, 4, none⟩ = some (.int .i64 a0_4) := hS_
                                         refine norm_ (a' := ?_) ?_ ?_
                                         rotate_left
                                         · simp only [putAll, Act.put, lsA, lsB, lsC]
                                           rfl
                                         refine three_ (i := 4) (j := 14) (k := 21) (Ni := some 11) (Nj := some 21) (Nk := some 28) #[true, true, true, true, true, true, true, true, true, true, false, true, true, true, false, false, true, true, true, true, true, false, false, true, true, false, true, true, false, false, false] #[true, true, true, true, false, true, true, true, true, true, false, true, true, true, true, false, true, true, true, true, true, false, false, true, true, false, true, true, false, false, false] #[true, true, true, true, false, true, true, true, true, true, false, true, true, true, false, false, true, true, true, true, true, true, false, true, true, false, true, true, false, false, false] rfl rfl rfl rfl rfl rfl (three_of HT_.out (by kernel_rfl)) (by decide) (by decide) (by decide) (fun K hK => ?_) (fun K hK => ?_) (fun K hK => ?_)
                                         · skip
                                           have hcv21 := own_string (P := Tryd.prog) Tryd.underlying35 Tryd.underlying5 Tryd.underlying9 (Kd.own_of_R HO121.out)
                                           refine value_ (w1 := ?_) (v := ?_) (by rfl) rfl ?_ ?_
                                           rotate_left 2
                                           · go_simp
                                             constructor
                                             · rfl
                                             · rfl
                                           clear hcv21
                                           refine hK.out _ _ (five_ BK117.out) (fun hHeld => ?_)
                                           clear hK K
                                           refine norm_ (a' := ?_) ?_ ?_
                                           rotate_left
                                           · show Act.put _ (some 11) _ = _
                                             simp only [Act.put, lsA, lsB, lsC, i64_w, i32_w]
                                             rfl
                                           refine pure_ (i := 10) (N := some 17) (v := ?_) (a' := ?_) #[true, true, true, true, true, true, true, true, true, true, true, true, true, true, false, false, true, true, true, true, true, false, false, true, true, false, true, true, false, false, false] rfl rfl (any_of HT_.out (by kernel_rfl)) (fun _ _ _ h => h) (Or.inl ⟨by rfl, ?_⟩) ?_ ?_
                                           rotate_left
                                           · intro w'
                                             go_simp
                                             with_reducible rfl
                                           rotate_left
                                           · simp only [Act.put, lsA, lsB, lsC, i64_w, i32_w]
                                             rfl
                                           exact norm_ (by first | (simp only [putAll, Act.put, lsA, lsB, lsC]; done) | (simp only [putAll, Act.put, lsA, lsB, lsC]; rfl)) (hJ3_4_9_20 (v120, v125) _ ⟨hHeld, (by (with_reducible repeat (first | apply Kd.R_alloc | apply Kd.R_drewN | apply Kd.R_drew)); exact HO121.out), (by (with_reducible repeat (first | apply Kd.R_alloc | apply Kd.R_drewN | apply Kd.R_drew)); exact HO126.out), (by (with_reducible repeat (first | refine blk_drewN ?_ _ | refine blk_drew ?_ | refine blk_alloc ?_ _)); exact BK117.out), (by repeat (first | (with_reducible first | exact HB.out | apply below_alloc | apply pw_below_drewN | apply below_drew1 | refine below_set ?_ GE117.out) | exact HB.out))⟩)
                                         · skip
                                           refine goes_ Tryd.func23 (by kernel_rfl) rfl #[.int .u64 (IntKind.u64.wrap (a0_4)), .int .i64 8] (by rfl) rfl rfl (by (try simp only [List.map_toArray, List.map_cons, List.map_nil]); first | done | rfl | (simp only [List.length_drop, List.length_take]; rfl)) ?_
                                           with_reducible refine (escutcheonref1_PutBig.calls (IntKind.u64.wrap (a0_4)) 8 t123 _ A6.out).mono ?_
                                           rintro e w21 ⟨rfl, hb⟩
                                           refine ⟨_, rfl, ?_⟩
                                           have n0_ := Aside0.mk (Kd.R_below (by (with_reducible repeat (first | apply Kd.R_alloc | apply Kd.R_drewN | apply Kd.R_drew)); exact HO121.out) hb)
                                           have n1_ := Aside0.mk (Kd.R_below (by (with_reducible repeat (first | apply Kd.R_alloc | apply Kd.R_drewN | apply Kd.R_drew)); exact HO126.out) hb)
                                           have n2_ := Aside0.mk (blk_below (g := gb117) (o := .cells #[.int .i64 a0_0, .string a0_1, .string a0_2, .int .i64 a0_3, .int .i64 a0_4] 23 (0, 0)) (by (with_reducible repeat (first | refine blk_drewN ?_ _ | refine blk_drew ?_ | refine blk_alloc ?_ _)); exact BK117.out) hb)
                                           have n3_ := Aside0.mk (below_step (by repeat (first | (with_reducible first | exact HB.out | apply below_alloc | apply pw_below_drewN | apply below_drew1 | refine below_set ?_ GE117.out) | exact HB.out)) hb)
                                           clear HO121
                                           clear HO126
                                           clear BK117
                                           clear HB
                                           have HO121 := n0_
                                           have HO126 := n1_
                                           have BK117 := n2_
                                           have HB := n3_
                                           clear n0_ n1_ n2_ n3_
                                           (try clear hb)
                                           (try clear hb2)
                                           (try clear hk)
                                           (try clear hi)
                                           refine hK.out _ _ (five_ BK117.out) (fun hHeld => ?_)
                                           clear hK K
                                           refine norm_ (a' := ?_) ?_ ?_
                                           rotate_left
                                           · show Act.put _ (some 21) _ = _
                                             simp only [Act.put, lsA, lsB, lsC, i64_w, i32_w]
                                             rfl
                                           exact norm_ (by first | (simp only [putAll, Act.put, lsA, lsB, lsC]; done) | (simp only [putAll, Act.put, lsA, lsB, lsC]; rfl)) (hJ3_9_14_20 (v120, v125) _ ⟨hHeld, (by (with_reducible repeat (first | apply Kd.R_alloc | apply Kd.R_drewN | apply Kd.R_drew)); exact HO121.out), (by (with_reducible repeat (first | apply Kd.R_alloc | apply Kd.R_drewN | apply Kd.R_drew)); exact HO126.out), (by (with_reducible repeat (first | refine blk_drewN ?_ _ | refine blk_drew ?_ | refine blk_alloc ?_ _)); exact BK117.out), (by repeat (first | (with_reducible first | exact HB.out | apply below_alloc | apply pw_below_drewN | apply below_drew1 | refine below_set ?_ GE117.out) | exact HB.out))⟩)
                                         · skip
                                           have hcv21 := own_string (P := Tryd.prog) Tryd.underlying35 Tryd.underlying5 Tryd.underlying9 (Kd.own_of_R HO126.out)
                                           refine value_ (w1 := ?_) (v := ?_) (by rfl) rfl ?_ ?_
                                           rotate_left 2
                                           · go_simp
                                             constructor
                                             · rfl
                                             · rfl
                                           clear hcv21
                                           refine hK.out _ _ (five_ BK117.out) (fun hHeld => ?_)
                                           clear hK K
                                           refine norm_ (a' := ?_) ?_ ?_
                                           rotate_left
                                           · show Act.put _ (some 28) _ = _
                                             simp only [Act.put, lsA, lsB, lsC, i64_w, i32_w]
                                             rfl
                                           exact norm_ (by first | (simp only [putAll, Act.put, lsA, lsB, lsC]; done) | (simp only [putAll, Act.put, lsA, lsB, lsC]; rfl)) (hJ3_9_20_21 (v120, v125) _ ⟨hHeld, (by (with_reducible repeat (first | apply Kd.R_alloc | apply Kd.R_drewN | apply Kd.R_drew)); exact HO121.out), (by (with_reducible repeat (first | apply Kd.R_alloc | apply Kd.R_drewN | apply Kd.R_drew)); exact HO126.out), (by (with_reducible repeat (first | refine blk_drewN ?_ _ | refine blk_drew ?_ | refine blk_alloc ?_ _)); exact BK117.out), (by repeat (first | (with_reducible first | exact HB.out | apply below_alloc | apply pw_below_drewN | apply below_drew1 | refine below_set ?_ GE117.out) | exact HB.out))⟩)
                                     · skip
                                       rintro v120 w19 ⟨hS_, h0_, h1_, h2_⟩
                                       have n0_ : Aside0 (Kd.R (Kd.int .u8) 5 w19 w.heap.size (fun _ => True) v120 y119) := ⟨h0_⟩
                                       have n1_ : Aside0 (w19.heap[gb117]? = some (.cells #[.int .i64 a0_0, .string a0_1, .string a0_2, .int .i64 a0_3, .int .i64 a0_4] 23 (0, 0))) := ⟨h1_⟩
                                       have n2_ : Aside0 (Below w.heap.size w w19) := ⟨h2_⟩
                                       clear BK117
                                       clear HB
                                       clear h0_ h1_ h2_
                                       have HO121 := n0_
                                       have BK117 := n1_
                                       have HB := n2_
                                       clear n0_ n1_ n2_
                                       have hHeld : w19.cell? ⟨gb117, 0, none⟩ = some (.int .i64 a0_0) ∧ w19.cell? ⟨gb117, 1, none⟩ = some (.string a0_1) ∧ w19.cell? ⟨gb117, 2, none⟩ = some (.string a0_2) ∧ w19.cell? ⟨gb117, 3, none⟩ = some (.int .i64 a0_3) ∧ w19.cell? ⟨gb117, 4, none⟩ = some (.int .i64 a0_4) := hS_
                                       refine norm_ (a' := ?_) ?_ ?_
                                       rotate_left
                                       · simp only [putAll, Act.put, lsA, lsB, lsC]
                                         rfl
                                       refine two_ (i := 4) (j := 20) (Ni := some 11) (Nj := some 27) #[true, true, true, true, true, true, true, true, true, true, false, true, true, true, true, false, true, true, true, true, false, false, false, true, true, false, true, true, false, false, false] #[true, true, true, true, false, true, true, true, true, true, false, true, true, true, true, false, true, true, true, true, true, false, false, true, true, false, true, true, false, false, false] rfl rfl rfl rfl (two_of HT_.out (by kernel_rfl)) (by decide) (by decide) (fun K hK => ?_) (fun K hK => ?_)
                                       · skip
                                         have hcv20 := own_string (P := Tryd.prog) Tryd.underlying35 Tryd.underlying5 Tryd.underlying9 (Kd.own_of_R HO121.out)
                                         refine value_ (w1 := ?_) (v := ?_) (by rfl) rfl ?_ ?_
                                         rotate_left 2
                                         · go_simp
                                           constructor
                                           · rfl
                                           · rfl
                                         clear hcv20
                                         refine hK.out _ _ (five_ BK117.out) (fun hHeld => ?_)
                                         clear hK K
                                         refine norm_ (a' := ?_) ?_ ?_
                                         rotate_left
                                         · show Act.put _ (some 11) _ = _
                                           simp only [Act.put, lsA, lsB, lsC, i64_w, i32_w]
                                           rfl
                                         refine pure_ (i := 10) (N := some 17) (v := ?_) (a' := ?_) #[true, true, true, true, true, true, true, true, true, true, true, true, true, true, true, false, true, true, true, true, false, false, false, true, true, false, true, true, false, false, false] rfl rfl (any_of HT_.out (by kernel_rfl)) (fun _ _ _ h => h) (Or.inl ⟨by rfl, ?_⟩) ?_ ?_
                                         rotate_left
                                         · intro w'
                                           go_simp
                                           with_reducible rfl
                                         rotate_left
                                         · simp only [Act.put, lsA, lsB, lsC, i64_w, i32_w]
                                           rfl
                                         refine pure_ (i := 15) (N := some 22) (v := ?_) (a' := ?_) #[true, true, true, true, true, true, true, true, true, true, true, true, true, true, true, true, true, true, true, true, false, false, false, true, true, false, true, true, false, false, false] rfl rfl (any_of HT_.out (by kernel_rfl)) (fun _ _ _ h => h) (Or.inl ⟨by rfl, ?_⟩) ?_ ?_
                                         rotate_left
                                         · intro w'
                                           go_simp
                                           with_reducible rfl
                                         rotate_left
                                         · simp only [Act.put, lsA, lsB, lsC, i64_w, i32_w]
                                           rfl
                                         exact norm_ (by first | (simp only [putAll, Act.put, lsA, lsB, lsC]; done) | (simp only [putAll, Act.put, lsA, lsB, lsC]; rfl)) (hJ3_4_9_14 (v120) _ ⟨hHeld, (by (with_reducible repeat (first | apply Kd.R_alloc | apply Kd.R_drewN | apply Kd.R_drew)); exact HO121.out), (by (with_reducible repeat (first | refine blk_drewN ?_ _ | refine blk_drew ?_ | refine blk_alloc ?_ _)); exact BK117.out), (by repeat (first | (with_reducible first | exact HB.out | apply below_alloc | apply pw_below_drewN | apply below_drew1 | refine below_set ?_ GE117.out) | exact HB.out))⟩)
                                       · skip
                                         refine Kd.R_lit_step (Kd.int .u8) _ 5 ?hg (N := 27) ?hd (xs := ([((a0_1.size : Int)) % 256] : List Int)) (inner := [.int .u8 (((a0_1.size : Int)) % 256)]) (ok := fun _ => True) (okp := fun _ => True) ?hr ?hp (fun _ hk => hk) trivial (Below.refl _ _) (Nat.le_refl _) (by simp) ?_; (case hd => rfl); (case hg => rfl); (case hr => first | (go_simp; done) | (go_simp; rfl)); (case hp => exact (Reps.one (show Kd.M (Kd.int .u8) _ _ _ (((a0_1.size : Int)) % 256) [.int .u8 (((a0_1.size : Int)) % 256)] from rfl) (Reps.none _ _)))
                                         intro v125 w20 ho21 hb hg_ hnew_
                                         clear hg_ hnew_
                                         (first | rw [← Ny124.out] at ho21 | (simp only [Int.reduceToNat] at ho21; rw [← Ny124.out] at ho21))
                                         have n0_ := Aside0.mk (Kd.R_elder' (by (with_reducible repeat (first | apply Kd.R_alloc | apply Kd.R_drewN | apply Kd.R_drew)); exact HO121.out) (Kd.R_base ho21) hb)
                                         have n1_ := Aside0.mk (Kd.R_lower (Kd.R_new' ho21 (Kd.R_lt (by (with_reducible repeat (first | apply Kd.R_alloc | apply Kd.R_drewN | apply Kd.R_drew)); exact HO121.out))) (below_size (by repeat (first | (with_reducible first | exact HB.out | apply below_alloc | apply pw_below_drewN | apply below_drew1 | refine below_set ?_ GE117.out) | exact HB.out))))
                                         have n2_ := Aside0.mk (blk_below (g := gb117) (o := .cells #[.int .i64 a0_0, .string a0_1, .string a0_2, .int .i64 a0_3, .int .i64 a0_4] 23 (0, 0)) (by (with_reducible repeat (first | refine blk_drewN ?_ _ | refine blk_drew ?_ | refine blk_alloc ?_ _)); exact BK117.out) hb)
                                         have n3_ := Aside0.mk (below_step (by repeat (first | (with_reducible first | exact HB.out | apply below_alloc | apply pw_below_drewN | apply below_drew1 | refine below_set ?_ GE117.out) | exact HB.out)) hb)
                                         clear HO121
                                         clear BK117
                                         clear HB
                                         have HO121 := n0_
                                         have HO126 := n1_
                                         have BK117 := n2_
                                         have HB := n3_
                                         clear n0_ n1_ n2_ n3_
                                         clear hb ho21
                                         refine hK.out _ _ (five_ BK117.out) (fun hHeld => ?_)
                                         clear hK K
                                         refine norm_ (a' := ?_) ?_ ?_
                                         rotate_left
                                         · show Act.put _ (some 27) _ = _
                                           simp only [Act.put, lsA, lsB, lsC, i64_w, i32_w]
                                           rfl
                                         exact norm_ (by first | (simp only [putAll, Act.put, lsA, lsB, lsC]; done) | (simp only [putAll, Act.put, lsA, lsB, lsC]; rfl)) (hJ3_9_14_20 (v120, v125) _ ⟨hHeld, (by (with_reducible repeat (first | apply Kd.R_alloc | apply Kd.R_drewN | apply Kd.R_drew)); exact Kd.R_mono HO121.out (fun _ hk => hk.2)), (by (with_reducible repeat (first | apply Kd.R_alloc | apply Kd.R_drewN | apply Kd.R_drew)); exact Kd.R_mono HO126.out (fun _ hk => hk.2)), (by (with_reducible repeat (first | refine blk_drewN ?_ _ | refine blk_drew ?_ | refine blk_alloc ?_ _)); exact BK117.out), (by repeat (first | (with_reducible first | exact HB.out | apply below_alloc | apply pw_below_drewN | apply below_drew1 | refine below_set ?_ GE117.out) | exact HB.out))⟩)
                                   · skip
                                     rintro ⟨v120, v125⟩ w20 ⟨hS_, h0_, h1_, h2_, h3_⟩
                                     have n0_ : Aside0 (Kd.R (Kd.int .u8) 5 w20 w.heap.size (fun k_ => some k_ ≠ (v125 : Value).ownBlock) v120 y119) := ⟨h0_⟩
                                     have n1_ : Aside0 (Kd.R (Kd.int .u8) 5 w20 w.heap.size (fun k_ => some k_ ≠ (v120 : Value).ownBlock) v125 y124) := ⟨h1_⟩
                                     have n2_ : Aside0 (w20.heap[gb117]? = some (.cells #[.int .i64 a0_0, .string a0_1, .string a0_2, .int .i64 a0_3, .int .i64 a0_4] 23 (0, 0))) := ⟨h2_⟩
                                     have n3_ : Aside0 (Below w.heap.size w w20) := ⟨h3_⟩
                                     clear BK117
                                     clear HB
                                     clear h0_ h1_ h2_ h3_
                                     have HO121 := n0_
                                     have HO126 := n1_
                                     have BK117 := n2_
                                     have HB := n3_
                                     clear n0_ n1_ n2_ n3_
                                     have hHeld : w20.cell? ⟨gb117, 0, none⟩ = some (.int .i64 a0_0) ∧ w20.cell? ⟨gb117, 1, none⟩ = some (.string a0_1) ∧ w20.cell? ⟨gb117, 2, none⟩ = some (.string a0_2) ∧ w20.cell? ⟨gb117, 3, none⟩ = some (.int .i64 a0_3) ∧ w20.cell? ⟨gb117, 4, none⟩ = some (.int .i64 a0_4) := hS_
                                     refine norm_ (a' := ?_) ?_ ?_
                                     rotate_left
                                     · simp only [putAll, Act.put, lsA, lsB, lsC]
                                       rfl
                                     refine two_ (i := 9) (j := 21) (Ni := some 16) (Nj := some 28) #[true, true, true, true, true, true, true, true, true, true, false, true, true, true, false, false, true, true, true, true, true, false, false, true, true, false, true, true, false, false, false] #[true, true, true, true, true, true, true, true, true, false, false, true, true, true, false, false, true, true, true, true, true, true, false, true, true, false, true, true, false, false, false] rfl rfl rfl rfl (two_of HT_.out (by kernel_rfl)) (by decide) (by decide) (fun K hK => ?_) (fun K hK => ?_)
                                     · skip
                                       refine goes_ Tryd.func23 (by kernel_rfl) rfl #[.int .u64 (IntKind.u64.wrap (wrap64 (a0_3 + 1000000000000))), .int .i64 8] (by rfl) rfl rfl (by (try simp only [List.map_toArray, List.map_cons, List.map_nil]); first | done | rfl | (simp only [List.length_drop, List.length_take]; rfl)) ?_
                                       with_reducible refine (escutcheonref1_PutBig.calls (IntKind.u64.wrap (wrap64 (a0_3 + 1000000000000))) 8 t122 _ A4.out).mono ?_
                                       rintro e w21 ⟨rfl, hb⟩
                                       refine ⟨_, rfl, ?_⟩
                                       have n0_ := Aside0.mk (Kd.R_below (by (with_reducible repeat (first | apply Kd.R_alloc | apply Kd.R_drewN | apply Kd.R_drew)); exact HO121.out) hb)
                                       have n1_ := Aside0.mk (Kd.R_below (by (with_reducible repeat (first | apply Kd.R_alloc | apply Kd.R_drewN | apply Kd.R_drew)); exact HO126.out) hb)
                                       have n2_ := Aside0.mk (blk_below (g := gb117) (o := .cells #[.int .i64 a0_0, .string a0_1, .string a0_2, .int .i64 a0_3, .int .i64 a0_4] 23 (0, 0)) (by (with_reducible repeat (first | refine blk_drewN ?_ _ | refine blk_drew ?_ | refine blk_alloc ?_ _)); exact BK117.out) hb)
                                       have n3_ := Aside0.mk (below_step (by repeat (first | (with_reducible first | exact HB.out | apply below_alloc | apply pw_below_drewN | apply below_drew1 | refine below_set ?_ GE117.out) | exact HB.out)) hb)
                                       clear HO121
                                       clear HO126
                                       clear BK117
                                       clear HB
                                       have HO121 := n0_
                                       have HO126 := n1_
                                       have BK117 := n2_
                                       have HB := n3_
                                       clear n0_ n1_ n2_ n3_
                                       (try clear hb)
                                       (try clear hb2)
                                       (try clear hk)
                                       (try clear hi)
                                       refine hK.out _ _ (five_ BK117.out) (fun hHeld => ?_)
                                       clear hK K
                                       refine norm_ (a' := ?_) ?_ ?_
                                       rotate_left
                                       · show Act.put _ (some 16) _ = _
                                         simp only [Act.put, lsA, lsB, lsC, i64_w, i32_w]
                                         rfl
                                       refine pure_ (i := 10) (N := some 17) (v := ?_) (a' := ?_) #[true, true, true, true, true, true, true, true, true, true, true, true, true, true, false, false, true, true, true, true, true, false, false, true, true, false, true, true, false, false, false] rfl rfl (any_of HT_.out (by kernel_rfl)) (fun _ _ _ h => h) (Or.inl ⟨by rfl, ?_⟩) ?_ ?_
                                       rotate_left
                                       · intro w'
                                         go_simp
                                         with_reducible rfl
                                       rotate_left
                                       · simp only [Act.put, lsA, lsB, lsC, i64_w, i32_w]
                                         rfl
                                       exact norm_ (by first | (simp only [putAll, Act.put, lsA, lsB, lsC]; done) | (simp only [putAll, Act.put, lsA, lsB, lsC]; rfl)) (hJ3_4_9_20 (v120, v125) _ ⟨hHeld, (by (with_reducible repeat (first | apply Kd.R_alloc | apply Kd.R_drewN | apply Kd.R_drew)); exact HO121.out), (by (with_reducible repeat (first | apply Kd.R_alloc | apply Kd.R_drewN | apply Kd.R_drew)); exact HO126.out), (by (with_reducible repeat (first | refine blk_drewN ?_ _ | refine blk_drew ?_ | refine blk_alloc ?_ _)); exact BK117.out), (by repeat (first | (with_reducible first | exact HB.out | apply below_alloc | apply pw_below_drewN | apply below_drew1 | refine below_set ?_ GE117.out) | exact HB.out))⟩)
                                     · skip
                                       have hcv21 := own_string (P := Tryd.prog) Tryd.underlying35 Tryd.underlying5 Tryd.underlying9 (Kd.own_of_R HO126.out)
                                       refine value_ (w1 := ?_) (v := ?_) (by rfl) rfl ?_ ?_
                                       rotate_left 2
                                       · go_simp
                                         constructor
                                         · rfl
                                         · rfl
                                       clear hcv21
                                       refine hK.out _ _ (five_ BK117.out) (fun hHeld => ?_)
                                       clear hK K
                                       refine norm_ (a' := ?_) ?_ ?_
                                       rotate_left
                                       · show Act.put _ (some 28) _ = _
                                         simp only [Act.put, lsA, lsB, lsC, i64_w, i32_w]
                                         rfl
                                       exact norm_ (by first | (simp only [putAll, Act.put, lsA, lsB, lsC]; done) | (simp only [putAll, Act.put, lsA, lsB, lsC]; rfl)) (hJ3_4_20_21 (v120, v125) _ ⟨hHeld, (by (with_reducible repeat (first | apply Kd.R_alloc | apply Kd.R_drewN | apply Kd.R_drew)); exact HO121.out), (by (with_reducible repeat (first | apply Kd.R_alloc | apply Kd.R_drewN | apply Kd.R_drew)); exact HO126.out), (by (with_reducible repeat (first | refine blk_drewN ?_ _ | refine blk_drew ?_ | refine blk_alloc ?_ _)); exact BK117.out), (by repeat (first | (with_reducible first | exact HB.out | apply below_alloc | apply pw_below_drewN | apply below_drew1 | refine below_set ?_ GE117.out) | exact HB.out))⟩)
                                 · skip
                                   rintro v120 w19 ⟨hS_, h0_, h1_, h2_⟩
                                   have n0_ : Aside0 (Kd.R (Kd.int .u8) 5 w19 w.heap.size (fun _ => True) v120 y119) := ⟨h0_⟩
                                   have n1_ : Aside0 (w19.heap[gb117]? = some (.cells #[.int .i64 a0_0, .string a0_1, .string a0_2, .int .i64 a0_3, .int .i64 a0_4] 23 (0, 0))) := ⟨h1_⟩
                                   have n2_ : Aside0 (Below w.heap.size w w19) := ⟨h2_⟩
                                   clear BK117
                                   clear HB
                                   clear h0_ h1_ h2_
                                   have HO121 := n0_
                                   have BK117 := n1_
                                   have HB := n2_
                                   clear n0_ n1_ n2_
                                   have hHeld : w19.cell? ⟨gb117, 0, none⟩ = some (.int .i64 a0_0) ∧ w19.cell? ⟨gb117, 1, none⟩ = some (.string a0_1) ∧ w19.cell? ⟨gb117, 2, none⟩ = some (.string a0_2) ∧ w19.cell? ⟨gb117, 3, none⟩ = some (.int .i64 a0_3) ∧ w19.cell? ⟨gb117, 4, none⟩ = some (.int .i64 a0_4) := hS_
                                   refine norm_ (a' := ?_) ?_ ?_
                                   rotate_left
                                   · simp only [putAll, Act.put, lsA, lsB, lsC]
                                     rfl
                                   refine two_ (i := 14) (j := 20) (Ni := some 21) (Nj := some 27) #[true, true, true, true, true, true, true, true, true, true, true, true, true, true, true, false, true, true, true, true, false, false, false, true, true, false, true, true, false, false, false] #[true, true, true, true, true, true, true, true, true, true, true, true, true, true, false, false, true, true, true, true, true, false, false, true, true, false, true, true, false, false, false] rfl rfl rfl rfl (two_of HT_.out (by kernel_rfl)) (by decide) (by decide) (fun K hK => ?_) (fun K hK => ?_)
                                   · skip
                                     refine goes_ Tryd.func23 (by kernel_rfl) rfl #[.int .u64 (IntKind.u64.wrap (a0_4)), .int .i64 8] (by rfl) rfl rfl (by (try simp only [List.map_toArray, List.map_cons, List.map_nil]); first | done | rfl | (simp only [List.length_drop, List.length_take]; rfl)) ?_
                                     with_reducible refine (escutcheonref1_PutBig.calls (IntKind.u64.wrap (a0_4)) 8 t123 _ A6.out).mono ?_
                                     rintro e w20 ⟨rfl, hb⟩
                                     refine ⟨_, rfl, ?_⟩
                                     have n0_ := Aside0.mk (Kd.R_below (by (with_reducible repeat (first | apply Kd.R_alloc | apply Kd.R_drewN | apply Kd.R_drew)); exact HO121.out) hb)
                                     have n1_ := Aside0.mk (blk_below (g := gb117) (o := .cells #[.int .i64 a0_0, .string a0_1, .string a0_2, .int .i64 a0_3, .int .i64 a0_4] 23 (0, 0)) (by (with_reducible repeat (first | refine blk_drewN ?_ _ | refine blk_drew ?_ | refine blk_alloc ?_ _)); exact BK117.out) hb)
                                     have n2_ := Aside0.mk (below_step (by repeat (first | (with_reducible first | exact HB.out | apply below_alloc | apply pw_below_drewN | apply below_drew1 | refine below_set ?_ GE117.out) | exact HB.out)) hb)
                                     clear HO121
                                     clear BK117
                                     clear HB
                                     have HO121 := n0_
                                     have BK117 := n1_
                                     have HB := n2_
                                     clear n0_ n1_ n2_
                                     (try clear hb)
                                     (try clear hb2)
                                     (try clear hk)
                                     (try clear hi)
                                     refine hK.out _ _ (five_ BK117.out) (fun hHeld => ?_)
                                     clear hK K
                                     refine norm_ (a' := ?_) ?_ ?_
                                     rotate_left
                                     · show Act.put _ (some 21) _ = _
                                       simp only [Act.put, lsA, lsB, lsC, i64_w, i32_w]
                                       rfl
                                     refine pure_ (i := 15) (N := some 22) (v := ?_) (a' := ?_) #[true, true, true, true, true, true, true, true, true, true, true, true, true, true, true, true, true, true, true, true, false, false, false, true, true, false, true, true, false, false, false] rfl rfl (any_of HT_.out (by kernel_rfl)) (fun _ _ _ h => h) (Or.inl ⟨by rfl, ?_⟩) ?_ ?_
                                     rotate_left
                                     · intro w'
                                       go_simp
                                       with_reducible rfl
                                     rotate_left
                                     · simp only [Act.put, lsA, lsB, lsC, i64_w, i32_w]
                                       rfl
                                     exact norm_ (by first | (simp only [putAll, Act.put, lsA, lsB, lsC]; done) | (simp only [putAll, Act.put, lsA, lsB, lsC]; rfl)) (hJ3_4_9_14 (v120) _ ⟨hHeld, (by (with_reducible repeat (first | apply Kd.R_alloc | apply Kd.R_drewN | apply Kd.R_drew)); exact HO121.out), (by (with_reducible repeat (first | refine blk_drewN ?_ _ | refine blk_drew ?_ | refine blk_alloc ?_ _)); exact BK117.out), (by repeat (first | (with_reducible first | exact HB.out | apply below_alloc | apply pw_below_drewN | apply below_drew1 | refine below_set ?_ GE117.out) | exact HB.out))⟩)
                                   · skip
                                     refine Kd.R_lit_step (Kd.int .u8) _ 5 ?hg (N := 27) ?hd (xs := ([((a0_1.size : Int)) % 256] : List Int)) (inner := [.int .u8 (((a0_1.size : Int)) % 256)]) (ok := fun _ => True) (okp := fun _ => True) ?hr ?hp (fun _ hk => hk) trivial (Below.refl _ _) (Nat.le_refl _) (by simp) ?_; (case hd => rfl); (case hg => rfl); (case hr => first | (go_simp; done) | (go_simp; rfl)); (case hp => exact (Reps.one (show Kd.M (Kd.int .u8) _ _ _ (((a0_1.size : Int)) % 256) [.int .u8 (((a0_1.size : Int)) % 256)] from rfl) (Reps.none _ _)))
                                     intro v125 w20 ho21 hb hg_ hnew_
                                     clear hg_ hnew_
                                     (first | rw [← Ny124.out] at ho21 | (simp only [Int.reduceToNat] at ho21; rw [← Ny124.out] at ho21))
                                     have n0_ := Aside0.mk (Kd.R_elder' (by (with_reducible repeat (first | apply Kd.R_alloc | apply Kd.R_drewN | apply Kd.R_drew)); exact HO121.out) (Kd.R_base ho21) hb)
                                     have n1_ := Aside0.mk (Kd.R_lower (Kd.R_new' ho21 (Kd.R_lt (by (with_reducible repeat (first | apply Kd.R_alloc | apply Kd.R_drewN | apply Kd.R_drew)); exact HO121.out))) (below_size (by repeat (first | (with_reducible first | exact HB.out | apply below_alloc | apply pw_below_drewN | apply below_drew1 | refine below_set ?_ GE117.out) | exact HB.out))))
                                     have n2_ := Aside0.mk (blk_below (g := gb117) (o := .cells #[.int .i64 a0_0, .string a0_1, .string a0_2, .int .i64 a0_3, .int .i64 a0_4] 23 (0, 0)) (by (with_reducible repeat (first | refine blk_drewN ?_ _ | refine blk_drew ?_ | refine blk_alloc ?_ _)); exact BK117.out) hb)
                                     have n3_ := Aside0.mk (below_step (by repeat (first | (with_reducible first | exact HB.out | apply below_alloc | apply pw_below_drewN | apply below_drew1 | refine below_set ?_ GE117.out) | exact HB.out)) hb)
                                     clear HO121
                                     clear BK117
                                     clear HB
                                     have HO121 := n0_
                                     have HO126 := n1_
                                     have BK117 := n2_
                                     have HB := n3_
                                     clear n0_ n1_ n2_ n3_
                                     clear hb ho21
                                     refine hK.out _ _ (five_ BK117.out) (fun hHeld => ?_)
                                     clear hK K
                                     refine norm_ (a' := ?_) ?_ ?_
                                     rotate_left
                                     · show Act.put _ (some 27) _ = _
                                       simp only [Act.put, lsA, lsB, lsC, i64_w, i32_w]
                                       rfl
                                     exact norm_ (by first | (simp only [putAll, Act.put, lsA, lsB, lsC]; done) | (simp only [putAll, Act.put, lsA, lsB, lsC]; rfl)) (hJ3_4_9_20 (v120, v125) _ ⟨hHeld, (by (with_reducible repeat (first | apply Kd.R_alloc | apply Kd.R_drewN | apply Kd.R_drew)); exact Kd.R_mono HO121.out (fun _ hk => hk.2)), (by (with_reducible repeat (first | apply Kd.R_alloc | apply Kd.R_drewN | apply Kd.R_drew)); exact Kd.R_mono HO126.out (fun _ hk => hk.2)), (by (with_reducible repeat (first | refine blk_drewN ?_ _ | refine blk_drew ?_ | refine blk_alloc ?_ _)); exact BK117.out), (by repeat (first | (with_reducible first | exact HB.out | apply below_alloc | apply pw_below_drewN | apply below_drew1 | refine below_set ?_ GE117.out) | exact HB.out))⟩)
                               · skip
                                 rintro v125 w20 ⟨hS_, h0_, h1_, h2_⟩
                                 have n0_ : Aside0 (Kd.R (Kd.int .u8) 5 w20 w.heap.size (fun _ => True) v125 y124) := ⟨h0_⟩
                                 have n1_ : Aside0 (w20.heap[gb117]? = some (.cells #[.int .i64 a0_0, .string a0_1, .string a0_2, .int .i64 a0_3, .int .i64 a0_4] 23 (0, 0))) := ⟨h1_⟩
                                 have n2_ : Aside0 (Below w.heap.size w w20) := ⟨h2_⟩
                                 clear BK117
                                 clear HB
                                 clear h0_ h1_ h2_
                                 have HO126 := n0_
                                 have BK117 := n1_
                                 have HB := n2_
                                 clear n0_ n1_ n2_
                                 have hHeld : w20.cell? ⟨gb117, 0, none⟩ = some (.int .i64 a0_0) ∧ w20.cell? ⟨gb117, 1, none⟩ = some (.string a0_1) ∧ w20.cell? ⟨gb117, 2, none⟩ = some (.string a0_2) ∧ w20.cell? ⟨gb117, 3, none⟩ = some (.int .i64 a0_3) ∧ w20.cell? ⟨gb117, 4, none⟩ = some (.int .i64 a0_4) := hS_
                                 refine norm_ (a' := ?_) ?_ ?_
                                 rotate_left
                                 · simp only [putAll, Act.put, lsA, lsB, lsC]
                                   rfl
                                 refine one_ (i := 3) (N := some 10) #[true, true, true, true, false, true, true, true, true, true, false, true, true, true, true, false, true, true, true, true, true, true, false, true, true, false, true, true, false, false, false] rfl rfl (one_of HT_.out (by kernel_rfl)) (by decide) (fun K hK => ?_)
                                 refine Kd.R_lit_step (Kd.int .u8) _ 5 ?hg (N := 10) ?hd (xs := ([(a0_0) % 256] : List Int)) (inner := [.int .u8 ((a0_0) % 256)]) (ok := fun _ => True) (okp := fun _ => True) ?hr ?hp (fun _ hk => hk) trivial (Below.refl _ _) (Nat.le_refl _) (by simp) ?_; (case hd => rfl); (case hg => rfl); (case hr => first | (go_simp; done) | (go_simp; rfl)); (case hp => exact (Reps.one (show Kd.M (Kd.int .u8) _ _ _ ((a0_0) % 256) [.int .u8 ((a0_0) % 256)] from rfl) (Reps.none _ _)))
                                 intro v120 w21 ho22 hb hg_ hnew_
                                 clear hg_ hnew_
                                 (first | rw [← Ny119.out] at ho22 | (simp only [Int.reduceToNat] at ho22; rw [← Ny119.out] at ho22))
                                 have n0_ := Aside0.mk (Kd.R_elder' (by (with_reducible repeat (first | apply Kd.R_alloc | apply Kd.R_drewN | apply Kd.R_drew)); exact HO126.out) (Kd.R_base ho22) hb)
                                 have n1_ := Aside0.mk (Kd.R_lower (Kd.R_new' ho22 (Kd.R_lt (by (with_reducible repeat (first | apply Kd.R_alloc | apply Kd.R_drewN | apply Kd.R_drew)); exact HO126.out))) (below_size (by repeat (first | (with_reducible first | exact HB.out | apply below_alloc | apply pw_below_drewN | apply below_drew1 | refine below_set ?_ GE117.out) | exact HB.out))))
                                 have n2_ := Aside0.mk (blk_below (g := gb117) (o := .cells #[.int .i64 a0_0, .string a0_1, .string a0_2, .int .i64 a0_3, .int .i64 a0_4] 23 (0, 0)) (by (with_reducible repeat (first | refine blk_drewN ?_ _ | refine blk_drew ?_ | refine blk_alloc ?_ _)); exact BK117.out) hb)
                                 have n3_ := Aside0.mk (below_step (by repeat (first | (with_reducible first | exact HB.out | apply below_alloc | apply pw_below_drewN | apply below_drew1 | refine below_set ?_ GE117.out) | exact HB.out)) hb)
                                 clear HO126
                                 clear BK117
                                 clear HB
                                 have HO126 := n0_
                                 have HO121 := n1_
                                 have BK117 := n2_
                                 have HB := n3_
                                 clear n0_ n1_ n2_ n3_
                                 clear hb ho22
                                 refine hK.out _ _ (five_ BK117.out) (fun hHeld => ?_)
                                 clear hK K
                                 refine norm_ (a' := ?_) ?_ ?_
                                 rotate_left
                                 · show Act.put _ (some 10) _ = _
                                   simp only [Act.put, lsA, lsB, lsC, i64_w, i32_w]
                                   rfl
                                 exact norm_ (by first | (simp only [putAll, Act.put, lsA, lsB, lsC]; done) | (simp only [putAll, Act.put, lsA, lsB, lsC]; rfl)) (hJ3_9_14_20_21 (v120, v125) _ ⟨hHeld, (by (with_reducible repeat (first | apply Kd.R_alloc | apply Kd.R_drewN | apply Kd.R_drew)); exact Kd.R_mono HO121.out (fun _ hk => hk.2)), (by (with_reducible repeat (first | apply Kd.R_alloc | apply Kd.R_drewN | apply Kd.R_drew)); exact Kd.R_mono HO126.out (fun _ hk => hk.2)), (by (with_reducible repeat (first | refine blk_drewN ?_ _ | refine blk_drew ?_ | refine blk_alloc ?_ _)); exact BK117.out), (by repeat (first | (with_reducible first | exact HB.out | apply below_alloc | apply pw_below_drewN | apply below_drew1 | refine below_set ?_ GE117.out) | exact HB.out))⟩)
                             · skip
                               rintro ⟨v120, v125⟩ w21 ⟨hS_, h0_, h1_, h2_, h3_⟩
                               have n0_ : Aside0 (Kd.R (Kd.int .u8) 5 w21 w.heap.size (fun k_ => some k_ ≠ (v125 : Value).ownBlock) v120 y119) := ⟨h0_⟩
                               have n1_ : Aside0 (Kd.R (Kd.int .u8) 5 w21 w.heap.size (fun k_ => some k_ ≠ (v120 : Value).ownBlock) v125 y124) := ⟨h1_⟩
                               have n2_ : Aside0 (w21.heap[gb117]? = some (.cells #[.int .i64 a0_0, .string a0_1, .string a0_2, .int .i64 a0_3, .int .i64 a0_4] 23 (0, 0))) := ⟨h2_⟩
                               have n3_ : Aside0 (Below w.heap.size w w21) := ⟨h3_⟩
                               clear BK117
                               clear HB
                               clear h0_ h1_ h2_ h3_
                               have HO121 := n0_
                               have HO126 := n1_
                               have BK117 := n2_
                               have HB := n3_
                               clear n0_ n1_ n2_ n3_
                               have hHeld : w21.cell? ⟨gb117, 0, none⟩ = some (.int .i64 a0_0) ∧ w21.cell? ⟨gb117, 1, none⟩ = some (.string a0_1) ∧ w21.cell? ⟨gb117, 2, none⟩ = some (.string a0_2) ∧ w21.cell? ⟨gb117, 3, none⟩ = some (.int .i64 a0_3) ∧ w21.cell? ⟨gb117, 4, none⟩ = some (.int .i64 a0_4) := hS_
                               refine norm_ (a' := ?_) ?_ ?_
                               rotate_left
                               · simp only [putAll, Act.put, lsA, lsB, lsC]
                                 rfl
                               refine two_ (i := 4) (j := 14) (Ni := some 11) (Nj := some 21) #[true, true, true, true, true, true, true, true, true, true, false, true, true, true, false, false, true, true, true, true, true, true, false, true, true, false, true, true, false, false, false] #[true, true, true, true, false, true, true, true, true, true, false, true, true, true, true, false, true, true, true, true, true, true, false, true, true, false, true, true, false, false, false] rfl rfl rfl rfl (two_of HT_.out (by kernel_rfl)) (by decide) (by decide) (fun K hK => ?_) (fun K hK => ?_)
                               · skip
                                 have hcv22 := own_string (P := Tryd.prog) Tryd.underlying35 Tryd.underlying5 Tryd.underlying9 (Kd.own_of_R HO121.out)
                                 refine value_ (w1 := ?_) (v := ?_) (by rfl) rfl ?_ ?_
                                 rotate_left 2
                                 · go_simp
                                   constructor
                                   · rfl
                                   · rfl
                                 clear hcv22
                                 refine hK.out _ _ (five_ BK117.out) (fun hHeld => ?_)
                                 clear hK K
                                 refine norm_ (a' := ?_) ?_ ?_
                                 rotate_left
                                 · show Act.put _ (some 11) _ = _
                                   simp only [Act.put, lsA, lsB, lsC, i64_w, i32_w]
                                   rfl
                                 refine pure_ (i := 10) (N := some 17) (v := ?_) (a' := ?_) #[true, true, true, true, true, true, true, true, true, true, true, true, true, true, false, false, true, true, true, true, true, true, false, true, true, false, true, true, false, false, false] rfl rfl (any_of HT_.out (by kernel_rfl)) (fun _ _ _ h => h) (Or.inl ⟨by rfl, ?_⟩) ?_ ?_
                                 rotate_left
                                 · intro w'
                                   go_simp
                                   with_reducible rfl
                                 rotate_left
                                 · simp only [Act.put, lsA, lsB, lsC, i64_w, i32_w]
                                   rfl
                                 exact norm_ (by first | (simp only [putAll, Act.put, lsA, lsB, lsC]; done) | (simp only [putAll, Act.put, lsA, lsB, lsC]; rfl)) (hJ3_4_9_20_21 (v120, v125) _ ⟨hHeld, (by (with_reducible repeat (first | apply Kd.R_alloc | apply Kd.R_drewN | apply Kd.R_drew)); exact HO121.out), (by (with_reducible repeat (first | apply Kd.R_alloc | apply Kd.R_drewN | apply Kd.R_drew)); exact HO126.out), (by (with_reducible repeat (first | refine blk_drewN ?_ _ | refine blk_drew ?_ | refine blk_alloc ?_ _)); exact BK117.out), (by repeat (first | (with_reducible first | exact HB.out | apply below_alloc | apply pw_below_drewN | apply below_drew1 | refine below_set ?_ GE117.out) | exact HB.out))⟩)
                               · skip
                                 refine goes_ Tryd.func23 (by kernel_rfl) rfl #[.int .u64 (IntKind.u64.wrap (a0_4)), .int .i64 8] (by rfl) rfl rfl (by (try simp only [List.map_toArray, List.map_cons, List.map_nil]); first | done | rfl | (simp only [List.length_drop, List.length_take]; rfl)) ?_
                                 with_reducible refine (escutcheonref1_PutBig.calls (IntKind.u64.wrap (a0_4)) 8 t123 _ A6.out).mono ?_
                                 rintro e w22 ⟨rfl, hb⟩
                                 refine ⟨_, rfl, ?_⟩
                                 have n0_ := Aside0.mk (Kd.R_below (by (with_reducible repeat (first | apply Kd.R_alloc | apply Kd.R_drewN | apply Kd.R_drew)); exact HO121.out) hb)
                                 have n1_ := Aside0.mk (Kd.R_below (by (with_reducible repeat (first | apply Kd.R_alloc | apply Kd.R_drewN | apply Kd.R_drew)); exact HO126.out) hb)
                                 have n2_ := Aside0.mk (blk_below (g := gb117) (o := .cells #[.int .i64 a0_0, .string a0_1, .string a0_2, .int .i64 a0_3, .int .i64 a0_4] 23 (0, 0)) (by (with_reducible repeat (first | refine blk_drewN ?_ _ | refine blk_drew ?_ | refine blk_alloc ?_ _)); exact BK117.out) hb)
                                 have n3_ := Aside0.mk (below_step (by repeat (first | (with_reducible first | exact HB.out | apply below_alloc | apply pw_below_drewN | apply below_drew1 | refine below_set ?_ GE117.out) | exact HB.out)) hb)
                                 clear HO121
                                 clear HO126
                                 clear BK117
                                 clear HB
                                 have HO121 := n0_
                                 have HO126 := n1_
                                 have BK117 := n2_
                                 have HB := n3_
                                 clear n0_ n1_ n2_ n3_
                                 (try clear hb)
                                 (try clear hb2)
                                 (try clear hk)
                                 (try clear hi)
                                 refine hK.out _ _ (five_ BK117.out) (fun hHeld => ?_)
                                 clear hK K
                                 refine norm_ (a' := ?_) ?_ ?_
                                 rotate_left
                                 · show Act.put _ (some 21) _ = _
                                   simp only [Act.put, lsA, lsB, lsC, i64_w, i32_w]
                                   rfl
                                 exact norm_ (by first | (simp only [putAll, Act.put, lsA, lsB, lsC]; done) | (simp only [putAll, Act.put, lsA, lsB, lsC]; rfl)) (hJ3_9_14_20_21 (v120, v125) _ ⟨hHeld, (by (with_reducible repeat (first | apply Kd.R_alloc | apply Kd.R_drewN | apply Kd.R_drew)); exact HO121.out), (by (with_reducible repeat (first | apply Kd.R_alloc | apply Kd.R_drewN | apply Kd.R_drew)); exact HO126.out), (by (with_reducible repeat (first | refine blk_drewN ?_ _ | refine blk_drew ?_ | refine blk_alloc ?_ _)); exact BK117.out), (by repeat (first | (with_reducible first | exact HB.out | apply below_alloc | apply pw_below_drewN | apply below_drew1 | refine below_set ?_ GE117.out) | exact HB.out))⟩)
                           · skip
                             rintro ⟨v120, v125⟩ w21 ⟨hS_, h0_, h1_, h2_, h3_⟩
                             have n0_ : Aside0 (Kd.R (Kd.int .u8) 5 w21 w.heap.size (fun k_ => some k_ ≠ (v125 : Value).ownBlock) v120 y119) := ⟨h0_⟩
                             have n1_ : Aside0 (Kd.R (Kd.int .u8) 5 w21 w.heap.size (fun k_ => some k_ ≠ (v120 : Value).ownBlock) v125 y124) := ⟨h1_⟩
                             have n2_ : Aside0 (w21.heap[gb117]? = some (.cells #[.int .i64 a0_0, .string a0_1, .string a0_2, .int .i64 a0_3, .int .i64 a0_4] 23 (0, 0))) := ⟨h2_⟩
                             have n3_ : Aside0 (Below w.heap.size w w21) := ⟨h3_⟩
                             clear BK117
                             clear HB
                             clear h0_ h1_ h2_ h3_
                             have HO121 := n0_
                             have HO126 := n1_
                             have BK117 := n2_
                             have HB := n3_
                             clear n0_ n1_ n2_ n3_
                             have hHeld : w21.cell? ⟨gb117, 0, none⟩ = some (.int .i64 a0_0) ∧ w21.cell? ⟨gb117, 1, none⟩ = some (.string a0_1) ∧ w21.cell? ⟨gb117, 2, none⟩ = some (.string a0_2) ∧ w21.cell? ⟨gb117, 3, none⟩ = some (.int .i64 a0_3) ∧ w21.cell? ⟨gb117, 4, none⟩ = some (.int .i64 a0_4) := hS_
                             refine norm_ (a' := ?_) ?_ ?_
                             rotate_left
                             · simp only [putAll, Act.put, lsA, lsB, lsC]
                               rfl
                             refine two_ (i := 4) (j := 21) (Ni := some 11) (Nj := some 28) #[true, true, true, true, true, true, true, true, true, true, false, true, true, true, true, false, true, true, true, true, true, false, false, true, true, false, true, true, false, false, false] #[true, true, true, true, false, true, true, true, true, true, false, true, true, true, true, false, true, true, true, true, true, true, false, true, true, false, true, true, false, false, false] rfl rfl rfl rfl (two_of HT_.out (by kernel_rfl)) (by decide) (by decide) (fun K hK => ?_) (fun K hK => ?_)
                             · skip
                               have hcv22 := own_string (P := Tryd.prog) Tryd.underlying35 Tryd.underlying5 Tryd.underlying9 (Kd.own_of_R HO121.out)
                               refine value_ (w1 := ?_) (v := ?_) (by rfl) rfl ?_ ?_
                               rotate_left 2
                               · go_simp
                                 constructor
                                 · rfl
                                 · rfl
                               clear hcv22
                               refine hK.out _ _ (five_ BK117.out) (fun hHeld => ?_)
                               clear hK K
                               refine norm_ (a' := ?_) ?_ ?_
                               rotate_left
                               · show Act.put _ (some 11) _ = _
                                 simp only [Act.put, lsA, lsB, lsC, i64_w, i32_w]
                                 rfl
                               refine pure_ (i := 10) (N := some 17) (v := ?_) (a' := ?_) #[true, true, true, true, true, true, true, true, true, true, true, true, true, true, true, false, true, true, true, true, true, false, false, true, true, false, true, true, false, false, false] rfl rfl (any_of HT_.out (by kernel_rfl)) (fun _ _ _ h => h) (Or.inl ⟨by rfl, ?_⟩) ?_ ?_
                               rotate_left
                               · intro w'
                                 go_simp
                                 with_reducible rfl
                               rotate_left
                               · simp only [Act.put, lsA, lsB, lsC, i64_w, i32_w]
                                 rfl
                               refine pure_ (i := 15) (N := some 22) (v := ?_) (a' := ?_) #[true, true, true, true, true, true, true, true, true, true, true, true, true, true, true, true, true, true, true, true, true, false, false, true, true, false, true, true, false, false, false] rfl rfl (any_of HT_.out (by kernel_rfl)) (fun _ _ _ h => h) (Or.inl ⟨by rfl, ?_⟩) ?_ ?_
                               rotate_left
                               · intro w'
                                 go_simp
                                 with_reducible rfl
                               rotate_left
                               · simp only [Act.put, lsA, lsB, lsC, i64_w, i32_w]
                                 rfl
                               exact norm_ (by first | (simp only [putAll, Act.put, lsA, lsB, lsC]; done) | (simp only [putAll, Act.put, lsA, lsB, lsC]; rfl)) (hJ3_4_9_14_20 (v120, v125) _ ⟨hHeld, (by (with_reducible repeat (first | apply Kd.R_alloc | apply Kd.R_drewN | apply Kd.R_drew)); exact HO121.out), (by (with_reducible repeat (first | apply Kd.R_alloc | apply Kd.R_drewN | apply Kd.R_drew)); exact HO126.out), (by (with_reducible repeat (first | refine blk_drewN ?_ _ | refine blk_drew ?_ | refine blk_alloc ?_ _)); exact BK117.out), (by repeat (first | (with_reducible first | exact HB.out | apply below_alloc | apply pw_below_drewN | apply below_drew1 | refine below_set ?_ GE117.out) | exact HB.out))⟩)
                             · skip
                               have hcv22 := own_string (P := Tryd.prog) Tryd.underlying35 Tryd.underlying5 Tryd.underlying9 (Kd.own_of_R HO126.out)
                               refine value_ (w1 := ?_) (v := ?_) (by rfl) rfl ?_ ?_
                               rotate_left 2
                               · go_simp
                                 constructor
                                 · rfl
                                 · rfl
                               clear hcv22
                               refine hK.out _ _ (five_ BK117.out) (fun hHeld => ?_)
                               clear hK K
                               refine norm_ (a' := ?_) ?_ ?_
                               rotate_left
                               · show Act.put _ (some 28) _ = _
                                 simp only [Act.put, lsA, lsB, lsC, i64_w, i32_w]
                                 rfl
                               exact norm_ (by first | (simp only [putAll, Act.put, lsA, lsB, lsC]; done) | (simp only [putAll, Act.put, lsA, lsB, lsC]; rfl)) (hJ3_9_14_20_21 (v120, v125) _ ⟨hHeld, (by (with_reducible repeat (first | apply Kd.R_alloc | apply Kd.R_drewN | apply Kd.R_drew)); exact HO121.out), (by (with_reducible repeat (first | apply Kd.R_alloc | apply Kd.R_drewN | apply Kd.R_drew)); exact HO126.out), (by (with_reducible repeat (first | refine blk_drewN ?_ _ | refine blk_drew ?_ | refine blk_alloc ?_ _)); exact BK117.out), (by repeat (first | (with_reducible first | exact HB.out | apply below_alloc | apply pw_below_drewN | apply below_drew1 | refine below_set ?_ GE117.out) | exact HB.out))⟩)
                         · skip
                           rintro ⟨v120, v125⟩ w21 ⟨hS_, h0_, h1_, h2_, h3_⟩
                           have n0_ : Aside0 (Kd.R (Kd.int .u8) 5 w21 w.heap.size (fun k_ => some k_ ≠ (v125 : Value).ownBlock) v120 y119) := ⟨h0_⟩
                           have n1_ : Aside0 (Kd.R (Kd.int .u8) 5 w21 w.heap.size (fun k_ => some k_ ≠ (v120 : Value).ownBlock) v125 y124) := ⟨h1_⟩
                           have n2_ : Aside0 (w21.heap[gb117]? = some (.cells #[.int .i64 a0_0, .string a0_1, .string a0_2, .int .i64 a0_3, .int .i64 a0_4] 23 (0, 0))) := ⟨h2_⟩
                           have n3_ : Aside0 (Below w.heap.size w w21) := ⟨h3_⟩
                           clear BK117
                           clear HB
                           clear h0_ h1_ h2_ h3_
                           have HO121 := n0_
                           have HO126 := n1_
                           have BK117 := n2_
                           have HB := n3_
                           clear n0_ n1_ n2_ n3_
                           have hHeld : w21.cell? ⟨gb117, 0, none⟩ = some (.int .i64 a0_0) ∧ w21.cell? ⟨gb117, 1, none⟩ = some (.string a0_1) ∧ w21.cell? ⟨gb117, 2, none⟩ = some (.string a0_2) ∧ w21.cell? ⟨gb117, 3, none⟩ = some (.int .i64 a0_3) ∧ w21.cell? ⟨gb117, 4, none⟩ = some (.int .i64 a0_4) := hS_
                           refine norm_ (a' := ?_) ?_ ?_
                           rotate_left
                           · simp only [putAll, Act.put, lsA, lsB, lsC]
                             rfl
                           refine one_ (i := 9) (N := some 16) #[true, true, true, true, true, true, true, true, true, true, false, true, true, true, false, false, true, true, true, true, true, true, false, true, true, false, true, true, false, false, false] rfl rfl (one_of HT_.out (by kernel_rfl)) (by decide) (fun K hK => ?_)
                           refine goes_ Tryd.func23 (by kernel_rfl) rfl #[.int .u64 (IntKind.u64.wrap (wrap64 (a0_3 + 1000000000000))), .int .i64 8] (by rfl) rfl rfl (by (try simp only [List.map_toArray, List.map_cons, List.map_nil]); first | done | rfl | (simp only [List.length_drop, List.length_take]; rfl)) ?_
                           with_reducible refine (escutcheonref1_PutBig.calls (IntKind.u64.wrap (wrap64 (a0_3 + 1000000000000))) 8 t122 _ A4.out).mono ?_
                           rintro e w22 ⟨rfl, hb⟩
                           refine ⟨_, rfl, ?_⟩
                           have n0_ := Aside0.mk (Kd.R_below (by (with_reducible repeat (first | apply Kd.R_alloc | apply Kd.R_drewN | apply Kd.R_drew)); exact HO121.out) hb)
                           have n1_ := Aside0.mk (Kd.R_below (by (with_reducible repeat (first | apply Kd.R_alloc | apply Kd.R_drewN | apply Kd.R_drew)); exact HO126.out) hb)
                           have n2_ := Aside0.mk (blk_below (g := gb117) (o := .cells #[.int .i64 a0_0, .string a0_1, .string a0_2, .int .i64 a0_3, .int .i64 a0_4] 23 (0, 0)) (by (with_reducible repeat (first | refine blk_drewN ?_ _ | refine blk_drew ?_ | refine blk_alloc ?_ _)); exact BK117.out) hb)
                           have n3_ := Aside0.mk (below_step (by repeat (first | (with_reducible first | exact HB.out | apply below_alloc | apply pw_below_drewN | apply below_drew1 | refine below_set ?_ GE117.out) | exact HB.out)) hb)
                           clear HO121
                           clear HO126
                           clear BK117
                           clear HB
                           have HO121 := n0_
                           have HO126 := n1_
                           have BK117 := n2_
                           have HB := n3_
                           clear n0_ n1_ n2_ n3_
                           (try clear hb)
                           (try clear hb2)
                           (try clear hk)
                           (try clear hi)
                           refine hK.out _ _ (five_ BK117.out) (fun hHeld => ?_)
                           clear hK K
                           refine norm_ (a' := ?_) ?_ ?_
                           rotate_left
                           · show Act.put _ (some 16) _ = _
                             simp only [Act.put, lsA, lsB, lsC, i64_w, i32_w]
                             rfl
                           refine pure_ (i := 10) (N := some 17) (v := ?_) (a' := ?_) #[true, true, true, true, true, true, true, true, true, true, true, true, true, true, false, false, true, true, true, true, true, true, false, true, true, false, true, true, false, false, false] rfl rfl (any_of HT_.out (by kernel_rfl)) (fun _ _ _ h => h) (Or.inl ⟨by rfl, ?_⟩) ?_ ?_
                           rotate_left
                           · intro w'
                             go_simp
                             with_reducible rfl
                           rotate_left
                           · simp only [Act.put, lsA, lsB, lsC, i64_w, i32_w]
                             rfl
                           exact norm_ (by first | (simp only [putAll, Act.put, lsA, lsB, lsC]; done) | (simp only [putAll, Act.put, lsA, lsB, lsC]; rfl)) (hJ3_4_9_20_21 (v120, v125) _ ⟨hHeld, (by (with_reducible repeat (first | apply Kd.R_alloc | apply Kd.R_drewN | apply Kd.R_drew)); exact HO121.out), (by (with_reducible repeat (first | apply Kd.R_alloc | apply Kd.R_drewN | apply Kd.R_drew)); exact HO126.out), (by (with_reducible repeat (first | refine blk_drewN ?_ _ | refine blk_drew ?_ | refine blk_alloc ?_ _)); exact BK117.out), (by repeat (first | (with_reducible first | exact HB.out | apply below_alloc | apply pw_below_drewN | apply below_drew1 | refine below_set ?_ GE117.out) | exact HB.out))⟩)
                       · skip
                         rintro ⟨v120, v125⟩ w21 ⟨hS_, h0_, h1_, h2_, h3_⟩
                         have n0_ : Aside0 (Kd.R (Kd.int .u8) 5 w21 w.heap.size (fun k_ => some k_ ≠ (v125 : Value).ownBlock) v120 y119) := ⟨h0_⟩
                         have n1_ : Aside0 (Kd.R (Kd.int .u8) 5 w21 w.heap.size (fun k_ => some k_ ≠ (v120 : Value).ownBlock) v125 y124) := ⟨h1_⟩
                         have n2_ : Aside0 (w21.heap[gb117]? = some (.cells #[.int .i64 a0_0, .string a0_1, .string a0_2, .int .i64 a0_3, .int .i64 a0_4] 23 (0, 0))) := ⟨h2_⟩
                         have n3_ : Aside0 (Below w.heap.size w w21) := ⟨h3_⟩
                         clear BK117
                         clear HB
                         clear h0_ h1_ h2_ h3_
                         have HO121 := n0_
                         have HO126 := n1_
                         have BK117 := n2_
                         have HB := n3_
                         clear n0_ n1_ n2_ n3_
                         have hHeld : w21.cell? ⟨gb117, 0, none⟩ = some (.int .i64 a0_0) ∧ w21.cell? ⟨gb117, 1, none⟩ = some (.string a0_1) ∧ w21.cell? ⟨gb117, 2, none⟩ = some (.string a0_2) ∧ w21.cell? ⟨gb117, 3, none⟩ = some (.int .i64 a0_3) ∧ w21.cell? ⟨gb117, 4, none⟩ = some (.int .i64 a0_4) := hS_
                         refine norm_ (a' := ?_) ?_ ?_
                         rotate_left
                         · simp only [putAll, Act.put, lsA, lsB, lsC]
                           rfl
                         refine two_ (i := 14) (j := 21) (Ni := some 21) (Nj := some 28) #[true, true, true, true, true, true, true, true, true, true, true, true, true, true, true, false, true, true, true, true, true, false, false, true, true, false, true, true, false, false, false] #[true, true, true, true, true, true, true, true, true, true, true, true, true, true, false, false, true, true, true, true, true, true, false, true, true, false, true, true, false, false, false] rfl rfl rfl rfl (two_of HT_.out (by kernel_rfl)) (by decide) (by decide) (fun K hK => ?_) (fun K hK => ?_)
                         · skip
                           refine goes_ Tryd.func23 (by kernel_rfl) rfl #[.int .u64 (IntKind.u64.wrap (a0_4)), .int .i64 8] (by rfl) rfl rfl (by (try simp only [List.map_toArray, List.map_cons, List.map_nil]); first | done | rfl | (simp only [List.length_drop, List.length_take]; rfl)) ?_
                           with_reducible refine (escutcheonref1_PutBig.calls (IntKind.u64.wrap (a0_4)) 8 t123 _ A6.out).mono ?_
                           rintro e w22 ⟨rfl, hb⟩
                           refine ⟨_, rfl, ?_⟩
                           have n0_ := Aside0.mk (Kd.R_below (by (with_reducible repeat (first | apply Kd.R_alloc | apply Kd.R_drewN | apply Kd.R_drew)); exact HO121.out) hb)
                           have n1_ := Aside0.mk (Kd.R_below (by (with_reducible repeat (first | apply Kd.R_alloc | apply Kd.R_drewN | apply Kd.R_drew)); exact HO126.out) hb)
                           have n2_ := Aside0.mk (blk_below (g := gb117) (o := .cells #[.int .i64 a0_0, .string a0_1, .string a0_2, .int .i64 a0_3, .int .i64 a0_4] 23 (0, 0)) (by (with_reducible repeat (first | refine blk_drewN ?_ _ | refine blk_drew ?_ | refine blk_alloc ?_ _)); exact BK117.out) hb)
                           have n3_ := Aside0.mk (below_step (by repeat (first | (with_reducible first | exact HB.out | apply below_alloc | apply pw_below_drewN | apply below_drew1 | refine below_set ?_ GE117.out) | exact HB.out)) hb)
                           clear HO121
                           clear HO126
                           clear BK117
                           clear HB
                           have HO121 := n0_
                           have HO126 := n1_
                           have BK117 := n2_
                           have HB := n3_
                           clear n0_ n1_ n2_ n3_
                           (try clear hb)
                           (try clear hb2)
                           (try clear hk)
                           (try clear hi)
                           refine hK.out _ _ (five_ BK117.out) (fun hHeld => ?_)
                           clear hK K
                           refine norm_ (a' := ?_) ?_ ?_
                           rotate_left
                           · show Act.put _ (some 21) _ = _
                             simp only [Act.put, lsA, lsB, lsC, i64_w, i32_w]
                             rfl
                           refine pure_ (i := 15) (N := some 22) (v := ?_) (a' := ?_) #[true, true, true, true, true, true, true, true, true, true, true, true, true, true, true, true, true, true, true, true, true, false, false, true, true, false, true, true, false, false, false] rfl rfl (any_of HT_.out (by kernel_rfl)) (fun _ _ _ h => h) (Or.inl ⟨by rfl, ?_⟩) ?_ ?_
                           rotate_left
                           · intro w'
                             go_simp
                             with_reducible rfl
                           rotate_left
                           · simp only [Act.put, lsA, lsB, lsC, i64_w, i32_w]
                             rfl
                           exact norm_ (by first | (simp only [putAll, Act.put, lsA, lsB, lsC]; done) | (simp only [putAll, Act.put, lsA, lsB, lsC]; rfl)) (hJ3_4_9_14_20 (v120, v125) _ ⟨hHeld, (by (with_reducible repeat (first | apply Kd.R_alloc | apply Kd.R_drewN | apply Kd.R_drew)); exact HO121.out), (by (with_reducible repeat (first | apply Kd.R_alloc | apply Kd.R_drewN | apply Kd.R_drew)); exact HO126.out), (by (with_reducible repeat (first | refine blk_drewN ?_ _ | refine blk_drew ?_ | refine blk_alloc ?_ _)); exact BK117.out), (by repeat (first | (with_reducible first | exact HB.out | apply below_alloc | apply pw_below_drewN | apply below_drew1 | refine below_set ?_ GE117.out) | exact HB.out))⟩)
                         · skip
                           have hcv22 := own_string (P := Tryd.prog) Tryd.underlying35 Tryd.underlying5 Tryd.underlying9 (Kd.own_of_R HO126.out)
                           refine value_ (w1 := ?_) (v := ?_) (by rfl) rfl ?_ ?_
                           rotate_left 2
                           · go_simp
                             constructor
                             · rfl
                             · rfl
                           clear hcv22
                           refine hK.out _ _ (five_ BK117.out) (fun hHeld => ?_)
                           clear hK K
                           refine norm_ (a' := ?_) ?_ ?_
                           rotate_left
                           · show Act.put _ (some 28) _ = _
                             simp only [Act.put, lsA, lsB, lsC, i64_w, i32_w]
                             rfl
                           exact norm_ (by first | (simp only [putAll, Act.put, lsA, lsB, lsC]; done) | (simp only [putAll, Act.put, lsA, lsB, lsC]; rfl)) (hJ3_4_9_20_21 (v120, v125) _ ⟨hHeld, (by (with_reducible repeat (first | apply Kd.R_alloc | apply Kd.R_drewN | apply Kd.R_drew)); exact HO121.out), (by (with_reducible repeat (first | apply Kd.R_alloc | apply Kd.R_drewN | apply Kd.R_drew)); exact HO126.out), (by (with_reducible repeat (first | refine blk_drewN ?_ _ | refine blk_drew ?_ | refine blk_alloc ?_ _)); exact BK117.out), (by repeat (first | (with_reducible first | exact HB.out | apply below_alloc | apply pw_below_drewN | apply below_drew1 | refine below_set ?_ GE117.out) | exact HB.out))⟩)
                     · skip
                       rintro v120 w20 ⟨hS_, h0_, h1_, h2_⟩
                       have n0_ : Aside0 (Kd.R (Kd.int .u8) 5 w20 w.heap.size (fun _ => True) v120 y119) := ⟨h0_⟩
                       have n1_ : Aside0 (w20.heap[gb117]? = some (.cells #[.int .i64 a0_0, .string a0_1, .string a0_2, .int .i64 a0_3, .int .i64 a0_4] 23 (0, 0))) := ⟨h1_⟩
                       have n2_ : Aside0 (Below w.heap.size w w20) := ⟨h2_⟩
                       clear BK117
                       clear HB
                       clear h0_ h1_ h2_
                       have HO121 := n0_
                       have BK117 := n1_
                       have HB := n2_
                       clear n0_ n1_ n2_
                       have hHeld : w20.cell? ⟨gb117, 0, none⟩ = some (.int .i64 a0_0) ∧ w20.cell? ⟨gb117, 1, none⟩ = some (.string a0_1) ∧ w20.cell? ⟨gb117, 2, none⟩ = some (.string a0_2) ∧ w20.cell? ⟨gb117, 3, none⟩ = some (.int .i64 a0_3) ∧ w20.cell? ⟨gb117, 4, none⟩ = some (.int .i64 a0_4) := hS_
                       refine norm_ (a' := ?_) ?_ ?_
                       rotate_left
                       · simp only [putAll, Act.put, lsA, lsB, lsC]
                         rfl
                       refine one_ (i := 20) (N := some 27) #[true, true, true, true, true, true, true, true, true, true, true, true, true, true, true, true, true, true, true, true, true, false, false, true, true, false, true, true, false, false, false] rfl rfl (one_of HT_.out (by kernel_rfl)) (by decide) (fun K hK => ?_)
                       refine Kd.R_lit_step (Kd.int .u8) _ 5 ?hg (N := 27) ?hd (xs := ([((a0_1.size : Int)) % 256] : List Int)) (inner := [.int .u8 (((a0_1.size : Int)) % 256)]) (ok := fun _ => True) (okp := fun _ => True) ?hr ?hp (fun _ hk => hk) trivial (Below.refl _ _) (Nat.le_refl _) (by simp) ?_; (case hd => rfl); (case hg => rfl); (case hr => first | (go_simp; done) | (go_simp; rfl)); (case hp => exact (Reps.one (show Kd.M (Kd.int .u8) _ _ _ (((a0_1.size : Int)) % 256) [.int .u8 (((a0_1.size : Int)) % 256)] from rfl) (Reps.none _ _)))
                       intro v125 w21 ho22 hb hg_ hnew_
                       clear hg_ hnew_
                       (first | rw [← Ny124.out] at ho22 | (simp only [Int.reduceToNat] at ho22; rw [← Ny124.out] at ho22))
                       have n0_ := Aside0.mk (Kd.R_elder' (by (with_reducible repeat (first | apply Kd.R_alloc | apply Kd.R_drewN | apply Kd.R_drew)); exact HO121.out) (Kd.R_base ho22) hb)
                       have n1_ := Aside0.mk (Kd.R_lower (Kd.R_new' ho22 (Kd.R_lt (by (with_reducible repeat (first | apply Kd.R_alloc | apply Kd.R_drewN | apply Kd.R_drew)); exact HO121.out))) (below_size (by repeat (first | (with_reducible first | exact HB.out | apply below_alloc | apply pw_below_drewN | apply below_drew1 | refine below_set ?_ GE117.out) | exact HB.out))))
                       have n2_ := Aside0.mk (blk_below (g := gb117) (o := .cells #[.int .i64 a0_0, .string a0_1, .string a0_2, .int .i64 a0_3, .int .i64 a0_4] 23 (0, 0)) (by (with_reducible repeat (first | refine blk_drewN ?_ _ | refine blk_drew ?_ | refine blk_alloc ?_ _)); exact BK117.out) hb)
                       have n3_ := Aside0.mk (below_step (by repeat (first | (with_reducible first | exact HB.out | apply below_alloc | apply pw_below_drewN | apply below_drew1 | refine below_set ?_ GE117.out) | exact HB.out)) hb)
                       clear HO121
                       clear BK117
                       clear HB
                       have HO121 := n0_
                       have HO126 := n1_
                       have BK117 := n2_
                       have HB := n3_
                       clear n0_ n1_ n2_ n3_
                       clear hb ho22
                       refine hK.out _ _ (five_ BK117.out) (fun hHeld => ?_)
                       clear hK K
                       refine norm_ (a' := ?_) ?_ ?_
                       rotate_left
                       · show Act.put _ (some 27) _ = _
                         simp only [Act.put, lsA, lsB, lsC, i64_w, i32_w]
                         rfl
                       exact norm_ (by first | (simp only [putAll, Act.put, lsA, lsB, lsC]; done) | (simp only [putAll, Act.put, lsA, lsB, lsC]; rfl)) (hJ3_4_9_14_20 (v120, v125) _ ⟨hHeld, (by (with_reducible repeat (first | apply Kd.R_alloc | apply Kd.R_drewN | apply Kd.R_drew)); exact Kd.R_mono HO121.out (fun _ hk => hk.2)), (by (with_reducible repeat (first | apply Kd.R_alloc | apply Kd.R_drewN | apply Kd.R_drew)); exact Kd.R_mono HO126.out (fun _ hk => hk.2)), (by (with_reducible repeat (first | refine blk_drewN ?_ _ | refine blk_drew ?_ | refine blk_alloc ?_ _)); exact BK117.out), (by repeat (first | (with_reducible first | exact HB.out | apply below_alloc | apply pw_below_drewN | apply below_drew1 | refine below_set ?_ GE117.out) | exact HB.out))⟩)
                   · skip
                     rintro ⟨v120, v125⟩ w22 ⟨hS_, h0_, h1_, h2_, h3_⟩
                     have n0_ : Aside0 (Kd.R (Kd.int .u8) 5 w22 w.heap.size (fun k_ => some k_ ≠ (v125 : Value).ownBlock) v120 y119) := ⟨h0_⟩
                     have n1_ : Aside0 (Kd.R (Kd.int .u8) 5 w22 w.heap.size (fun k_ => some k_ ≠ (v120 : Value).ownBlock) v125 y124) := ⟨h1_⟩
                     have n2_ : Aside0 (w22.heap[gb117]? = some (.cells #[.int .i64 a0_0, .string a0_1, .string a0_2, .int .i64 a0_3, .int .i64 a0_4] 23 (0, 0))) := ⟨h2_⟩
                     have n3_ : Aside0 (Below w.heap.size w w22) := ⟨h3_⟩
                     clear BK117
                     clear HB
                     clear h0_ h1_ h2_ h3_
                     have HO121 := n0_
                     have HO126 := n1_
                     have BK117 := n2_
                     have HB := n3_
                     clear n0_ n1_ n2_ n3_
                     have hHeld : w22.cell? ⟨gb117, 0, none⟩ = some (.int .i64 a0_0) ∧ w22.cell? ⟨gb117, 1, none⟩ = some (.string a0_1) ∧ w22.cell? ⟨gb117, 2, none⟩ = some (.string a0_2) ∧ w22.cell? ⟨gb117, 3, none⟩ = some (.int .i64 a0_3) ∧ w22.cell? ⟨gb117, 4, none⟩ = some (.int .i64 a0_4) := hS_
                     refine norm_ (a' := ?_) ?_ ?_
                     rotate_left
                     · simp only [putAll, Act.put, lsA, lsB, lsC]
                       rfl
                     refine one_ (i := 4) (N := some 11) #[true, true, true, true, true, true, true, true, true, true, false, true, true, true, true, false, true, true, true, true, true, true, false, true, true, false, true, true, false, false, false] rfl rfl (one_of HT_.out (by kernel_rfl)) (by decide) (fun K hK => ?_)
                     have hcv23 := own_string (P := Tryd.prog) Tryd.underlying35 Tryd.underlying5 Tryd.underlying9 (Kd.own_of_R HO121.out)
                     refine value_ (w1 := ?_) (v := ?_) (by rfl) rfl ?_ ?_
                     rotate_left 2
                     · go_simp
                       constructor
                       · rfl
                       · rfl
                     clear hcv23
                     refine hK.out _ _ (five_ BK117.out) (fun hHeld => ?_)
                     clear hK K
                     refine norm_ (a' := ?_) ?_ ?_
                     rotate_left
                     · show Act.put _ (some 11) _ = _
                       simp only [Act.put, lsA, lsB, lsC, i64_w, i32_w]
                       rfl
                     refine pure_ (i := 10) (N := some 17) (v := ?_) (a' := ?_) #[true, true, true, true, true, true, true, true, true, true, true, true, true, true, true, false, true, true, true, true, true, true, false, true, true, false, true, true, false, false, false] rfl rfl (any_of HT_.out (by kernel_rfl)) (fun _ _ _ h => h) (Or.inl ⟨by rfl, ?_⟩) ?_ ?_
                     rotate_left
                     · intro w'
                       go_simp
                       with_reducible rfl
                     rotate_left
                     · simp only [Act.put, lsA, lsB, lsC, i64_w, i32_w]
                       rfl
                     refine pure_ (i := 15) (N := some 22) (v := ?_) (a' := ?_) #[true, true, true, true, true, true, true, true, true, true, true, true, true, true, true, true, true, true, true, true, true, true, false, true, true, false, true, true, false, false, false] rfl rfl (any_of HT_.out (by kernel_rfl)) (fun _ _ _ h => h) (Or.inl ⟨by rfl, ?_⟩) ?_ ?_
                     rotate_left
                     · intro w'
                       go_simp
                       with_reducible rfl
                     rotate_left
                     · simp only [Act.put, lsA, lsB, lsC, i64_w, i32_w]
                       rfl
                     exact norm_ (by first | (simp only [putAll, Act.put, lsA, lsB, lsC]; done) | (simp only [putAll, Act.put, lsA, lsB, lsC]; rfl)) (hJ3_4_9_14_20_21 (v120, v125) _ ⟨hHeld, (by (with_reducible repeat (first | apply Kd.R_alloc | apply Kd.R_drewN | apply Kd.R_drew)); exact HO121.out), (by (with_reducible repeat (first | apply Kd.R_alloc | apply Kd.R_drewN | apply Kd.R_drew)); exact HO126.out), (by (with_reducible repeat (first | refine blk_drewN ?_ _ | refine blk_drew ?_ | refine blk_alloc ?_ _)); exact BK117.out), (by repeat (first | (with_reducible first | exact HB.out | apply below_alloc | apply pw_below_drewN | apply below_drew1 | refine below_set ?_ GE117.out) | exact HB.out))⟩)
                 · skip
                   rintro ⟨v120, v125⟩ w22 ⟨hS_, h0_, h1_, h2_, h3_⟩
                   have n0_ : Aside0 (Kd.R (Kd.int .u8) 5 w22 w.heap.size (fun k_ => some k_ ≠ (v125 : Value).ownBlock) v120 y119) := ⟨h0_⟩
                   have n1_ : Aside0 (Kd.R (Kd.int .u8) 5 w22 w.heap.size (fun k_ => some k_ ≠ (v120 : Value).ownBlock) v125 y124) := ⟨h1_⟩
                   have n2_ : Aside0 (w22.heap[gb117]? = some (.cells #[.int .i64 a0_0, .string a0_1, .string a0_2, .int .i64 a0_3, .int .i64 a0_4] 23 (0, 0))) := ⟨h2_⟩
                   have n3_ : Aside0 (Below w.heap.size w w22) := ⟨h3_⟩
                   clear BK117
                   clear HB
                   clear h0_ h1_ h2_ h3_
                   have HO121 := n0_
                   have HO126 := n1_
                   have BK117 := n2_
                   have HB := n3_
                   clear n0_ n1_ n2_ n3_
                   have hHeld : w22.cell? ⟨gb117, 0, none⟩ = some (.int .i64 a0_0) ∧ w22.cell? ⟨gb117, 1, none⟩ = some (.string a0_1) ∧ w22.cell? ⟨gb117, 2, none⟩ = some (.string a0_2) ∧ w22.cell? ⟨gb117, 3, none⟩ = some (.int .i64 a0_3) ∧ w22.cell? ⟨gb117, 4, none⟩ = some (.int .i64 a0_4) := hS_
                   refine norm_ (a' := ?_) ?_ ?_
                   rotate_left
                   · simp only [putAll, Act.put, lsA, lsB, lsC]
                     rfl
                   refine one_ (i := 14) (N := some 21) #[true, true, true, true, true, true, true, true, true, true, true, true, true, true, true, false, true, true, true, true, true, true, false, true, true, false, true, true, false, false, false] rfl rfl (one_of HT_.out (by kernel_rfl)) (by decide) (fun K hK => ?_)
                   refine goes_ Tryd.func23 (by kernel_rfl) rfl #[.int .u64 (IntKind.u64.wrap (a0_4)), .int .i64 8] (by rfl) rfl rfl (by (try simp only [List.map_toArray, List.map_cons, List.map_nil]); first | done | rfl | (simp only [List.length_drop, List.length_take]; rfl)) ?_
                   with_reducible refine (escutcheonref1_PutBig.calls (IntKind.u64.wrap (a0_4)) 8 t123 _ A6.out).mono ?_
                   rintro e w23 ⟨rfl, hb⟩
                   refine ⟨_, rfl, ?_⟩
                   have n0_ := Aside0.mk (Kd.R_below (by (with_reducible repeat (first | apply Kd.R_alloc | apply Kd.R_drewN | apply Kd.R_drew)); exact HO121.out) hb)
                   have n1_ := Aside0.mk (Kd.R_below (by (with_reducible repeat (first | apply Kd.R_alloc | apply Kd.R_drewN | apply Kd.R_drew)); exact HO126.out) hb)
                   have n2_ := Aside0.mk (blk_below (g := gb117) (o := .cells #[.int .i64 a0_0, .string a0_1, .string a0_2, .int .i64 a0_3, .int .i64 a0_4] 23 (0, 0)) (by (with_reducible repeat (first | refine blk_drewN ?_ _ | refine blk_drew ?_ | refine blk_alloc ?_ _)); exact BK117.out) hb)
                   have n3_ := Aside0.mk (below_step (by repeat (first | (with_reducible first | exact HB.out | apply below_alloc | apply pw_below_drewN | apply below_drew1 | refine below_set ?_ GE117.out) | exact HB.out)) hb)
                   clear HO121
                   clear HO126
                   clear BK117
                   clear HB
                   have HO121 := n0_
                   have HO126 := n1_
                   have BK117 := n2_
                   have HB := n3_
                   clear n0_ n1_ n2_ n3_
                   (try clear hb)
                   (try clear hb2)
                   (try clear hk)
                   (try clear hi)
                   refine hK.out _ _ (five_ BK117.out) (fun hHeld => ?_)
                   clear hK K
                   refine norm_ (a' := ?_) ?_ ?_
                   rotate_left
                   · show Act.put _ (some 21) _ = _
                     simp only [Act.put, lsA, lsB, lsC, i64_w, i32_w]
                     rfl
                   refine pure_ (i := 15) (N := some 22) (v := ?_) (a' := ?_) #[true, true, true, true, true, true, true, true, true, true, true, true, true, true, true, true, true, true, true, true, true, true, false, true, true, false, true, true, false, false, false] rfl rfl (any_of HT_.out (by kernel_rfl)) (fun _ _ _ h => h) (Or.inl ⟨by rfl, ?_⟩) ?_ ?_
                   rotate_left
                   · intro w'
                     go_simp
                     with_reducible rfl
                   rotate_left
                   · simp only [Act.put, lsA, lsB, lsC, i64_w, i32_w]
                     rfl
                   exact norm_ (by first | (simp only [putAll, Act.put, lsA, lsB, lsC]; done) | (simp only [putAll, Act.put, lsA, lsB, lsC]; rfl)) (hJ3_4_9_14_20_21 (v120, v125) _ ⟨hHeld, (by (with_reducible repeat (first | apply Kd.R_alloc | apply Kd.R_drewN | apply Kd.R_drew)); exact HO121.out), (by (with_reducible repeat (first | apply Kd.R_alloc | apply Kd.R_drewN | apply Kd.R_drew)); exact HO126.out), (by (with_reducible repeat (first | refine blk_drewN ?_ _ | refine blk_drew ?_ | refine blk_alloc ?_ _)); exact BK117.out), (by repeat (first | (with_reducible first | exact HB.out | apply below_alloc | apply pw_below_drewN | apply below_drew1 | refine below_set ?_ GE117.out) | exact HB.out))⟩)
               · skip
                 rintro ⟨v120, v125⟩ w22 ⟨hS_, h0_, h1_, h2_, h3_⟩
                 have n0_ : Aside0 (Kd.R (Kd.int .u8) 5 w22 w.heap.size (fun k_ => some k_ ≠ (v125 : Value).ownBlock) v120 y119) := ⟨h0_⟩
                 have n1_ : Aside0 (Kd.R (Kd.int .u8) 5 w22 w.heap.size (fun k_ => some k_ ≠ (v120 : Value).ownBlock) v125 y124) := ⟨h1_⟩
                 have n2_ : Aside0 (w22.heap[gb117]? = some (.cells #[.int .i64 a0_0, .string a0_1, .string a0_2, .int .i64 a0_3, .int .i64 a0_4] 23 (0, 0))) := ⟨h2_⟩
                 have n3_ : Aside0 (Below w.heap.size w w22) := ⟨h3_⟩
                 clear BK117
                 clear HB
                 clear h0_ h1_ h2_ h3_
                 have HO121 := n0_
                 have HO126 := n1_
                 have BK117 := n2_
                 have HB := n3_
                 clear n0_ n1_ n2_ n3_
                 have hHeld : w22.cell? ⟨gb117, 0, none⟩ = some (.int .i64 a0_0) ∧ w22.cell? ⟨gb117, 1, none⟩ = some (.string a0_1) ∧ w22.cell? ⟨gb117, 2, none⟩ = some (.string a0_2) ∧ w22.cell? ⟨gb117, 3, none⟩ = some (.int .i64 a0_3) ∧ w22.cell? ⟨gb117, 4, none⟩ = some (.int .i64 a0_4) := hS_
                 refine norm_ (a' := ?_) ?_ ?_
                 rotate_left
                 · simp only [putAll, Act.put, lsA, lsB, lsC]
                   rfl
                 refine one_ (i := 21) (N := some 28) #[true, true, true, true, true, true, true, true, true, true, true, true, true, true, true, true, true, true, true, true, true, true, false, true, true, false, true, true, false, false, false] rfl rfl (one_of HT_.out (by kernel_rfl)) (by decide) (fun K hK => ?_)
                 have hcv23 := own_string (P := Tryd.prog) Tryd.underlying35 Tryd.underlying5 Tryd.underlying9 (Kd.own_of_R HO126.out)
                 refine value_ (w1 := ?_) (v := ?_) (by rfl) rfl ?_ ?_
                 rotate_left 2
                 · go_simp
                   constructor
                   · rfl
                   · rfl
                 clear hcv23
                 refine hK.out _ _ (five_ BK117.out) (fun hHeld => ?_)
                 clear hK K
                 refine norm_ (a' := ?_) ?_ ?_
                 rotate_left
                 · show Act.put _ (some 28) _ = _
                   simp only [Act.put, lsA, lsB, lsC, i64_w, i32_w]
                   rfl
                 exact norm_ (by first | (simp only [putAll, Act.put, lsA, lsB, lsC]; done) | (simp only [putAll, Act.put, lsA, lsB, lsC]; rfl)) (hJ3_4_9_14_20_21 (v120, v125) _ ⟨hHeld, (by (with_reducible repeat (first | apply Kd.R_alloc | apply Kd.R_drewN | apply Kd.R_drew)); exact HO121.out), (by (with_reducible repeat (first | apply Kd.R_alloc | apply Kd.R_drewN | apply Kd.R_drew)); exact HO126.out), (by (with_reducible repeat (first | refine blk_drewN ?_ _ | refine blk_drew ?_ | refine blk_alloc ?_ _)); exact BK117.out), (by repeat (first | (with_reducible first | exact HB.out | apply below_alloc | apply pw_below_drewN | apply below_drew1 | refine below_set ?_ GE117.out) | exact HB.out))⟩)
             rintro ⟨v120, v125⟩ w23 ⟨hS_, h0_, h1_, h2_, h3_⟩
             have n0_ : Aside0 (Kd.R (Kd.int .u8) 5 w23 w.heap.size (fun k_ => some k_ ≠ (v125 : Value).ownBlock) v120 y119) := ⟨h0_⟩
             have n1_ : Aside0 (Kd.R (Kd.int .u8) 5 w23 w.heap.size (fun k_ => some k_ ≠ (v120 : Value).ownBlock) v125 y124) := ⟨h1_⟩
             have n2_ : Aside0 (w23.heap[gb117]? = some (.cells #[.int .i64 a0_0, .string a0_1, .string a0_2, .int .i64 a0_3, .int .i64 a0_4] 23 (0, 0))) := ⟨h2_⟩
             have n3_ : Aside0 (Below w.heap.size w w23) := ⟨h3_⟩
             clear BK117
             clear HB
             clear h0_ h1_ h2_ h3_
             have HO121 := n0_
             have HO126 := n1_
             have BK117 := n2_
             have HB := n3_
             clear n0_ n1_ n2_ n3_
             have hHeld : w23.cell? ⟨gb117, 0, none⟩ = some (.int .i64 a0_0) ∧ w23.cell? ⟨gb117, 1, none⟩ = some (.string a0_1) ∧ w23.cell? ⟨gb117, 2, none⟩ = some (.string a0_2) ∧ w23.cell? ⟨gb117, 3, none⟩ = some (.int .i64 a0_3) ∧ w23.cell? ⟨gb117, 4, none⟩ = some (.int .i64 a0_4) := hS_
             refine norm_ (a' := ?_) ?_ ?_
             rotate_left
             · simp only [putAll, Act.put, lsA, lsB, lsC]
               rfl
             refine pure_ (i := 22) (N := some 29) (v := ?_) (a' := ?_) #[true, true, true, true, true, true, true, true, true, true, true, true, true, true, true, true, true, true, true, true, true, true, true, true, true, false, true, true, false, false, false] rfl rfl (any_of HT_.out (by kernel_rfl)) (fun _ _ _ h => h) (Or.inl ⟨by rfl, ?_⟩) ?_ ?_
             rotate_left
             · intro w'
               go_simp
               with_reducible rfl
             rotate_left
             · simp only [Act.put, lsA, lsB, lsC, i64_w, i32_w]
               rfl
             refine pure_ (i := 25) (N := some 32) (v := ?_) (a' := ?_) #[true, true, true, true, true, true, true, true, true, true, true, true, true, true, true, true, true, true, true, true, true, true, true, true, true, true, true, true, false, false, false] rfl rfl (any_of HT_.out (by kernel_rfl)) (fun _ _ _ h => h) (Or.inl ⟨by rfl, ?_⟩) ?_ ?_
             rotate_left
             · intro w'
               go_simp
               with_reducible rfl
             rotate_left
             · simp only [Act.put, lsA, lsB, lsC, i64_w, i32_w]
               rfl
             refine pure_ (i := 28) (N := some 35) (v := ?_) (a' := ?_) #[true, true, true, true, true, true, true, true, true, true, true, true, true, true, true, true, true, true, true, true, true, true, true, true, true, true, true, true, true, false, false] rfl rfl (any_of HT_.out (by kernel_rfl)) (fun _ _ _ h => h) (Or.inl ⟨by rfl, ?_⟩) ?_ ?_
             rotate_left
             · intro w'
               go_simp
               with_reducible rfl
             rotate_left
             · simp only [Act.put, lsA, lsB, lsC, i64_w, i32_w]
               rfl
             refine pure_ (i := 29) (N := some 2) (v := ?_) (a' := ?_) #[true, true, true, true, true, true, true, true, true, true, true, true, true, true, true, true, true, true, true, true, true, true, true, true, true, true, true, true, true, true, false] rfl rfl (any_of HT_.out (by kernel_rfl)) (fun _ _ _ h => h) (Or.inl ⟨by rfl, ?_⟩) ?_ ?_
             rotate_left
             · intro w'
               go_simp
               with_reducible rfl
             rotate_left
             · simp only [Act.put, lsA, lsB, lsC, i64_w, i32_w]
               rfl
             refine pure_ (i := 30) (N := some 3) (v := ?_) (a' := ?_) #[true, true, true, true, true, true, true, true, true, true, true, true, true, true, true, true, true, true, true, true, true, true, true, true, true, true, true, true, true, true, true] rfl rfl (any_of HT_.out (by kernel_rfl)) (fun _ _ _ h => h) (Or.inl ⟨by rfl, ?_⟩) ?_ ?_
             rotate_left
             · intro w'
               go_simp
               with_reducible rfl
             rotate_left
             · simp only [Act.put, lsA, lsB, lsC, i64_w, i32_w]
               rfl
             refine done_ (done_of HT_.out (by kernel_rfl)) ?_
             try go_wp2
             go_ret2
             exact ⟨by first | rfl | (simp [errW_none, errW_some] <;> rfl) | (simp [*, errW_none, errW_some] <;> rfl), by repeat (first | (with_reducible first | exact HB.out | apply below_alloc | apply pw_below_drewN | apply below_drew1 | refine below_set ?_ GE117.out) | exact HB.out)⟩
           · rw [if_neg c10] at H
             exact absurd H (by simp)
         · rw [if_neg c9] at H
           exact absurd H (by simp)
       · rw [if_neg c8] at H
         exact absurd H (by simp)
     · rw [if_neg c7] at H
       exact absurd H (by simp)
   · rw [if_neg c5] at H
     exact absurd H (by simp)
 · replace c3 := Bool.eq_false_iff.mpr c3
   subst c3
   have H1 : (some ((⟨#[]⟩ : ByteArray), false)) = some (r1, r2) := by rw [if_neg (show ¬ (false = true) by decide)] at H; exact H
   clear H
   have H := H1
   clear H1
   simp only [Option.some.injEq, Prod.mk.injEq] at H
   obtain ⟨rfl, rfl⟩ := H
   go_enter Tryd.func11, Tryd.ntmps11
   go_wp2_with (first | ((with_reducible refine gate_dst (N := 1) rfl ?_); refine box_event ?hg (N := 1) ?hd (cs := #[.int .i64 a0_0, .string a0_1, .string a0_2, .int .i64 a0_3, .int .i64 a0_4]) (t := 23) ?hr ?_; (case hd => rfl); (case hg => rfl); (case hr => first | (go_simp; done) | (go_simp; rfl)); intro gb117 hg w24 hbox hb; have n0_ := Aside0.mk (below_step (by repeat (first | (with_reducible first | exact HB.out | apply below_alloc | apply pw_below_drewN | apply below_drew1) | exact HB.out)) hb); have n1_ := Aside0.mk (hbox); have n2_ := Aside0.mk ((by rw [hg]; exact (below_size (by repeat (first | (with_reducible first | exact HB.out | apply below_alloc | apply pw_below_drewN | apply below_drew1) | exact HB.out))) : w.heap.size ≤ gb117)); have n3_ := Aside0.mk ((by rw [hg]; exact (below_size (by repeat (first | (with_reducible first | exact HB.out | apply below_alloc | apply pw_below_drewN | apply below_drew1) | exact HB.out))) : w.heap.size ≤ gb117)); clear HB; have HB := n0_; have BK117 := n1_; have GW117 := n2_; have GE117 := n3_; clear n0_ n1_ n2_ n3_; clear hb hbox hg; have hcz25_0 : w24.cell? ⟨gb117, 0, none⟩ = some (.int .i64 a0_0) := (blk_cell BK117.out 0).trans rfl; have hcz25_1 : w24.cell? ⟨gb117, 1, none⟩ = some (.string a0_1) := (blk_cell BK117.out 1).trans rfl; have hcz25_2 : w24.cell? ⟨gb117, 2, none⟩ = some (.string a0_2) := (blk_cell BK117.out 2).trans rfl; have hcz25_3 : w24.cell? ⟨gb117, 3, none⟩ = some (.int .i64 a0_3) := (blk_cell BK117.out 3).trans rfl; have hcz25_4 : w24.cell? ⟨gb117, 4, none⟩ = some (.int .i64 a0_4) := (blk_cell BK117.out 4).trans rfl; have hfz25_0 := blk_frozen BK117.out 0; have hfz25_1 := blk_frozen BK117.out 1; have hfz25_2 := blk_frozen BK117.out 2; have hfz25_3 := blk_frozen BK117.out 3; have hfz25_4 := blk_frozen BK117.out 4) | ((with_reducible refine gate_callee (f := 15) rfl ?_); refine goesL_ (some 5) rfl rfl Tryd.func15 (by kernel_rfl) rfl #[.agg #[.int .i64 a0_0, .string a0_1, .string a0_2, .int .i64 a0_3, .int .i64 a0_4]] rfl (by (try simp only [List.map_toArray, List.map_cons, List.map_nil]); first | done | rfl | (simp only [List.length_drop, List.length_take]; rfl)) ?_; (with_reducible refine (escutcheonref1_Command.calls a0_0 a0_1 a0_2 a0_3 a0_4 false _ A2.out).mono ?_); rintro e w26 ⟨rfl, hb⟩; refine ⟨_, rfl, ?_⟩; have n0_ := Aside0.mk (blk_below (g := gb117) (o := .cells #[.int .i64 a0_0, .string a0_1, .string a0_2, .int .i64 a0_3, .int .i64 a0_4] 23 (0, 0)) (by (with_reducible repeat (first | refine blk_drewN ?_ _ | refine blk_drew ?_ | refine blk_alloc ?_ _)); exact BK117.out) hb); have n1_ := Aside0.mk (below_step (by repeat (first | (with_reducible first | exact HB.out | apply below_alloc | apply pw_below_drewN | apply below_drew1 | refine below_set ?_ GE117.out) | exact HB.out)) hb); clear BK117; clear HB; have BK117 := n0_; have HB := n1_; clear n0_ n1_; (try clear hb); (try clear hb2); (try clear hk); (try clear hi)))
   go_ret2
   exact ⟨by first | rfl | (simp [errW_none, errW_some] <;> rfl) | (simp [*, errW_none, errW_some] <;> rfl), by repeat (first | (with_reducible first | exact HB.out | apply below_alloc | apply pw_below_drewN | apply below_drew1 | refine below_set ?_ GE117.out) | exact HB.out)⟩

end Go.Proofs.YtbfdaclekjgkfaaDoor.Pr
