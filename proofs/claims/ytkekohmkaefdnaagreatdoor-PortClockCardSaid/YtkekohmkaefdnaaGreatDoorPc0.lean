import Derived.Test.YtkekohmkaefdnaaGreatDoorPb0
import Derived.Test.YtkekohmkaefdnaaGreatDoorPb1
import Derived.Test.YtkekohmkaefdnaaGreatDoorPb2
import Derived.Test.YtkekohmkaefdnaaGreatDoorProg
import Derived.Below
import Derived.Deep.Draws
import Derived.Deep.AppendLies
import Derived.Maps.AppendAt
import Derived.OwnWalk
import Derived.Laws.BytesArg
import Derived.Laws.MakeOwn
import Derived.Laws.OwnMore
import Derived.Deep.OwnRows
import Derived.Tactics
import Derived.Lib.ConvBytes
import Derived.Laws.Slices
import Derived.WalkKit
import Derived.KernelRfl
import Derived.RowKit3
import Derived.Deep.LoopGhost
import Derived.Deep.QuietTactic
import Derived.BigQuiet
import Derived.WideLaws
import Derived.Deep.DeepCutAuto
import Derived.Deep.CutBlock
import Derived.Deep.RegionHeld3
import Derived.Laws.Rows
import Derived.Lib.AppendStr
import Derived.ArgAppend
import Derived.Laws.IdiomCopy
import Derived.OrdersHeld
import Derived.Laws.BitsLemmas
import Derived.RowKit
import Derived.Test.YtkekohmkaefdnaaGreatDoorWWords
import Derived.Test.YtkekohmkaefdnaaGreatDoorWLast
import Derived.Test.YtkekohmkaefdnaaGreatDoorWTab
import Derived.Test.YtkekohmkaefdnaaGreatDoorWEqStruct
import Derived.Test.YtkekohmkaefdnaaGreatDoorWRepsOne
import Derived.Test.YtkekohmkaefdnaaGreatDoorWGuard
import Derived.Test.YtkekohmkaefdnaaGreatDoorWMore
set_option linter.unusedSimpArgs false
set_option linter.unusedVariables false
set_option maxHeartbeats 8000000
set_option maxRecDepth 100000
namespace Go.Proofs.YtkekohmkaefdnaaGreatDoor.Pb
open Go.Proofs.YtkekohmkaefdnaaGreatDoor.Pa
open Go.RowKit Go.Proofs.YtkekohmkaefdnaaGreatDoorW.PrintWords Go.Proofs.YtkekohmkaefdnaaGreatDoorW.PrintLast Go.Proofs.YtkekohmkaefdnaaGreatDoorW.PrintMore
attribute [local go_sem] max2_int min2_int max_two min_two max_three min_three max_four min_four
/-! ### hello_put: function 193 -/
def hello_put.f (a0 : Int) (a1 : ByteArray) (a2 : Int) (a3 : Int) : Option (ByteArray × Bool):=if (a1.size : Int) < a2 then (some ((⟨#[]⟩ : ByteArray),false)) else (if (a1.size : Int) > a3 then (some ((⟨#[]⟩ : ByteArray),false)) else ((some (([(a0) % 256] : List Int) : List Int)).bind fun y141=>(if (strOfNums y141).size + a1.size ≤ 9223372036854775807 then (some ((strOfNums y141) ++ a1,true)) else (none))))
theorem hello_put.calls (a0 : Int) (a1 : ByteArray) (a2 : Int) (a3 : Int) (r1 : ByteArray) (r2 : Bool) (w : World) (h : hello_put.f a0 a1 a2 a3=some (r1,r2)) :
  Calls Tryz.prog 193 #[.int .i64 a0,.string a1,.int .i64 a2,.int .i64 a3] w fun e w'=>e=.returned (.tuple #[.string r1,.bool r2])∧Below w.heap.size w w':=by
 have HB:=Aside0.mk (Below.refl w.heap.size w)
 have H : (if (a1.size : Int) < a2 then (some ((⟨#[]⟩ : ByteArray),false)) else (if (a1.size : Int) > a3 then (some ((⟨#[]⟩ : ByteArray),false)) else ((some (([(a0) % 256] : List Int) : List Int)).bind fun y141=>(if (strOfNums y141).size + a1.size ≤ 9223372036854775807 then (some ((strOfNums y141) ++ a1,true)) else (none)))))=some (r1,r2):=h
 clear h
 by_cases c5 : (a1.size : Int) < a2
 ·rw [if_pos c5] at H
  have c5b0 : decide ((a1.size : Int) < a2)=true:=decide_eq_true c5
  clear c5
  simp only [Option.some.injEq,Prod.mk.injEq] at H
  obtain ⟨rfl,rfl⟩:=H
  go_enter Tryz.func193,Tryz.ntmps193
  go_wp2
  go_ret2
  exact ⟨q3_,q1_⟩
 ·rw [if_neg c5] at H
  have c5b0 : decide ((a1.size : Int) < a2)=false:=decide_eq_false c5
  clear c5
  by_cases c6 : (a1.size : Int) > a3
  ·rw [if_pos c6] at H
   have c6b0 : decide (a3 < (a1.size : Int))=true:=decide_eq_true c6
   clear c6
   simp only [Option.some.injEq,Prod.mk.injEq] at H
   obtain ⟨rfl,rfl⟩:=H
   go_enter Tryz.func193,Tryz.ntmps193
   go_wp2
   go_ret2
   exact ⟨q3_,q1_⟩
  ·rw [if_neg c6] at H
   have c6b0 : decide (a3 < (a1.size : Int))=false:=decide_eq_false c6
   clear c6
   obtain ⟨y141,hy141⟩ : ∃ y_ : List Int,y_=(([(a0) % 256] : List Int)):=⟨_,rfl⟩
   replace H : (if (strOfNums y141).size + a1.size ≤ 9223372036854775807 then (some ((strOfNums y141) ++ a1,true)) else (none))=some (r1,r2):=by first | (rw [hy141];with_reducible exact H) | (have H2_:=(Option.bind_some _ _).symm.trans H;rw [hy141];with_reducible exact H2_) | (have H2_:=(Option.bind_some _ _).symm.trans H;with_reducible exact H2_) | with_reducible exact H | (rw [hy141];exact H) | exact H
   have Ny141:=Aside0.mk hy141
   clear hy141
   by_cases c7 : (strOfNums y141).size + a1.size ≤ 9223372036854775807
   ·rw [if_pos c7] at H
    have c7b0:=eq_true c7
    have c7b1 : decide ((strOfNums y141).size + a1.size ≤ 9223372036854775807)=true:=decide_eq_true c7
    try have c7b2 : (9223372036854775807 < (strOfNums y141).size + a1.size)=False:=eq_false (Nat.not_lt.2 c7)
    simp only [Option.some.injEq,Prod.mk.injEq] at H
    obtain ⟨rfl,rfl⟩:=H
    go_enter Tryz.func193,Tryz.ntmps193
    go_wp2_with (first | ((with_reducible refine gate_dst (N:=22) rfl ?_);(try (refine gate_guard (by rfl) ?_;dsimp only));refine Kd.R_lit (Kd.int .u8) _ 5 ?hg (N:=22) ?hd (xs:=([(a0) % 256] : List Int)) (inner:=[.int .u8 ((a0) % 256)]) (ok:=fun _=>True) (okp:=fun _=>True) ?hr ?hp (fun _ hk=>hk) trivial (Below.refl _ _) (Nat.le_refl _) (by simp) ?_;(case hd=>rfl);(case hg=>rfl);(case hr=>first | (go_simp;done) | (go_simp;rfl));(case hp=>exact (Reps.one (show Kd.M (Kd.int .u8) _ _ _ ((a0) % 256) [.int .u8 ((a0) % 256)] from rfl) (Reps.none _ _)));intro v142 w8 ho9 hb hg_ hnew_;clear hg_ hnew_;(first | rw [← Ny141.out] at ho9 | (simp only [Int.reduceToNat] at ho9;rw [← Ny141.out] at ho9));have n0_:=Aside0.mk (Kd.R_lower ho9 (below_size q1_));have n1_:=Aside0.mk (below_step q1_ hb);clear HB;have HO143:=n0_;have HB:=n1_;clear n0_ n1_;clear hb ho9;have hcv10:=own_string (P:=Tryz.prog) Tryz.underlying150 Tryz.underlying5 Tryz.underlying9 (Kd.own_of_R HO143.out)))
    go_ret2
    exact ⟨q3_,q1_⟩
   ·rw [if_neg c7] at H
    exact absurd H (by simp)
/-! ### hello_PutChallenge: function 195 -/
def hello_PutChallenge.f (a0_0 : ByteArray) : Option (ByteArray × Bool):=(hello_put.f 2 a0_0 16 16).bind fun bt145=>(some (bt145.1,bt145.2))
theorem hello_PutChallenge.calls (a0_0 : ByteArray) (r1 : ByteArray) (r2 : Bool) (w : World) (h : hello_PutChallenge.f a0_0=some (r1,r2)) :
  Calls Tryz.prog 195 #[.agg #[.string a0_0]] w fun e w'=>e=.returned (.tuple #[.string r1,.bool r2])∧Below w.heap.size w w':=by
 have hu274:=Tryz.underlying274
 have HB:=Aside0.mk (Below.refl w.heap.size w)
 have H : ((hello_put.f 2 a0_0 16 16).bind fun bt145=>(some (bt145.1,bt145.2)))=some (r1,r2):=h
 clear h
 replace H:=Option.bind_eq_some_iff.mp H
 obtain ⟨⟨t145,t146⟩,A20,H⟩:=H
 replace H : (some (t145,t146))=some (r1,r2):=H
 have A2:=Aside0.mk A20
 clear A20
 simp only [Option.some.injEq,Prod.mk.injEq] at H
 obtain ⟨rfl,rfl⟩:=H
 go_enter Tryz.func195,Tryz.ntmps195
 go_wp2_with (first | ((with_reducible refine gate_dst (N:=1) rfl ?_);refine box_event ?hg (N:=1) ?hd (cs:=#[.string a0_0]) (t:=274) ?hr ?_;(case hd=>rfl);(case hg=>rfl);(case hr=>first | (go_simp;done) | (go_simp;rfl));intro gb144 hg w3 hbox hb;have n0_:=Aside0.mk (below_step q1_ hb);have n1_:=Aside0.mk (hbox);have n2_:=Aside0.mk ((by rw [hg];exact (below_size q1_) : w.heap.size ≤ gb144));have n3_:=Aside0.mk ((by rw [hg];exact (below_size q1_) : w.heap.size ≤ gb144));clear HB;have HB:=n0_;have BK144:=n1_;have GW144:=n2_;have GE144:=n3_;clear n0_ n1_ n2_ n3_;clear hb hbox hg;have hcz4_0 : w3.cell? ⟨gb144,0,none⟩=some (.string a0_0):=(blk_cell BK144.out 0).trans rfl;have hfz4_0:=blk_frozen BK144.out 0) | ((with_reducible refine gate_callee (f:=193) rfl ?_);refine goesL_ (some 6) rfl rfl Tryz.func193 (by kernel_rfl) rfl #[.int .i64 2,.string a0_0,.int .i64 16,.int .i64 16] rfl q7_ ?_;(with_reducible refine (hello_put.calls 2 a0_0 16 16 t145 t146 _ A2.out).mono ?_);rintro e w5 ⟨rfl,hb⟩;refine ⟨_,rfl,?_⟩;have n0_:=Aside0.mk (blk_below (g:=gb144) (o:=.cells #[.string a0_0] 274 (0,0)) (by (with_reducible repeat (first | refine blk_drewN ?_ _ | refine blk_drew ?_ | refine blk_alloc ?_ _));exact BK144.out) hb);have n1_:=Aside0.mk (below_step (by repeat (first | (with_reducible first | exact HB.out | apply below_alloc | apply pw_below_drewN | apply below_drew1 | refine below_set ?_ GE144.out) | exact HB.out)) hb);clear BK144;clear HB;have BK144:=n0_;have HB:=n1_;clear n0_ n1_;(try clear hb);(try clear hb2);(try clear hk);(try clear hi)))
 go_ret2
 exact ⟨q3_,by repeat (first | (with_reducible first | exact HB.out | apply below_alloc | apply pw_below_drewN | apply below_drew1 | refine below_set ?_ GE144.out) | exact HB.out)⟩
/-! ### shake_Papers: function 196 -/
def shake_Papers.f (a0 : ByteArray) (a1 : ByteArray) : Option (ByteArray):=if a0.size + a1.size ≤ 9223372036854775807 then (some (a0 ++ a1)) else (none)
theorem shake_Papers.calls (a0 : ByteArray) (a1 : ByteArray) (r : ByteArray) (w : World) (h : shake_Papers.f a0 a1=some r) :
  Calls Tryz.prog 196 #[.string a0,.string a1] w fun e w'=>e=.returned (.string r)∧Drawn0 w w':=by
 have H : (if a0.size + a1.size ≤ 9223372036854775807 then (some (a0 ++ a1)) else (none))=some r:=h
 clear h
 by_cases c3 : a0.size + a1.size ≤ 9223372036854775807
 ·rw [if_pos c3] at H
  have c3b0:=eq_true c3
  have c3b1 : decide (a0.size + a1.size ≤ 9223372036854775807)=true:=decide_eq_true c3
  try have c3b2 : (9223372036854775807 < a0.size + a1.size)=False:=eq_false (Nat.not_lt.2 c3)
  obtain rfl:=Option.some.inj H
  go_enter Tryz.func196,Tryz.ntmps196
  go_wp2
  go_ret
  exact ⟨q6_,q9_⟩
 ·rw [if_neg c3] at H
  exact absurd H (by simp)
/-! ### command_Class: function 79 -/
mutual
def command_Class.j0 : Nat→Int→Bool→Option (Int)
 | 0,_,_=>none
 | k + 1,x3,x4=>if x4=true then (some 1) else (if x3=2 then (command_Class.j1 k x3 (x3 == 2)) else (if x3=3 then (command_Class.j1 k x3 (x3 == 3)) else (if x3=4 then (command_Class.j1 k x3 (x3 == 4)) else (if x3=5 then (command_Class.j1 k x3 (x3 == 5)) else (if x3=6 then (command_Class.j1 k x3 (x3 == 6)) else (if x3=7 then (command_Class.j1 k x3 (x3 == 7)) else (if x3=8 then (command_Class.j1 k x3 (x3 == 8)) else (command_Class.j1 k x3 (x3 == 9)))))))))
def command_Class.j1 : Nat→Int→Bool→Option (Int)
 | 0,_,_=>none
 | k + 1,x3,x8=>if x8=true then (some 2) else (if x3=12 then (some 3) else (if x3=13 then (some 3) else (some 0)))
end
def command_Class.f (k : Nat) (a0 : Int) : Option (Int):=if a0=1 then (command_Class.j0 k a0 (a0 == 1)) else (if a0=10 then (command_Class.j0 k a0 (a0 == 10)) else (command_Class.j0 k a0 (a0 == 11)))
theorem command_Class.calls (k : Nat) (a0 : Int) (r : Int) (w : World) (h : command_Class.f k a0=some r) :
  Calls Tryz.prog 79 #[.int .i64 a0] w fun e w'=>e=.returned (.int .i64 r)∧Drawn0 w w':=by
 have H : (if a0=1 then (command_Class.j0 k a0 (a0 == 1)) else (if a0=10 then (command_Class.j0 k a0 (a0 == 10)) else (command_Class.j0 k a0 (a0 == 11))))=some r:=h
 clear h
 have HC2:=Aside0.mk H
 clear H
 go_enter Tryz.func79,Tryz.ntmps79
 go_upto_if 4 with (fail)
 go_cut [4] (fun v4 wc=>∃ (kq : Nat) (x4_1 : Bool),v4=.bool x4_1∧Aside0 (command_Class.j0 kq a0 x4_1=some r)∧Aside0 (kq ≤ k)∧Drawn0 w wc)
 case first=>
  have H:=HC2.out
  clear HC2
  by_cases c3 : a0=1
  ·rw [if_pos c3] at H
   have c3b0 : (a0 == 1)=true:=beq_iff_eq.mpr c3
   have c3b1 : (a0 != 1)=false:=bne_eq_false_iff_eq.mpr c3
   clear c3
   (first | rw [c3b0] | (simp only [i64_w,i32_w];rw [c3b0]) | skip)
   have H':=Aside0.mk H
   clear H
   go_wp2
   go_meet
   case rel=>exact ⟨_,((a0 == 1)),q6_,H',⟨q45_⟩,q9_⟩
  ·rw [if_neg c3] at H
   have c3b0 : (a0 == 1)=false:=beq_eq_false_iff_ne.mpr c3
   have c3b1 : (a0 != 1)=true:=bne_iff_ne.mpr c3
   (first | rw [c3b0] | (simp only [i64_w,i32_w];rw [c3b0]) | skip)
   by_cases c4 : a0=10
   ·rw [if_pos c4] at H
    have c4b0 : (a0 == 10)=true:=beq_iff_eq.mpr c4
    have c4b1 : (a0 != 10)=false:=bne_eq_false_iff_eq.mpr c4
    clear c4
    have H':=Aside0.mk H
    clear H
    go_wp2
    go_meet
    case rel=>exact ⟨_,((a0 == 10)),q6_,H',⟨q45_⟩,q9_⟩
   ·rw [if_neg c4] at H
    have c4b0 : (a0 == 10)=false:=beq_eq_false_iff_ne.mpr c4
    have c4b1 : (a0 != 10)=true:=bne_iff_ne.mpr c4
    have H':=Aside0.mk H
    clear H
    go_wp2
    go_meet
    case rel=>exact ⟨_,((a0 == 11)),q6_,H',⟨q45_⟩,q9_⟩
 case rest=>
  clear HC2
  try clear p2
  try clear c3
  try clear c3b0
  try clear c3b1
  try clear c4
  try clear c4b0
  try clear c4b1
  obtain ⟨kq,x4_1,rfl,HA,HJ1,⟨mc1,rfl⟩⟩:=hcut
  cases kq with
  | zero=>exact absurd HA.out (by simp [command_Class.j0])
  | succ kj1=>
   have H:=HA.out
   clear HA
   simp only [command_Class.j0] at H
   by_cases c5 : x4_1=true
   ·subst c5
    have H1 : (some 1)=some r:=q44_
    clear H
    have H:=H1
    clear H1
    obtain rfl:=Option.some.inj H
    go_wp2
    go_ret
    exact ⟨q6_,q9_⟩
   ·replace c5:=Bool.eq_false_iff.mpr c5
    subst c5
    have H1 : (if a0=2 then (command_Class.j1 kj1 a0 (a0 == 2)) else (if a0=3 then (command_Class.j1 kj1 a0 (a0 == 3)) else (if a0=4 then (command_Class.j1 kj1 a0 (a0 == 4)) else (if a0=5 then (command_Class.j1 kj1 a0 (a0 == 5)) else (if a0=6 then (command_Class.j1 kj1 a0 (a0 == 6)) else (if a0=7 then (command_Class.j1 kj1 a0 (a0 == 7)) else (if a0=8 then (command_Class.j1 kj1 a0 (a0 == 8)) else (command_Class.j1 kj1 a0 (a0 == 9)))))))))=some r:=q20_
    clear H
    have H:=H1
    clear H1
    have HC6:=Aside0.mk H
    clear H
    go_upto_if 8 with (fail)
    go_cut [8] (fun v8 wc=>∃ (kq : Nat) (x8_5 : Bool),v8=.bool x8_5∧Aside0 (command_Class.j1 kq a0 x8_5=some r)∧Aside0 (kq ≤ kj1)∧Drawn0 w wc)
    case first=>
     have H:=HC6.out
     clear HC6
     by_cases c7 : a0=2
     ·rw [if_pos c7] at H
      have c7b0 : (a0 == 2)=true:=beq_iff_eq.mpr c7
      have c7b1 : (a0 != 2)=false:=bne_eq_false_iff_eq.mpr c7
      clear c7
      (first | rw [c7b0] | (simp only [i64_w,i32_w];rw [c7b0]) | skip)
      have H':=Aside0.mk H
      clear H
      go_wp2
      go_meet
      case rel=>exact ⟨_,((a0 == 2)),q6_,H',⟨q46_⟩,q9_⟩
     ·rw [if_neg c7] at H
      have c7b0 : (a0 == 2)=false:=beq_eq_false_iff_ne.mpr c7
      have c7b1 : (a0 != 2)=true:=bne_iff_ne.mpr c7
      (first | rw [c7b0] | (simp only [i64_w,i32_w];rw [c7b0]) | skip)
      by_cases c8 : a0=3
      ·rw [if_pos c8] at H
       have c8b0 : (a0 == 3)=true:=beq_iff_eq.mpr c8
       have c8b1 : (a0 != 3)=false:=bne_eq_false_iff_eq.mpr c8
       clear c8
       have H':=Aside0.mk H
       clear H
       go_wp2
       go_meet
       case rel=>exact ⟨_,((a0 == 3)),q6_,H',⟨q46_⟩,q9_⟩
      ·rw [if_neg c8] at H
       have c8b0 : (a0 == 3)=false:=beq_eq_false_iff_ne.mpr c8
       have c8b1 : (a0 != 3)=true:=bne_iff_ne.mpr c8
       by_cases c9 : a0=4
       ·rw [if_pos c9] at H
        have c9b0 : (a0 == 4)=true:=beq_iff_eq.mpr c9
        have c9b1 : (a0 != 4)=false:=bne_eq_false_iff_eq.mpr c9
        clear c9
        have H':=Aside0.mk H
        clear H
        go_wp2
        go_meet
        case rel=>exact ⟨_,((a0 == 4)),q6_,H',⟨q46_⟩,q9_⟩
       ·rw [if_neg c9] at H
        have c9b0 : (a0 == 4)=false:=beq_eq_false_iff_ne.mpr c9
        have c9b1 : (a0 != 4)=true:=bne_iff_ne.mpr c9
        by_cases c10 : a0=5
        ·rw [if_pos c10] at H
         have c10b0 : (a0 == 5)=true:=beq_iff_eq.mpr c10
         have c10b1 : (a0 != 5)=false:=bne_eq_false_iff_eq.mpr c10
         clear c10
         have H':=Aside0.mk H
         clear H
         go_wp2
         go_meet
         case rel=>exact ⟨_,((a0 == 5)),q6_,H',⟨q46_⟩,q9_⟩
        ·rw [if_neg c10] at H
         have c10b0 : (a0 == 5)=false:=beq_eq_false_iff_ne.mpr c10
         have c10b1 : (a0 != 5)=true:=bne_iff_ne.mpr c10
         by_cases c11 : a0=6
         ·rw [if_pos c11] at H
          have c11b0 : (a0 == 6)=true:=beq_iff_eq.mpr c11
          have c11b1 : (a0 != 6)=false:=bne_eq_false_iff_eq.mpr c11
          clear c11
          have H':=Aside0.mk H
          clear H
          go_wp2
          go_meet
          case rel=>exact ⟨_,((a0 == 6)),q6_,H',⟨q46_⟩,q9_⟩
         ·rw [if_neg c11] at H
          have c11b0 : (a0 == 6)=false:=beq_eq_false_iff_ne.mpr c11
          have c11b1 : (a0 != 6)=true:=bne_iff_ne.mpr c11
          by_cases c12 : a0=7
          ·rw [if_pos c12] at H
           have c12b0 : (a0 == 7)=true:=beq_iff_eq.mpr c12
           have c12b1 : (a0 != 7)=false:=bne_eq_false_iff_eq.mpr c12
           clear c12
           have H':=Aside0.mk H
           clear H
           go_wp2
           go_meet
           case rel=>exact ⟨_,((a0 == 7)),q6_,H',⟨q46_⟩,q9_⟩
          ·rw [if_neg c12] at H
           have c12b0 : (a0 == 7)=false:=beq_eq_false_iff_ne.mpr c12
           have c12b1 : (a0 != 7)=true:=bne_iff_ne.mpr c12
           by_cases c13 : a0=8
           ·rw [if_pos c13] at H
            have c13b0 : (a0 == 8)=true:=beq_iff_eq.mpr c13
            have c13b1 : (a0 != 8)=false:=bne_eq_false_iff_eq.mpr c13
            clear c13
            have H':=Aside0.mk H
            clear H
            go_wp2
            go_meet
            case rel=>exact ⟨_,((a0 == 8)),q6_,H',⟨q46_⟩,q9_⟩
           ·rw [if_neg c13] at H
            have c13b0 : (a0 == 8)=false:=beq_eq_false_iff_ne.mpr c13
            have c13b1 : (a0 != 8)=true:=bne_iff_ne.mpr c13
            have H':=Aside0.mk H
            clear H
            go_wp2
            go_meet
            case rel=>exact ⟨_,((a0 == 9)),q6_,H',⟨q46_⟩,q9_⟩
    case rest=>
     clear HC6
     try clear c1
     try clear p2
     try clear c3
     try clear c3b0
     try clear c3b1
     try clear c4
     try clear c4b0
     try clear c4b1
     try clear c5
     try clear c7
     try clear c7b0
     try clear c7b1
     try clear c8
     try clear c8b0
     try clear c8b1
     try clear c9
     try clear c9b0
     try clear c9b1
     try clear c10
     try clear c10b0
     try clear c10b1
     try clear c11
     try clear c11b0
     try clear c11b1
     try clear c12
     try clear c12b0
     try clear c12b1
     try clear c13
     try clear c13b0
     try clear c13b1
     try clear p2
     obtain ⟨kq,x8_5,rfl,HA,HJ5,⟨mc5,rfl⟩⟩:=hcut
     cases kq with
     | zero=>exact absurd HA.out (by simp [command_Class.j1])
     | succ kj5=>
      have H:=HA.out
      clear HA
      simp only [command_Class.j1] at H
      by_cases c14 : x8_5=true
      ·subst c14
       have H1 : (some 2)=some r:=q44_
       clear H
       have H:=H1
       clear H1
       obtain rfl:=Option.some.inj H
       go_wp2
       go_ret
       exact ⟨q6_,q9_⟩
      ·replace c14:=Bool.eq_false_iff.mpr c14
       subst c14
       have H1 : (if a0=12 then (some 3) else (if a0=13 then (some 3) else (some 0)))=some r:=q20_
       clear H
       have H:=H1
       clear H1
       by_cases c15 : a0=12
       ·rw [if_pos c15] at H
        have c15b0 : (a0 == 12)=true:=beq_iff_eq.mpr c15
        have c15b1 : (a0 != 12)=false:=bne_eq_false_iff_eq.mpr c15
        clear c15
        obtain rfl:=Option.some.inj H
        go_wp2
        go_ret
        exact ⟨q6_,q9_⟩
       ·rw [if_neg c15] at H
        have c15b0 : (a0 == 12)=false:=beq_eq_false_iff_ne.mpr c15
        have c15b1 : (a0 != 12)=true:=bne_iff_ne.mpr c15
        by_cases c16 : a0=13
        ·rw [if_pos c16] at H
         have c16b0 : (a0 == 13)=true:=beq_iff_eq.mpr c16
         have c16b1 : (a0 != 13)=false:=bne_eq_false_iff_eq.mpr c16
         clear c16
         obtain rfl:=Option.some.inj H
         go_wp2
         go_ret
         exact ⟨q6_,q9_⟩
        ·rw [if_neg c16] at H
         have c16b0 : (a0 == 13)=false:=beq_eq_false_iff_ne.mpr c16
         have c16b1 : (a0 != 13)=true:=bne_iff_ne.mpr c16
         obtain rfl:=Option.some.inj H
         go_wp2
         go_ret
         exact ⟨q6_,q9_⟩
/-! ### command_key: function 80 -/
def command_key.f (a0 : Int) (a1 : ByteArray) : Option (Bool):=if a0=11 then (some (decide ((a1.size : Int) ≤ 60))) else (if a0=12 then (some (a1.toList == ([] : List UInt8))) else (if a0=13 then (some (a1.toList == ([] : List UInt8))) else (if (a1.size : Int) ≥ 1 then (some (decide ((a1.size : Int) ≤ 60))) else (some false))))
theorem command_key.calls (a0 : Int) (a1 : ByteArray) (r : Bool) (w : World) (h : command_key.f a0 a1=some r) :
  Calls Tryz.prog 80 #[.int .i64 a0,.string a1] w fun e w'=>e=.returned (.bool r)∧Drawn0 w w':=by
 have H : (if a0=11 then (some (decide ((a1.size : Int) ≤ 60))) else (if a0=12 then (some (a1.toList == ([] : List UInt8))) else (if a0=13 then (some (a1.toList == ([] : List UInt8))) else (if (a1.size : Int) ≥ 1 then (some (decide ((a1.size : Int) ≤ 60))) else (some false)))))=some r:=h
 clear h
 by_cases c3 : a0=11
 ·rw [if_pos c3] at H
  have c3b0 : (a0 == 11)=true:=beq_iff_eq.mpr c3
  have c3b1 : (a0 != 11)=false:=bne_eq_false_iff_eq.mpr c3
  clear c3
  obtain rfl:=Option.some.inj H
  go_enter Tryz.func80,Tryz.ntmps80
  go_wp2
  go_ret
  exact ⟨q6_,q9_⟩
 ·rw [if_neg c3] at H
  have c3b0 : (a0 == 11)=false:=beq_eq_false_iff_ne.mpr c3
  have c3b1 : (a0 != 11)=true:=bne_iff_ne.mpr c3
  by_cases c4 : a0=12
  ·rw [if_pos c4] at H
   have c4b0 : (a0 == 12)=true:=beq_iff_eq.mpr c4
   have c4b1 : (a0 != 12)=false:=bne_eq_false_iff_eq.mpr c4
   clear c4
   obtain rfl:=Option.some.inj H
   go_enter Tryz.func80,Tryz.ntmps80
   go_wp2
   go_ret
   exact ⟨q6_,q9_⟩
  ·rw [if_neg c4] at H
   have c4b0 : (a0 == 12)=false:=beq_eq_false_iff_ne.mpr c4
   have c4b1 : (a0 != 12)=true:=bne_iff_ne.mpr c4
   by_cases c5 : a0=13
   ·rw [if_pos c5] at H
    have c5b0 : (a0 == 13)=true:=beq_iff_eq.mpr c5
    have c5b1 : (a0 != 13)=false:=bne_eq_false_iff_eq.mpr c5
    clear c5
    obtain rfl:=Option.some.inj H
    go_enter Tryz.func80,Tryz.ntmps80
    go_wp2
    go_ret
    exact ⟨q6_,q9_⟩
   ·rw [if_neg c5] at H
    have c5b0 : (a0 == 13)=false:=beq_eq_false_iff_ne.mpr c5
    have c5b1 : (a0 != 13)=true:=bne_iff_ne.mpr c5
    by_cases c6 : (a1.size : Int) ≥ 1
    ·rw [if_pos c6] at H
     have c6b0 : decide (1 ≤ (a1.size : Int))=true:=decide_eq_true c6
     have c6b1 : decide (1 ≤ a1.size)=true:=decide_eq_true (by omega)
     clear c6
     obtain rfl:=Option.some.inj H
     go_enter Tryz.func80,Tryz.ntmps80
     go_wp2
     go_ret
     exact ⟨q6_,q9_⟩
    ·rw [if_neg c6] at H
     have c6b0 : decide (1 ≤ (a1.size : Int))=false:=decide_eq_false c6
     have c6b1 : decide (1 ≤ a1.size)=false:=decide_eq_false (by omega)
     clear c6
     obtain rfl:=Option.some.inj H
     go_enter Tryz.func80,Tryz.ntmps80
     go_wp2
     go_ret
     exact ⟨q6_,q9_⟩
/-! ### command_numbers: function 81 -/
def command_numbers.f (a0 : Int) (a1 : Int) : Option (Bool):=if a0 ≥ (-1000000000000) then (if a0 ≤ 1000000000000 then (if a1 ≥ 0 then (some (decide (a1 ≤ 1000000000000))) else (some false)) else (some false)) else (some false)
theorem command_numbers.calls (a0 : Int) (a1 : Int) (r : Bool) (w : World) (h : command_numbers.f a0 a1=some r) :
  Calls Tryz.prog 81 #[.int .i64 a0,.int .i64 a1] w fun e w'=>e=.returned (.bool r)∧Drawn0 w w':=by
 have H : (if a0 ≥ (-1000000000000) then (if a0 ≤ 1000000000000 then (if a1 ≥ 0 then (some (decide (a1 ≤ 1000000000000))) else (some false)) else (some false)) else (some false))=some r:=h
 clear h
 by_cases c3 : a0 ≥ (-1000000000000)
 ·rw [if_pos c3] at H
  have c3b0 : decide ((-1000000000000) ≤ a0)=true:=decide_eq_true c3
  clear c3
  by_cases c4 : a0 ≤ 1000000000000
  ·rw [if_pos c4] at H
   have c4b0 : decide (a0 ≤ 1000000000000)=true:=decide_eq_true c4
   clear c4
   by_cases c5 : a1 ≥ 0
   ·rw [if_pos c5] at H
    have c5b0 : decide (0 ≤ a1)=true:=decide_eq_true c5
    clear c5
    obtain rfl:=Option.some.inj H
    go_enter Tryz.func81,Tryz.ntmps81
    go_wp2
    go_ret
    exact ⟨q6_,q9_⟩
   ·rw [if_neg c5] at H
    have c5b0 : decide (0 ≤ a1)=false:=decide_eq_false c5
    clear c5
    obtain rfl:=Option.some.inj H
    go_enter Tryz.func81,Tryz.ntmps81
    go_wp2
    go_ret
    exact ⟨q6_,q9_⟩
  ·rw [if_neg c4] at H
   have c4b0 : decide (a0 ≤ 1000000000000)=false:=decide_eq_false c4
   clear c4
   obtain rfl:=Option.some.inj H
   go_enter Tryz.func81,Tryz.ntmps81
   go_wp2
   go_ret
   exact ⟨q6_,q9_⟩
 ·rw [if_neg c3] at H
  have c3b0 : decide ((-1000000000000) ≤ a0)=false:=decide_eq_false c3
  clear c3
  obtain rfl:=Option.some.inj H
  go_enter Tryz.func81,Tryz.ntmps81
  go_wp2
  go_ret
  exact ⟨q6_,q9_⟩
/-! ### command_Right: function 38 -/
def command_Right.f (k : Nat) (a0_0 : Int) (a0_1 : ByteArray) (a0_2 : ByteArray) (a0_3 : Int) (a0_4 : Int) : Option (Bool):=(command_Class.f k a0_0).bind fun t148=>(if t148 > 0 then ((command_key.f a0_0 a0_1).bind fun t149=>(if t149=true then (if (a0_2.size : Int) ≤ 500 then ((command_numbers.f a0_3 a0_4).bind fun t150=>(some t150)) else (some false)) else (some false))) else (some false))
theorem command_Right.calls (k : Nat) (a0_0 : Int) (a0_1 : ByteArray) (a0_2 : ByteArray) (a0_3 : Int) (a0_4 : Int) (r : Bool) (w : World) (h : command_Right.f k a0_0 a0_1 a0_2 a0_3 a0_4=some r) :
  Calls Tryz.prog 38 #[.agg #[.int .i64 a0_0,.string a0_1,.string a0_2,.int .i64 a0_3,.int .i64 a0_4]] w fun e w'=>e=.returned (.bool r)∧Below w.heap.size w w':=by
 have hu35:=Tryz.underlying35
 have HB:=Aside0.mk (Below.refl w.heap.size w)
 have H : ((command_Class.f k a0_0).bind fun t148=>(if t148 > 0 then ((command_key.f a0_0 a0_1).bind fun t149=>(if t149=true then (if (a0_2.size : Int) ≤ 500 then ((command_numbers.f a0_3 a0_4).bind fun t150=>(some t150)) else (some false)) else (some false))) else (some false)))=some r:=h
 clear h
 replace H:=Option.bind_eq_some_iff.mp H
 obtain ⟨t148,A20,H⟩:=H
 replace H : (if t148 > 0 then ((command_key.f a0_0 a0_1).bind fun t149=>(if t149=true then (if (a0_2.size : Int) ≤ 500 then ((command_numbers.f a0_3 a0_4).bind fun t150=>(some t150)) else (some false)) else (some false))) else (some false))=some r:=H
 have A2:=Aside0.mk A20
 clear A20
 by_cases c3 : t148 > 0
 ·rw [if_pos c3] at H
  have c3b0 : decide (0 < t148)=true:=decide_eq_true c3
  clear c3
  replace H:=Option.bind_eq_some_iff.mp H
  obtain ⟨t149,A40,H⟩:=H
  replace H : (if t149=true then (if (a0_2.size : Int) ≤ 500 then ((command_numbers.f a0_3 a0_4).bind fun t150=>(some t150)) else (some false)) else (some false))=some r:=H
  have A4:=Aside0.mk A40
  clear A40
  by_cases c5 : t149=true
  ·subst c5
   have H1 : (if (a0_2.size : Int) ≤ 500 then ((command_numbers.f a0_3 a0_4).bind fun t150=>(some t150)) else (some false))=some r:=q44_
   clear H
   have H:=H1
   clear H1
   by_cases c6 : (a0_2.size : Int) ≤ 500
   ·rw [if_pos c6] at H
    have c6b0 : decide ((a0_2.size : Int) ≤ 500)=true:=decide_eq_true c6
    have c6b1 : decide (a0_2.size ≤ 500)=true:=decide_eq_true (by omega)
    clear c6
    replace H:=Option.bind_eq_some_iff.mp H
    obtain ⟨t150,A70,H⟩:=H
    replace H : (some t150)=some r:=H
    have A7:=Aside0.mk A70
    clear A70
    obtain rfl:=Option.some.inj H
    go_enter Tryz.func38,Tryz.ntmps38
    go_wp2_with (first | ((with_reducible refine gate_dst (N:=1) rfl ?_);(try (refine gate_guard (by rfl) ?_;dsimp only));refine box_event ?hg (N:=1) ?hd (cs:=#[.int .i64 a0_0,.string a0_1,.string a0_2,.int .i64 a0_3,.int .i64 a0_4]) (t:=35) ?hr ?_;(case hd=>rfl);(case hg=>rfl);(case hr=>first | (go_simp;done) | (go_simp;rfl));intro gb147 hg w8 hbox hb;have n0_:=Aside0.mk (below_step q1_ hb);have n1_:=Aside0.mk (hbox);have n2_:=Aside0.mk ((by rw [hg];exact (below_size q1_) : w.heap.size ≤ gb147));have n3_:=Aside0.mk ((by rw [hg];exact (below_size q1_) : w.heap.size ≤ gb147));clear HB;have HB:=n0_;have BK147:=n1_;have GW147:=n2_;have GE147:=n3_;clear n0_ n1_ n2_ n3_;clear hb hbox hg;have hcz9_0 : w8.cell? ⟨gb147,0,none⟩=some (.int .i64 a0_0):=(blk_cell BK147.out 0).trans rfl;have hcz9_1 : w8.cell? ⟨gb147,1,none⟩=some (.string a0_1):=(blk_cell BK147.out 1).trans rfl;have hcz9_2 : w8.cell? ⟨gb147,2,none⟩=some (.string a0_2):=(blk_cell BK147.out 2).trans rfl;have hcz9_3 : w8.cell? ⟨gb147,3,none⟩=some (.int .i64 a0_3):=(blk_cell BK147.out 3).trans rfl;have hcz9_4 : w8.cell? ⟨gb147,4,none⟩=some (.int .i64 a0_4):=(blk_cell BK147.out 4).trans rfl;have hfz9_0:=blk_frozen BK147.out 0;have hfz9_1:=blk_frozen BK147.out 1;have hfz9_2:=blk_frozen BK147.out 2;have hfz9_3:=blk_frozen BK147.out 3;have hfz9_4:=blk_frozen BK147.out 4) | ((with_reducible refine gate_callee (f:=79) rfl ?_);refine goesL_ (some 5) rfl rfl Tryz.func79 (by kernel_rfl) rfl #[.int .i64 a0_0] rfl q7_ ?_;(with_reducible refine (command_Class.calls k a0_0 t148 _ A2.out).mono ?_);rintro e w' ⟨rfl,⟨nd,rfl⟩⟩;refine ⟨_,rfl,?_⟩) | (go_at_call 80;(with_reducible refine (command_key.calls a0_0 a0_1 true _ A4.out).mono ?_);rintro e w' ⟨rfl,⟨nd,rfl⟩⟩) | (go_at_call 81;(with_reducible refine (command_numbers.calls a0_3 a0_4 t150 _ A7.out).mono ?_);rintro e w' ⟨rfl,⟨nd,rfl⟩⟩))
    go_ret
    exact ⟨q3_,q41_⟩
   ·rw [if_neg c6] at H
    have c6b0 : decide ((a0_2.size : Int) ≤ 500)=false:=decide_eq_false c6
    have c6b1 : decide (a0_2.size ≤ 500)=false:=decide_eq_false (by omega)
    clear c6
    obtain rfl:=Option.some.inj H
    go_enter Tryz.func38,Tryz.ntmps38
    go_wp2_with (first | ((with_reducible refine gate_dst (N:=1) rfl ?_);(try (refine gate_guard (by rfl) ?_;dsimp only));refine box_event ?hg (N:=1) ?hd (cs:=#[.int .i64 a0_0,.string a0_1,.string a0_2,.int .i64 a0_3,.int .i64 a0_4]) (t:=35) ?hr ?_;(case hd=>rfl);(case hg=>rfl);(case hr=>first | (go_simp;done) | (go_simp;rfl));intro gb147 hg w10 hbox hb;have n0_:=Aside0.mk (below_step q1_ hb);have n1_:=Aside0.mk (hbox);have n2_:=Aside0.mk ((by rw [hg];exact (below_size q1_) : w.heap.size ≤ gb147));have n3_:=Aside0.mk ((by rw [hg];exact (below_size q1_) : w.heap.size ≤ gb147));clear HB;have HB:=n0_;have BK147:=n1_;have GW147:=n2_;have GE147:=n3_;clear n0_ n1_ n2_ n3_;clear hb hbox hg;have hcz11_0 : w10.cell? ⟨gb147,0,none⟩=some (.int .i64 a0_0):=(blk_cell BK147.out 0).trans rfl;have hcz11_1 : w10.cell? ⟨gb147,1,none⟩=some (.string a0_1):=(blk_cell BK147.out 1).trans rfl;have hcz11_2 : w10.cell? ⟨gb147,2,none⟩=some (.string a0_2):=(blk_cell BK147.out 2).trans rfl;have hcz11_3 : w10.cell? ⟨gb147,3,none⟩=some (.int .i64 a0_3):=(blk_cell BK147.out 3).trans rfl;have hcz11_4 : w10.cell? ⟨gb147,4,none⟩=some (.int .i64 a0_4):=(blk_cell BK147.out 4).trans rfl;have hfz11_0:=blk_frozen BK147.out 0;have hfz11_1:=blk_frozen BK147.out 1;have hfz11_2:=blk_frozen BK147.out 2;have hfz11_3:=blk_frozen BK147.out 3;have hfz11_4:=blk_frozen BK147.out 4) | ((with_reducible refine gate_callee (f:=79) rfl ?_);refine goesL_ (some 5) rfl rfl Tryz.func79 (by kernel_rfl) rfl #[.int .i64 a0_0] rfl q7_ ?_;(with_reducible refine (command_Class.calls k a0_0 t148 _ A2.out).mono ?_);rintro e w' ⟨rfl,⟨nd,rfl⟩⟩;refine ⟨_,rfl,?_⟩) | (go_at_call 80;(with_reducible refine (command_key.calls a0_0 a0_1 true _ A4.out).mono ?_);rintro e w' ⟨rfl,⟨nd,rfl⟩⟩))
    go_ret
    exact ⟨q3_,q41_⟩
  ·replace c5:=Bool.eq_false_iff.mpr c5
   subst c5
   have H1 : (some false)=some r:=q20_
   clear H
   have H:=H1
   clear H1
   obtain rfl:=Option.some.inj H
   go_enter Tryz.func38,Tryz.ntmps38
   go_wp2_with (first | ((with_reducible refine gate_dst (N:=1) rfl ?_);(try (refine gate_guard (by rfl) ?_;dsimp only));refine box_event ?hg (N:=1) ?hd (cs:=#[.int .i64 a0_0,.string a0_1,.string a0_2,.int .i64 a0_3,.int .i64 a0_4]) (t:=35) ?hr ?_;(case hd=>rfl);(case hg=>rfl);(case hr=>first | (go_simp;done) | (go_simp;rfl));intro gb147 hg w12 hbox hb;have n0_:=Aside0.mk (below_step q1_ hb);have n1_:=Aside0.mk (hbox);have n2_:=Aside0.mk ((by rw [hg];exact (below_size q1_) : w.heap.size ≤ gb147));have n3_:=Aside0.mk ((by rw [hg];exact (below_size q1_) : w.heap.size ≤ gb147));clear HB;have HB:=n0_;have BK147:=n1_;have GW147:=n2_;have GE147:=n3_;clear n0_ n1_ n2_ n3_;clear hb hbox hg;have hcz13_0 : w12.cell? ⟨gb147,0,none⟩=some (.int .i64 a0_0):=(blk_cell BK147.out 0).trans rfl;have hcz13_1 : w12.cell? ⟨gb147,1,none⟩=some (.string a0_1):=(blk_cell BK147.out 1).trans rfl;have hcz13_2 : w12.cell? ⟨gb147,2,none⟩=some (.string a0_2):=(blk_cell BK147.out 2).trans rfl;have hcz13_3 : w12.cell? ⟨gb147,3,none⟩=some (.int .i64 a0_3):=(blk_cell BK147.out 3).trans rfl;have hcz13_4 : w12.cell? ⟨gb147,4,none⟩=some (.int .i64 a0_4):=(blk_cell BK147.out 4).trans rfl;have hfz13_0:=blk_frozen BK147.out 0;have hfz13_1:=blk_frozen BK147.out 1;have hfz13_2:=blk_frozen BK147.out 2;have hfz13_3:=blk_frozen BK147.out 3;have hfz13_4:=blk_frozen BK147.out 4) | ((with_reducible refine gate_callee (f:=79) rfl ?_);refine goesL_ (some 5) rfl rfl Tryz.func79 (by kernel_rfl) rfl #[.int .i64 a0_0] rfl q7_ ?_;(with_reducible refine (command_Class.calls k a0_0 t148 _ A2.out).mono ?_);rintro e w' ⟨rfl,⟨nd,rfl⟩⟩;refine ⟨_,rfl,?_⟩) | (go_at_call 80;(with_reducible refine (command_key.calls a0_0 a0_1 false _ A4.out).mono ?_);rintro e w' ⟨rfl,⟨nd,rfl⟩⟩))
   go_ret
   exact ⟨q3_,q41_⟩
 ·rw [if_neg c3] at H
  have c3b0 : decide (0 < t148)=false:=decide_eq_false c3
  clear c3
  obtain rfl:=Option.some.inj H
  go_enter Tryz.func38,Tryz.ntmps38
  go_wp2_with (first | ((with_reducible refine gate_dst (N:=1) rfl ?_);(try (refine gate_guard (by rfl) ?_;dsimp only));refine box_event ?hg (N:=1) ?hd (cs:=#[.int .i64 a0_0,.string a0_1,.string a0_2,.int .i64 a0_3,.int .i64 a0_4]) (t:=35) ?hr ?_;(case hd=>rfl);(case hg=>rfl);(case hr=>first | (go_simp;done) | (go_simp;rfl));intro gb147 hg w14 hbox hb;have n0_:=Aside0.mk (below_step q1_ hb);have n1_:=Aside0.mk (hbox);have n2_:=Aside0.mk ((by rw [hg];exact (below_size q1_) : w.heap.size ≤ gb147));have n3_:=Aside0.mk ((by rw [hg];exact (below_size q1_) : w.heap.size ≤ gb147));clear HB;have HB:=n0_;have BK147:=n1_;have GW147:=n2_;have GE147:=n3_;clear n0_ n1_ n2_ n3_;clear hb hbox hg;have hcz15_0 : w14.cell? ⟨gb147,0,none⟩=some (.int .i64 a0_0):=(blk_cell BK147.out 0).trans rfl;have hcz15_1 : w14.cell? ⟨gb147,1,none⟩=some (.string a0_1):=(blk_cell BK147.out 1).trans rfl;have hcz15_2 : w14.cell? ⟨gb147,2,none⟩=some (.string a0_2):=(blk_cell BK147.out 2).trans rfl;have hcz15_3 : w14.cell? ⟨gb147,3,none⟩=some (.int .i64 a0_3):=(blk_cell BK147.out 3).trans rfl;have hcz15_4 : w14.cell? ⟨gb147,4,none⟩=some (.int .i64 a0_4):=(blk_cell BK147.out 4).trans rfl;have hfz15_0:=blk_frozen BK147.out 0;have hfz15_1:=blk_frozen BK147.out 1;have hfz15_2:=blk_frozen BK147.out 2;have hfz15_3:=blk_frozen BK147.out 3;have hfz15_4:=blk_frozen BK147.out 4) | ((with_reducible refine gate_callee (f:=79) rfl ?_);refine goesL_ (some 5) rfl rfl Tryz.func79 (by kernel_rfl) rfl #[.int .i64 a0_0] rfl q7_ ?_;(with_reducible refine (command_Class.calls k a0_0 t148 _ A2.out).mono ?_);rintro e w' ⟨rfl,⟨nd,rfl⟩⟩;refine ⟨_,rfl,?_⟩))
  go_ret
  exact ⟨q3_,q41_⟩
/-! ### escutcheonlaw5_Fill: function 30 -/
def escutcheonlaw5_Fill.l0 : Nat→ByteArray→Int→Option (ByteArray)
 | 0,_,_=>none
 | k + 1,x0,x1=>if (x0.size : Int) < x1 then (if x0.size + 1 ≤ 9223372036854775807 then (escutcheonlaw5_Fill.l0 k (x0 ++ (⟨#[0]⟩ : ByteArray)) x1) else (none)) else (if 0 ≤ x1 then (if x1 ≤ (x0.size : Int) then (some (x0.extract 0 (x1 : Int).toNat)) else (none)) else (none))
def escutcheonlaw5_Fill.f (k : Nat) (a0 : ByteArray) (a1 : Int) : Option (ByteArray):=escutcheonlaw5_Fill.l0 k a0 a1
theorem escutcheonlaw5_Fill.calls (k : Nat) (a0 : ByteArray) (a1 : Int) (r : ByteArray) (w : World) (h : escutcheonlaw5_Fill.f k a0 a1=some r) :
  Calls Tryz.prog 30 #[.string a0,.int .i64 a1] w fun e w'=>e=.returned (.string r)∧Drawn0 w w':=by
 have H : (escutcheonlaw5_Fill.l0 k a0 a1)=some r:=h
 clear h
 have H':=Aside0.mk H
 clear H
 go_enter Tryz.func30,Tryz.ntmps30
 go_wp2
 go_loopg [0] k (fun kq v0 w'=>∃ (x0_1 : ByteArray),v0=.string x0_1∧Aside0 (escutcheonlaw5_Fill.l0 kq x0_1 a1=some r)∧Aside0 (kq ≤ k)∧Drawn0 w w')
 case atStart=>exact ⟨(a0),q6_,H',⟨Nat.le_refl _⟩,q9_⟩
 case round=>
  clear H'
  try clear p2
  obtain ⟨x0_1,rfl,HA,HK1,⟨m1,rfl⟩⟩:=hrel
  cases gk with
  | zero=>exact absurd HA.out (by simp [escutcheonlaw5_Fill.l0])
  | succ k1=>
   have H:=HA.out
   clear HA
   simp only [escutcheonlaw5_Fill.l0] at H
   by_cases c3 : (x0_1.size : Int) < a1
   ·rw [if_pos c3] at H
    have c3b0 : decide ((x0_1.size : Int) < a1)=true:=decide_eq_true c3
    clear c3
    by_cases c4 : x0_1.size + 1 ≤ 9223372036854775807
    ·rw [if_pos c4] at H
     have c4b0:=eq_true c4
     have c4b1 : decide (x0_1.size + 1 ≤ 9223372036854775807)=true:=decide_eq_true c4
     try have c4b2 : (9223372036854775807 < x0_1.size + 1)=False:=eq_false (Nat.not_lt.2 c4)
     have H':=Aside0.mk H
     clear H
     go_wp2
     go_roundg k1
     case measure=>have:=HK1.out;omega
     case rel=>exact ⟨(x0_1 ++ (⟨#[0]⟩ : ByteArray)),q6_,H',⟨by have:=HK1.out;omega⟩,q9_⟩
    ·rw [if_neg c4] at H
     exact absurd H (by simp)
   ·rw [if_neg c3] at H
    have c3b0 : decide ((x0_1.size : Int) < a1)=false:=decide_eq_false c3
    clear c3
    by_cases c5 : 0 ≤ a1
    ·rw [if_pos c5] at H
     have c5b0:=eq_true c5
     have c5b1 : decide (0 ≤ a1)=true:=decide_eq_true c5
     clear c5
     by_cases c6 : a1 ≤ (x0_1.size : Int)
     ·rw [if_pos c6] at H
      have c6b0:=eq_true c6
      have c6b1 : decide (a1 ≤ (x0_1.size : Int))=true:=decide_eq_true c6
      clear c6
      obtain rfl:=Option.some.inj H
      go_wp2
      go_ret
      exact ⟨q6_,q9_⟩
     ·rw [if_neg c6] at H
      exact absurd H (by simp)
    ·rw [if_neg c5] at H
     exact absurd H (by simp)
/-! ### cache_Cost: function 220 -/
def cache_Cost.f (a0_0 : ByteArray) (a0_1 : ByteArray) (a0_2 : Int) (a0_3 : Int) : Option (Int):=some (wrap64 ((wrap64 (16 + (a0_0.size : Int))) + (a0_1.size : Int)))
theorem cache_Cost.calls (a0_0 : ByteArray) (a0_1 : ByteArray) (a0_2 : Int) (a0_3 : Int) (r : Int) (w : World) (h : cache_Cost.f a0_0 a0_1 a0_2 a0_3=some r) :
  Calls Tryz.prog 220 #[.agg #[.string a0_0,.string a0_1,.int .i64 a0_2,.int .i64 a0_3]] w fun e w'=>e=.returned (.int .i64 r)∧Below w.heap.size w w':=by
 have hu103:=Tryz.underlying103
 have HB:=Aside0.mk (Below.refl w.heap.size w)
 have H : (some (wrap64 ((wrap64 (16 + (a0_0.size : Int))) + (a0_1.size : Int))))=some r:=h
 clear h
 obtain rfl:=Option.some.inj H
 go_enter Tryz.func220,Tryz.ntmps220
 go_wp2_with (first | ((with_reducible refine gate_dst (N:=1) rfl ?_);refine box_event ?hg (N:=1) ?hd (cs:=#[.string a0_0,.string a0_1,.int .i64 a0_2,.int .i64 a0_3]) (t:=103) ?hr ?_;(case hd=>rfl);(case hg=>rfl);(case hr=>first | (go_simp;done) | (go_simp;rfl));intro gb151 hg w2 hbox hb;have n0_:=Aside0.mk (below_step q1_ hb);have n1_:=Aside0.mk (hbox);have n2_:=Aside0.mk ((by rw [hg];exact (below_size q1_) : w.heap.size ≤ gb151));have n3_:=Aside0.mk ((by rw [hg];exact (below_size q1_) : w.heap.size ≤ gb151));clear HB;have HB:=n0_;have BK151:=n1_;have GW151:=n2_;have GE151:=n3_;clear n0_ n1_ n2_ n3_;clear hb hbox hg;have hcz3_0 : w2.cell? ⟨gb151,0,none⟩=some (.string a0_0):=(blk_cell BK151.out 0).trans rfl;have hcz3_1 : w2.cell? ⟨gb151,1,none⟩=some (.string a0_1):=(blk_cell BK151.out 1).trans rfl;have hcz3_2 : w2.cell? ⟨gb151,2,none⟩=some (.int .i64 a0_2):=(blk_cell BK151.out 2).trans rfl;have hcz3_3 : w2.cell? ⟨gb151,3,none⟩=some (.int .i64 a0_3):=(blk_cell BK151.out 3).trans rfl;have hfz3_0:=blk_frozen BK151.out 0;have hfz3_1:=blk_frozen BK151.out 1;have hfz3_2:=blk_frozen BK151.out 2;have hfz3_3:=blk_frozen BK151.out 3))
 go_ret
 exact ⟨q3_,by repeat (first | (with_reducible first | exact HB.out | apply below_alloc | apply pw_below_drewN | apply below_drew1 | refine below_set ?_ GE151.out) | exact HB.out)⟩
/-! ### cache_until: function 150 -/
def cache_until.f (a0 : Int) (a1 : Int) : Option (Int):=if a0=0 then (some 0) else (some (wrap64 (a1 + a0)))
theorem cache_until.calls (a0 : Int) (a1 : Int) (r : Int) (w : World) (h : cache_until.f a0 a1=some r) :
  Calls Tryz.prog 150 #[.int .i64 a0,.int .i64 a1] w fun e w'=>e=.returned (.int .i64 r)∧Drawn0 w w':=by
 have H : (if a0=0 then (some 0) else (some (wrap64 (a1 + a0))))=some r:=h
 clear h
 by_cases c3 : a0=0
 ·rw [if_pos c3] at H
  have c3b0 : (a0 == 0)=true:=beq_iff_eq.mpr c3
  have c3b1 : (a0 != 0)=false:=bne_eq_false_iff_eq.mpr c3
  clear c3
  obtain rfl:=Option.some.inj H
  go_enter Tryz.func150,Tryz.ntmps150
  go_wp2
  go_ret
  exact ⟨q6_,q9_⟩
 ·rw [if_neg c3] at H
  have c3b0 : (a0 == 0)=false:=beq_eq_false_iff_ne.mpr c3
  have c3b1 : (a0 != 0)=true:=bne_iff_ne.mpr c3
  obtain rfl:=Option.some.inj H
  go_enter Tryz.func150,Tryz.ntmps150
  go_wp2
  go_ret
  exact ⟨q6_,q9_⟩
/-! ### table_Hash: function 164 -/
def table_Hash.l0 : Nat→ByteArray→Int→Int→Int→Option (Int)
 | 0,_,_,_,_=>none
 | k + 1,x0,x5,x10,x11=>if x11 < x10 then (if 0 ≤ x11 then (if x11 < (x0.size : Int) then (table_Hash.l0 k x0 (((Go.bits .xor .u32 x5 ((bt x0 x11) % 4294967296)) * 16777619) % 4294967296) x10 (wrap64 (x11 + 1))) else (none)) else (none)) else (some x5)
def table_Hash.f (k : Nat) (a0 : ByteArray) (a1 : Int) : Option (Int):=table_Hash.l0 k a0 (Go.bits .xor .u32 a1 2166136261) (a0.size : Int) 0
theorem table_Hash.calls (k : Nat) (a0 : ByteArray) (a1 : Int) (r : Int) (w : World) (h : table_Hash.f k a0 a1=some r) :
  Calls Tryz.prog 164 #[.string a0,.int .u32 a1] w fun e w'=>e=.returned (.int .u32 r)∧Drawn0 w w':=by
 have H : (table_Hash.l0 k a0 (Go.bits .xor .u32 a1 2166136261) (a0.size : Int) 0)=some r:=h
 clear h
 have H':=Aside0.mk H
 clear H
 go_enter Tryz.func164,Tryz.ntmps164
 go_wp2
 go_loopg [5,11] k (fun kq v5 v11 w'=>∃ (x5_1 : Int) (x11_1 : Int),v5=.int .u32 x5_1∧v11=.int .i64 x11_1∧Aside0 (table_Hash.l0 kq a0 x5_1 (a0.size : Int) x11_1=some r)∧Aside0 (kq ≤ k)∧Drawn0 w w')
 case atStart=>exact ⟨(Go.bits .xor .u32 a1 2166136261),(0),q6_,q6_,H',⟨Nat.le_refl _⟩,q9_⟩
 case round=>
  clear H'
  try clear c1
  try clear p2
  obtain ⟨x5_1,x11_1,rfl,rfl,HA,HK1,⟨m1,rfl⟩⟩:=hrel
  cases gk with
  | zero=>exact absurd HA.out (by simp [table_Hash.l0])
  | succ k1=>
   have H:=HA.out
   clear HA
   simp only [table_Hash.l0] at H
   by_cases c3 : x11_1 < (a0.size : Int)
   ·rw [if_pos c3] at H
    have c3b0 : decide (x11_1 < (a0.size : Int))=true:=decide_eq_true c3
    clear c3
    by_cases c4 : 0 ≤ x11_1
    ·rw [if_pos c4] at H
     have c4b0 : decide (0 ≤ x11_1)=true:=decide_eq_true c4
     clear c4
     by_cases c5 : x11_1 < (a0.size : Int)
     ·rw [if_pos c5] at H
      have c5b0 : decide (x11_1 < (a0.size : Int))=true:=decide_eq_true c5
      clear c5
      have H':=Aside0.mk H
      clear H
      have p6 : 0 ≤ (x11_1 : Int):=of_decide_eq_true q5_
      have q6 : x11_1 < (a0.size : Int):=of_decide_eq_true q5_
      have hx6:=bt_at a0 x11_1
      replace p6:=eq_true p6
      replace q6:=eq_true q6
      go_wp2
      go_roundg k1
      case measure=>have:=HK1.out;omega
      case rel=>exact ⟨(((Go.bits .xor .u32 x5_1 ((bt a0 x11_1) % 4294967296)) * 16777619) % 4294967296),(wrap64 (x11_1 + 1)),q6_,q6_,H',⟨by have:=HK1.out;omega⟩,q9_⟩
     ·rw [if_neg c5] at H
      exact absurd H (by simp)
    ·rw [if_neg c4] at H
     exact absurd H (by simp)
   ·rw [if_neg c3] at H
    have c3b0 : decide (x11_1 < (a0.size : Int))=false:=decide_eq_false c3
    clear c3
    obtain rfl:=Option.some.inj H
    go_wp2
    go_ret
    exact ⟨q6_,q9_⟩
end Go.Proofs.YtkekohmkaefdnaaGreatDoor.Pb
namespace Go.Proofs.YtkekohmkaefdnaaGreatDoor.Pb
open Go.Proofs.YtkekohmkaefdnaaGreatDoor.Pa
open Go.RowKit Go.Proofs.YtkekohmkaefdnaaGreatDoorW.PrintWords Go.Proofs.YtkekohmkaefdnaaGreatDoorW.PrintLast Go.Proofs.YtkekohmkaefdnaaGreatDoorW.PrintMore
attribute [local go_sem] max2_int min2_int max_two min_two max_three min_three max_four min_four
end Go.Proofs.YtkekohmkaefdnaaGreatDoor.Pb
namespace Go.Proofs.YtkekohmkaefdnaaGreatDoor.Pc
open Go.Proofs.YtkekohmkaefdnaaGreatDoor.Pa Go.Proofs.YtkekohmkaefdnaaGreatDoor.Pb
open Go.RowKit Go.Proofs.YtkekohmkaefdnaaGreatDoorW.PrintWords Go.Proofs.YtkekohmkaefdnaaGreatDoorW.PrintLast Go.Proofs.YtkekohmkaefdnaaGreatDoorW.PrintMore
attribute [local go_sem] max2_int min2_int max_two min_two max_three min_three max_four min_four
def errW : Option Int→Value
 | none=>.nilIface
 | some c=>.iface 0 (.int .i64 c)
theorem errW_none : errW none=.nilIface:=rfl
theorem errW_some (c : Int) : errW (some c)=.iface 0 (.int .i64 c):=rfl
theorem info5 : (Tryz.prog.info? 5).map (fun i=>(i.zero,i.size,i.bytes))=some (some (.int .u8 0),1,1):=by kernel_rfl
end Go.Proofs.YtkekohmkaefdnaaGreatDoor.Pc
