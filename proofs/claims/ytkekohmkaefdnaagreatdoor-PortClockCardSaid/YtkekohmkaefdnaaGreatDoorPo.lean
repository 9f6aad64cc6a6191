import Derived.Test.YtkekohmkaefdnaaGreatDoorPc0
import Derived.WalkKit
import Derived.Deep.Draws
import Derived.Shelf.SlicesE.DeleteFunc
import Derived.Test.YtkekohmkaefdnaaGreatDoorPa0
import Derived.Maps.OwnSet
import Derived.Maps.Views
import Derived.Lib.SlKeysI
import Derived.Deep.CutBlock
import Derived.Shelf.Abstract
import Derived.Lib.Hide
set_option linter.unusedSimpArgs false
set_option linter.unusedVariables false
set_option maxHeartbeats 8000000
set_option maxRecDepth 1000000
namespace Go.Proofs.YtkekohmkaefdnaaGreatDoor.Pc
open Go.Proofs.YtkekohmkaefdnaaGreatDoor.Pa Go.Proofs.YtkekohmkaefdnaaGreatDoor.Pb
open Go.RowKit Go.Proofs.YtkekohmkaefdnaaGreatDoorW.PrintWords Go.Proofs.YtkekohmkaefdnaaGreatDoorW.PrintLast Go.Proofs.YtkekohmkaefdnaaGreatDoorW.PrintMore
attribute [local go_sem] max2_int min2_int max_two min_two max_three min_three max_four min_four
/-! ### command_numbers: function 81 -/
def command_numbers.f (a0 : Int) (a1 : Int) : Option (Bool):=if a0 ≥ (-1000000000000) then (if a0 ≤ 1000000000000 then (if a1 ≥ 0 then (some (decide (a1 ≤ 1000000000000))) else (some false)) else (some false)) else (some false)
theorem command_numbers.calls (a0 : Int) (a1 : Int) (r : Bool) (w : World) (h : command_numbers.f a0 a1=some r) :
  Calls Tryz.prog 81 #[.int .i64 a0,.int .i64 a1] w fun e w'=>e=.returned (.bool r)∧Drawn0 w w':=by
 have H : (if a0 ≥ (-1000000000000) then (if a0 ≤ 1000000000000 then (if a1 ≥ 0 then (some (decide (a1 ≤ 1000000000000))) else (some false)) else (some false)) else (some false))=some r:=h
 clear h
 by_cases c3 : a0 ≥ (-1000000000000)
 ·rw [if_pos c3] at H
  have c3b0 : decide ((-1000000000000) ≤ a0)=true:=decide_eq_true c3
  clear c3
  by_cases c4 : a0 ≤ 1000000000000
  ·rw [if_pos c4] at H
   have c4b0 : decide (a0 ≤ 1000000000000)=true:=decide_eq_true c4
   clear c4
   by_cases c5 : a1 ≥ 0
   ·rw [if_pos c5] at H
    have c5b0 : decide (0 ≤ a1)=true:=decide_eq_true c5
    clear c5
    obtain rfl:=Option.some.inj H
    go_enter Tryz.func81,Tryz.ntmps81
    go_wp2
    go_ret
    exact ⟨q6_,q9_⟩
   ·rw [if_neg c5] at H
    have c5b0 : decide (0 ≤ a1)=false:=decide_eq_false c5
    clear c5
    obtain rfl:=Option.some.inj H
    go_enter Tryz.func81,Tryz.ntmps81
    go_wp2
    go_ret
    exact ⟨q6_,q9_⟩
  ·rw [if_neg c4] at H
   have c4b0 : decide (a0 ≤ 1000000000000)=false:=decide_eq_false c4
   clear c4
   obtain rfl:=Option.some.inj H
   go_enter Tryz.func81,Tryz.ntmps81
   go_wp2
   go_ret
   exact ⟨q6_,q9_⟩
 ·rw [if_neg c3] at H
  have c3b0 : decide ((-1000000000000) ≤ a0)=false:=decide_eq_false c3
  clear c3
  obtain rfl:=Option.some.inj H
  go_enter Tryz.func81,Tryz.ntmps81
  go_wp2
  go_ret
  exact ⟨q6_,q9_⟩
/-! ### command_rightReply: function 155 -/
mutual
def command_rightReply.j0 : Nat→Bool→Int→ByteArray→Int→Int→List ByteArray→Option (Bool)
 | 0,_,_,_,_,_,_=>none
 | k + 1,x32,x102000,x102001,x102002,x102003,x102004=>if x32=true then (some false) else (command_rightReply.l0 k x102004 (x102004.length : Int) 0)
def command_rightReply.l0 : Nat→List ByteArray→Int→Int→Option (Bool)
 | 0,_,_,_=>none
 | k + 1,x34,x35,x36=>if x36 < x35 then (if 0 ≤ x36 then (if x36 < (x34.length : Int) then (if ((rdOf ByteArray.empty x34 x36).size : Int) > 60 then (some false) else (command_rightReply.l0 k x34 x35 (wrap64 (x36 + 1)))) else (none)) else (none)) else (some true)
end
def command_rightReply.f (k : Nat) (a0_0 : Int) (a0_1 : ByteArray) (a0_2 : Int) (a0_3 : Int) (l0_4 : List ByteArray) : Option (Bool):=if a0_0 < 0 then (command_rightReply.j0 k true a0_0 a0_1 a0_2 a0_3 l0_4) else (if a0_0 > 15 then (command_rightReply.j0 k true a0_0 a0_1 a0_2 a0_3 l0_4) else ((command_numbers.f a0_2 a0_3).bind fun t102=>(if t102=true then (if (a0_1.size : Int) > 500 then (command_rightReply.j0 k true a0_0 a0_1 a0_2 a0_3 l0_4) else (command_rightReply.j0 k (decide ((l0_4.length : Int) > 40)) a0_0 a0_1 a0_2 a0_3 l0_4)) else (command_rightReply.j0 k true a0_0 a0_1 a0_2 a0_3 l0_4))))
theorem command_rightReply.calls (k : Nat) (a0_0 : Int) (a0_1 : ByteArray) (a0_2 : Int) (a0_3 : Int) (A0_4 : Option Addr) (c0_4 : Nat) (l0_4 : List ByteArray) (r : Bool) (w : World) (hr0_4 : Kd.C Kd.string w A0_4 l0_4.length l0_4) (hc0_4 : l0_4.length ≤ c0_4) (h : command_rightReply.f k a0_0 a0_1 a0_2 a0_3 l0_4=some r) :
  Calls Tryz.prog 155 #[.agg #[.int .i64 a0_0,.string a0_1,.int .i64 a0_2,.int .i64 a0_3,.slice A0_4 l0_4.length c0_4]] w fun e w'=>e=.returned (.bool r)∧Below w.heap.size w w':=by
 have hu38:=Tryz.underlying38
 have HR0_4:=Aside0.mk hr0_4
 have HC0_4:=Aside0.mk hc0_4
 clear hr0_4 hc0_4
 have HB:=Aside0.mk (Below.refl w.heap.size w)
 have H : (if a0_0 < 0 then (command_rightReply.j0 k true a0_0 a0_1 a0_2 a0_3 l0_4) else (if a0_0 > 15 then (command_rightReply.j0 k true a0_0 a0_1 a0_2 a0_3 l0_4) else ((command_numbers.f a0_2 a0_3).bind fun t102=>(if t102=true then (if (a0_1.size : Int) > 500 then (command_rightReply.j0 k true a0_0 a0_1 a0_2 a0_3 l0_4) else (command_rightReply.j0 k (decide ((l0_4.length : Int) > 40)) a0_0 a0_1 a0_2 a0_3 l0_4)) else (command_rightReply.j0 k true a0_0 a0_1 a0_2 a0_3 l0_4)))))=some r:=h
 clear h
 have HC2:=Aside0.mk H
 clear H
 go_enter Tryz.func155,Tryz.ntmps155
 go_upto_region 1 with (first | ((with_reducible refine gate_dst (N:=1) rfl ?_);(try (refine gate_guard (by rfl) ?_;dsimp only));refine box_event ?hg (N:=1) ?hd (cs:=#[.int .i64 a0_0,.string a0_1,.int .i64 a0_2,.int .i64 a0_3,.slice A0_4 l0_4.length c0_4]) (t:=38) ?hr ?_;(case hd=>rfl);(case hg=>rfl);(case hr=>first | (go_simp;done) | (go_simp;rfl));intro gb101 hg w3 hbox hb;have n0_:=Aside0.mk (below_step q1_ hb);have n1_:=Aside0.mk (hbox);have n2_:=Aside0.mk ((by rw [hg];exact (below_size q1_) : w.heap.size ≤ gb101));have n3_:=Aside0.mk ((by rw [hg];exact (below_size q1_) : w.heap.size ≤ gb101));clear HB;have HB:=n0_;have BK101:=n1_;have GW101:=n2_;have GE101:=n3_;clear n0_ n1_ n2_ n3_;clear hb hbox hg))
 (try simp only [Act.put,List.setIfInBounds_toArray,List.set_cons_zero,List.set_cons_succ])
 go_cut [32] (fun v32 wc=>∃ (kq : Nat) (x32_1 : Bool),v32=.bool x32_1∧Aside0 (command_rightReply.j0 kq x32_1 a0_0 a0_1 a0_2 a0_3 l0_4=some r)∧Aside0 (kq ≤ k)∧Aside0 (wc.heap[gb101]? = some (.cells #[.int .i64 a0_0,.string a0_1,.int .i64 a0_2,.int .i64 a0_3,(.slice A0_4 l0_4.length c0_4)] 38 (0,0)))∧Aside0 (Below w.heap.size w wc))
 case first=>
  have H:=HC2.out
  clear HC2
  by_cases c4 : a0_0 < 0
  ·rw [if_pos c4] at H
   have c4b0 : decide (a0_0 < 0)=true:=decide_eq_true c4
   clear c4
   (first | rw [c4b0] | (simp only [i64_w,i32_w];rw [c4b0]) | skip)
   have H':=Aside0.mk H
   clear H
   have hcz5_0 : w3.cell? ⟨gb101,0,none⟩=some (.int .i64 a0_0):=(blk_cell BK101.out 0).trans rfl
   have hcz5_1 : w3.cell? ⟨gb101,1,none⟩=some (.string a0_1):=(blk_cell BK101.out 1).trans rfl
   have hcz5_2 : w3.cell? ⟨gb101,2,none⟩=some (.int .i64 a0_2):=(blk_cell BK101.out 2).trans rfl
   have hcz5_3 : w3.cell? ⟨gb101,3,none⟩=some (.int .i64 a0_3):=(blk_cell BK101.out 3).trans rfl
   have hcz5_4 : w3.cell? ⟨gb101,4,none⟩=some (.slice A0_4 l0_4.length c0_4):=(blk_cell BK101.out 4).trans rfl
   have hfz5_0:=blk_frozen BK101.out 0
   have hfz5_1:=blk_frozen BK101.out 1
   have hfz5_2:=blk_frozen BK101.out 2
   have hfz5_3:=blk_frozen BK101.out 3
   have hfz5_4:=blk_frozen BK101.out 4
   go_wp2
   go_meet
   case rel=>exact ⟨_,(true),q6_,H',⟨q45_⟩,⟨q26_⟩,⟨q13_⟩⟩
  ·rw [if_neg c4] at H
   have c4b0 : decide (a0_0 < 0)=false:=decide_eq_false c4
   clear c4
   (first | rw [c4b0] | (simp only [i64_w,i32_w];rw [c4b0]) | skip)
   by_cases c6 : a0_0 > 15
   ·rw [if_pos c6] at H
    have c6b0 : decide (15 < a0_0)=true:=decide_eq_true c6
    clear c6
    have H':=Aside0.mk H
    clear H
    have hcz7_0 : w3.cell? ⟨gb101,0,none⟩=some (.int .i64 a0_0):=(blk_cell BK101.out 0).trans rfl
    have hcz7_1 : w3.cell? ⟨gb101,1,none⟩=some (.string a0_1):=(blk_cell BK101.out 1).trans rfl
    have hcz7_2 : w3.cell? ⟨gb101,2,none⟩=some (.int .i64 a0_2):=(blk_cell BK101.out 2).trans rfl
    have hcz7_3 : w3.cell? ⟨gb101,3,none⟩=some (.int .i64 a0_3):=(blk_cell BK101.out 3).trans rfl
    have hcz7_4 : w3.cell? ⟨gb101,4,none⟩=some (.slice A0_4 l0_4.length c0_4):=(blk_cell BK101.out 4).trans rfl
    have hfz7_0:=blk_frozen BK101.out 0
    have hfz7_1:=blk_frozen BK101.out 1
    have hfz7_2:=blk_frozen BK101.out 2
    have hfz7_3:=blk_frozen BK101.out 3
    have hfz7_4:=blk_frozen BK101.out 4
    go_wp2
    go_meet
    case rel=>exact ⟨_,(true),q6_,H',⟨q45_⟩,⟨q26_⟩,⟨q13_⟩⟩
   ·rw [if_neg c6] at H
    have c6b0 : decide (15 < a0_0)=false:=decide_eq_false c6
    clear c6
    replace H:=Option.bind_eq_some_iff.mp H
    obtain ⟨t102,A80,H⟩:=H
    replace H : (if t102=true then (if (a0_1.size : Int) > 500 then (command_rightReply.j0 k true a0_0 a0_1 a0_2 a0_3 l0_4) else (command_rightReply.j0 k (decide ((l0_4.length : Int) > 40)) a0_0 a0_1 a0_2 a0_3 l0_4)) else (command_rightReply.j0 k true a0_0 a0_1 a0_2 a0_3 l0_4))=some r:=H
    have A8:=Aside0.mk A80
    clear A80
    by_cases c9 : t102=true
    ·subst c9
     have H1 : (if (a0_1.size : Int) > 500 then (command_rightReply.j0 k true a0_0 a0_1 a0_2 a0_3 l0_4) else (command_rightReply.j0 k (decide ((l0_4.length : Int) > 40)) a0_0 a0_1 a0_2 a0_3 l0_4))=some r:=q44_
     clear H
     have H:=H1
     clear H1
     by_cases c10 : (a0_1.size : Int) > 500
     ·rw [if_pos c10] at H
      have c10b0 : decide (500 < (a0_1.size : Int))=true:=decide_eq_true c10
      have c10b1 : decide (500 < a0_1.size)=true:=decide_eq_true (by omega)
      clear c10
      have H':=Aside0.mk H
      clear H
      have hcz11_0 : w3.cell? ⟨gb101,0,none⟩=some (.int .i64 a0_0):=(blk_cell BK101.out 0).trans rfl
      have hcz11_1 : w3.cell? ⟨gb101,1,none⟩=some (.string a0_1):=(blk_cell BK101.out 1).trans rfl
      have hcz11_2 : w3.cell? ⟨gb101,2,none⟩=some (.int .i64 a0_2):=(blk_cell BK101.out 2).trans rfl
      have hcz11_3 : w3.cell? ⟨gb101,3,none⟩=some (.int .i64 a0_3):=(blk_cell BK101.out 3).trans rfl
      have hcz11_4 : w3.cell? ⟨gb101,4,none⟩=some (.slice A0_4 l0_4.length c0_4):=(blk_cell BK101.out 4).trans rfl
      have hfz11_0:=blk_frozen BK101.out 0
      have hfz11_1:=blk_frozen BK101.out 1
      have hfz11_2:=blk_frozen BK101.out 2
      have hfz11_3:=blk_frozen BK101.out 3
      have hfz11_4:=blk_frozen BK101.out 4
      go_wp2_with (first | (go_at_call 81;(with_reducible refine (command_numbers.calls a0_2 a0_3 true _ A8.out).mono ?_);rintro e w' ⟨rfl,⟨nd,rfl⟩⟩))
      go_meet
      case rel=>exact ⟨_,(true),q6_,H',⟨q45_⟩,⟨q26_⟩,⟨q13_⟩⟩
     ·rw [if_neg c10] at H
      have c10b0 : decide (500 < (a0_1.size : Int))=false:=decide_eq_false c10
      have c10b1 : decide (500 < a0_1.size)=false:=decide_eq_false (by omega)
      clear c10
      have H':=Aside0.mk H
      clear H
      have hcz12_0 : w3.cell? ⟨gb101,0,none⟩=some (.int .i64 a0_0):=(blk_cell BK101.out 0).trans rfl
      have hcz12_1 : w3.cell? ⟨gb101,1,none⟩=some (.string a0_1):=(blk_cell BK101.out 1).trans rfl
      have hcz12_2 : w3.cell? ⟨gb101,2,none⟩=some (.int .i64 a0_2):=(blk_cell BK101.out 2).trans rfl
      have hcz12_3 : w3.cell? ⟨gb101,3,none⟩=some (.int .i64 a0_3):=(blk_cell BK101.out 3).trans rfl
      have hcz12_4 : w3.cell? ⟨gb101,4,none⟩=some (.slice A0_4 l0_4.length c0_4):=(blk_cell BK101.out 4).trans rfl
      have hfz12_0:=blk_frozen BK101.out 0
      have hfz12_1:=blk_frozen BK101.out 1
      have hfz12_2:=blk_frozen BK101.out 2
      have hfz12_3:=blk_frozen BK101.out 3
      have hfz12_4:=blk_frozen BK101.out 4
      go_wp2_with (first | (go_at_call 81;(with_reducible refine (command_numbers.calls a0_2 a0_3 true _ A8.out).mono ?_);rintro e w' ⟨rfl,⟨nd,rfl⟩⟩))
      go_meet
      case rel=>exact ⟨_,(decide ((l0_4.length : Int) > 40)),q6_,H',⟨q45_⟩,⟨q26_⟩,⟨q13_⟩⟩
    ·replace c9:=Bool.eq_false_iff.mpr c9
     subst c9
     have H1 : (command_rightReply.j0 k true a0_0 a0_1 a0_2 a0_3 l0_4)=some r:=q20_
     clear H
     have H:=H1
     clear H1
     have H':=Aside0.mk H
     clear H
     have hcz13_0 : w3.cell? ⟨gb101,0,none⟩=some (.int .i64 a0_0):=(blk_cell BK101.out 0).trans rfl
     have hcz13_1 : w3.cell? ⟨gb101,1,none⟩=some (.string a0_1):=(blk_cell BK101.out 1).trans rfl
     have hcz13_2 : w3.cell? ⟨gb101,2,none⟩=some (.int .i64 a0_2):=(blk_cell BK101.out 2).trans rfl
     have hcz13_3 : w3.cell? ⟨gb101,3,none⟩=some (.int .i64 a0_3):=(blk_cell BK101.out 3).trans rfl
     have hcz13_4 : w3.cell? ⟨gb101,4,none⟩=some (.slice A0_4 l0_4.length c0_4):=(blk_cell BK101.out 4).trans rfl
     have hfz13_0:=blk_frozen BK101.out 0
     have hfz13_1:=blk_frozen BK101.out 1
     have hfz13_2:=blk_frozen BK101.out 2
     have hfz13_3:=blk_frozen BK101.out 3
     have hfz13_4:=blk_frozen BK101.out 4
     go_wp2_with (first | (go_at_call 81;(with_reducible refine (command_numbers.calls a0_2 a0_3 false _ A8.out).mono ?_);rintro e w' ⟨rfl,⟨nd,rfl⟩⟩))
     go_meet
     case rel=>exact ⟨_,(true),q6_,H',⟨q45_⟩,⟨q26_⟩,⟨q13_⟩⟩
 case rest=>
  clear HC2
  try clear c1
  try clear p2
  try clear c4
  try clear c4b0
  try clear c6
  try clear c6b0
  try clear c9
  try clear c10
  try clear c10b0
  try clear c10b1
  try clear hcz11_0
  try clear hcz11_1
  try clear hcz11_2
  try clear hcz11_3
  try clear hcz11_4
  try clear hcz12_0
  try clear hcz12_1
  try clear hcz12_2
  try clear hcz12_3
  try clear hcz12_4
  try clear hcz13_0
  try clear hcz13_1
  try clear hcz13_2
  try clear hcz13_3
  try clear hcz13_4
  try clear hcz5_0
  try clear hcz5_1
  try clear hcz5_2
  try clear hcz5_3
  try clear hcz5_4
  try clear hcz7_0
  try clear hcz7_1
  try clear hcz7_2
  try clear hcz7_3
  try clear hcz7_4
  try clear hfz11_0
  try clear hfz11_1
  try clear hfz11_2
  try clear hfz11_3
  try clear hfz11_4
  try clear hfz12_0
  try clear hfz12_1
  try clear hfz12_2
  try clear hfz12_3
  try clear hfz12_4
  try clear hfz13_0
  try clear hfz13_1
  try clear hfz13_2
  try clear hfz13_3
  try clear hfz13_4
  try clear hfz5_0
  try clear hfz5_1
  try clear hfz5_2
  try clear hfz5_3
  try clear hfz5_4
  try clear hfz7_0
  try clear hfz7_1
  try clear hfz7_2
  try clear hfz7_3
  try clear hfz7_4
  obtain ⟨kq,x32_1,rfl,HA,HJ1,BK101,HB⟩:=hcut
  cases kq with
  | zero=>exact absurd HA.out (by simp [command_rightReply.j0])
  | succ kj1=>
   have H:=HA.out
   clear HA
   simp only [command_rightReply.j0] at H
   by_cases c14 : x32_1=true
   ·subst c14
    have H1 : (some false)=some r:=q44_
    clear H
    have H:=H1
    clear H1
    obtain rfl:=Option.some.inj H
    go_wp2
    go_ret
    exact ⟨q3_,q13_⟩
   ·replace c14:=Bool.eq_false_iff.mpr c14
    subst c14
    have H1 : (command_rightReply.l0 kj1 l0_4 (l0_4.length : Int) 0)=some r:=q20_
    clear H
    have H:=H1
    clear H1
    have H':=Aside0.mk H
    clear H
    have hcz15_0 : wc.cell? ⟨gb101,0,none⟩=some (.int .i64 a0_0):=(blk_cell BK101.out 0).trans rfl
    have hcz15_1 : wc.cell? ⟨gb101,1,none⟩=some (.string a0_1):=(blk_cell BK101.out 1).trans rfl
    have hcz15_2 : wc.cell? ⟨gb101,2,none⟩=some (.int .i64 a0_2):=(blk_cell BK101.out 2).trans rfl
    have hcz15_3 : wc.cell? ⟨gb101,3,none⟩=some (.int .i64 a0_3):=(blk_cell BK101.out 3).trans rfl
    have hcz15_4 : wc.cell? ⟨gb101,4,none⟩=some (.slice A0_4 l0_4.length c0_4):=(blk_cell BK101.out 4).trans rfl
    have hfz15_0:=blk_frozen BK101.out 0
    have hfz15_1:=blk_frozen BK101.out 1
    have hfz15_2:=blk_frozen BK101.out 2
    have hfz15_3:=blk_frozen BK101.out 3
    have hfz15_4:=blk_frozen BK101.out 4
    go_wp2
    go_loopg [36] kj1 (fun kq v36 w'=>∃ (x36_2 : Int),v36=.int .i64 x36_2∧Aside0 (command_rightReply.l0 kq l0_4 (l0_4.length : Int) x36_2=some r)∧Aside0 (kq ≤ kj1)∧Aside0 (w'.heap[gb101]? = some (.cells #[.int .i64 a0_0,.string a0_1,.int .i64 a0_2,.int .i64 a0_3,(.slice A0_4 l0_4.length c0_4)] 38 (0,0)))∧Aside0 (Below w.heap.size w w'))
    case atStart=>exact ⟨(0),q6_,H',⟨Nat.le_refl _⟩,⟨q26_⟩,⟨q13_⟩⟩
    case round=>
     clear H'
     try clear c1
     try clear p2
     try clear c4
     try clear c4b0
     try clear c6
     try clear c6b0
     try clear c9
     try clear c10
     try clear c10b0
     try clear c10b1
     try clear c14
     try clear c15
     try clear hcz11_0
     try clear hcz11_1
     try clear hcz11_2
     try clear hcz11_3
     try clear hcz11_4
     try clear hcz12_0
     try clear hcz12_1
     try clear hcz12_2
     try clear hcz12_3
     try clear hcz12_4
     try clear hcz13_0
     try clear hcz13_1
     try clear hcz13_2
     try clear hcz13_3
     try clear hcz13_4
     try clear hcz15_0
     try clear hcz15_1
     try clear hcz15_2
     try clear hcz15_3
     try clear hcz15_4
     try clear hcz5_0
     try clear hcz5_1
     try clear hcz5_2
     try clear hcz5_3
     try clear hcz5_4
     try clear hcz7_0
     try clear hcz7_1
     try clear hcz7_2
     try clear hcz7_3
     try clear hcz7_4
     try clear hfz11_0
     try clear hfz11_1
     try clear hfz11_2
     try clear hfz11_3
     try clear hfz11_4
     try clear hfz12_0
     try clear hfz12_1
     try clear hfz12_2
     try clear hfz12_3
     try clear hfz12_4
     try clear hfz13_0
     try clear hfz13_1
     try clear hfz13_2
     try clear hfz13_3
     try clear hfz13_4
     try clear hfz15_0
     try clear hfz15_1
     try clear hfz15_2
     try clear hfz15_3
     try clear hfz15_4
     try clear hfz5_0
     try clear hfz5_1
     try clear hfz5_2
     try clear hfz5_3
     try clear hfz5_4
     try clear hfz7_0
     try clear hfz7_1
     try clear hfz7_2
     try clear hfz7_3
     try clear hfz7_4
     try clear p2
     obtain ⟨x36_2,rfl,HA,HK2,BK101,HB⟩:=hrel
     cases gk with
     | zero=>exact absurd HA.out (by simp [command_rightReply.l0])
     | succ k2=>
      have H:=HA.out
      clear HA
      simp only [command_rightReply.l0] at H
      by_cases c16 : x36_2 < (l0_4.length : Int)
      ·rw [if_pos c16] at H
       have c16b0 : decide (x36_2 < (l0_4.length : Int))=true:=decide_eq_true c16
       clear c16
       by_cases c17 : 0 ≤ x36_2
       ·rw [if_pos c17] at H
        have c17b0 : decide (0 ≤ x36_2)=true:=decide_eq_true c17
        clear c17
        by_cases c18 : x36_2 < (l0_4.length : Int)
        ·rw [if_pos c18] at H
         have c18b0 : decide (x36_2 < (l0_4.length : Int))=true:=decide_eq_true c18
         clear c18
         by_cases c19 : ((rdOf ByteArray.empty l0_4 x36_2).size : Int) > 60
         ·rw [if_pos c19] at H
          have c19b0 : decide (60 < ((rdOf ByteArray.empty l0_4 x36_2).size : Int))=true:=decide_eq_true c19
          have c19b1 : decide (60 < (rdOf ByteArray.empty l0_4 x36_2).size)=true:=decide_eq_true (by omega)
          clear c19
          obtain rfl:=Option.some.inj H
          have p103 : 0 ≤ (x36_2 : Int):=of_decide_eq_true q5_
          have q103 : x36_2 < (l0_4.length : Int):=of_decide_eq_true q5_
          obtain ⟨ad103,e103,hx103_0⟩:=Kd.at_string HR0_4.out x36_2 p103 q103
          cases e103
          replace hx103_0:=(HB.out.cell (World.block_lt_of_cell? w _ hx103_0)).trans hx103_0
          replace p103:=eq_true p103
          replace q103:=eq_true q103
          go_wp2
          go_ret
          exact ⟨q3_,q13_⟩
         ·rw [if_neg c19] at H
          have c19b0 : decide (60 < ((rdOf ByteArray.empty l0_4 x36_2).size : Int))=false:=decide_eq_false c19
          have c19b1 : decide (60 < (rdOf ByteArray.empty l0_4 x36_2).size)=false:=decide_eq_false (by omega)
          clear c19
          have H':=Aside0.mk H
          clear H
          have p103 : 0 ≤ (x36_2 : Int):=of_decide_eq_true q5_
          have q103 : x36_2 < (l0_4.length : Int):=of_decide_eq_true q5_
          obtain ⟨ad103,e103,hx103_0⟩:=Kd.at_string HR0_4.out x36_2 p103 q103
          cases e103
          replace hx103_0:=(HB.out.cell (World.block_lt_of_cell? w _ hx103_0)).trans hx103_0
          replace p103:=eq_true p103
          replace q103:=eq_true q103
          go_wp2
          go_roundg k2
          case measure=>have:=HJ1.out;have:=HK2.out;omega
          case rel=>exact ⟨(wrap64 (x36_2 + 1)),q6_,H',⟨by have:=HJ1.out;have:=HK2.out;omega⟩,⟨q26_⟩,⟨q13_⟩⟩
        ·rw [if_neg c18] at H
         exact absurd H (by simp)
       ·rw [if_neg c17] at H
        exact absurd H (by simp)
      ·rw [if_neg c16] at H
       have c16b0 : decide (x36_2 < (l0_4.length : Int))=false:=decide_eq_false c16
       clear c16
       obtain rfl:=Option.some.inj H
       go_wp2
       go_ret
       exact ⟨q3_,q13_⟩
/-! ### command_pair: function 157 -/
def command_pair.f (a0 : Int) (a1 : Int) : Option (ByteArray):=(octet_PutBig.f (IntKind.u64.wrap (wrap64 (a0 + 1000000000000))) 8).bind fun t104=>((octet_PutBig.f (IntKind.u64.wrap (a1)) 8).bind fun t105=>(if t104.size + t105.size ≤ 9223372036854775807 then (some (t104 ++ t105)) else (none)))
theorem command_pair.calls (a0 : Int) (a1 : Int) (r : ByteArray) (w : World) (h : command_pair.f a0 a1=some r) :
  Calls Tryz.prog 157 #[.int .i64 a0,.int .i64 a1] w fun e w'=>e=.returned (.string r)∧Below w.heap.size w w':=by
 have HB:=Aside0.mk (Below.refl w.heap.size w)
 have H : ((octet_PutBig.f (IntKind.u64.wrap (wrap64 (a0 + 1000000000000))) 8).bind fun t104=>((octet_PutBig.f (IntKind.u64.wrap (a1)) 8).bind fun t105=>(if t104.size + t105.size ≤ 9223372036854775807 then (some (t104 ++ t105)) else (none))))=some r:=h
 clear h
 replace H:=Option.bind_eq_some_iff.mp H
 obtain ⟨t104,A30,H⟩:=H
 replace H : ((octet_PutBig.f (IntKind.u64.wrap (a1)) 8).bind fun t105=>(if t104.size + t105.size ≤ 9223372036854775807 then (some (t104 ++ t105)) else (none)))=some r:=H
 have A3:=Aside0.mk A30
 clear A30
 replace H:=Option.bind_eq_some_iff.mp H
 obtain ⟨t105,A40,H⟩:=H
 replace H : (if t104.size + t105.size ≤ 9223372036854775807 then (some (t104 ++ t105)) else (none))=some r:=H
 have A4:=Aside0.mk A40
 clear A40
 by_cases c5 : t104.size + t105.size ≤ 9223372036854775807
 ·rw [if_pos c5] at H
  have c5b0:=eq_true c5
  have c5b1 : decide (t104.size + t105.size ≤ 9223372036854775807)=true:=decide_eq_true c5
  try have c5b2 : (9223372036854775807 < t104.size + t105.size)=False:=eq_false (Nat.not_lt.2 c5)
  obtain rfl:=Option.some.inj H
  go_enter Tryz.func157,Tryz.ntmps157
  go_wp2_with (first | ((with_reducible refine gate_callee (f:=137) rfl ?_);refine goesL_ (some 8) rfl rfl Tryz.func137 (by kernel_rfl) rfl #[.int .u64 (IntKind.u64.wrap (wrap64 (a0 + 1000000000000))),.int .i64 8] rfl q7_ ?_;(with_reducible refine (octet_PutBig.calls (IntKind.u64.wrap (wrap64 (a0 + 1000000000000))) 8 t104 _ A3.out).mono ?_);rintro e w6 ⟨rfl,hb⟩;refine ⟨_,rfl,?_⟩;have n0_:=Aside0.mk (below_step q1_ hb);clear HB;have HB:=n0_;clear n0_;(try clear hb);(try clear hb2);(try clear hk);(try clear hi)) | ((with_reducible refine gate_callee (f:=137) rfl ?_);refine goesL_ (some 11) rfl rfl Tryz.func137 (by kernel_rfl) rfl #[.int .u64 (IntKind.u64.wrap (a1)),.int .i64 8] rfl q7_ ?_;(with_reducible refine (octet_PutBig.calls (IntKind.u64.wrap (a1)) 8 t105 _ A4.out).mono ?_);rintro e w7 ⟨rfl,hb⟩;refine ⟨_,rfl,?_⟩;have n0_:=Aside0.mk (below_step q1_ hb);clear HB;have HB:=n0_;clear n0_;(try clear hb);(try clear hb2);(try clear hk);(try clear hi)))
  go_ret
  exact ⟨q3_,q1_⟩
 ·rw [if_neg c5] at H
  exact absurd H (by simp)
/-! ### command_short: function 158 -/
end Go.Proofs.YtkekohmkaefdnaaGreatDoor.Pc
namespace Go.Proofs.YtkekohmkaefdnaaGreatDoor.Pc
open Go.Proofs.YtkekohmkaefdnaaGreatDoor.Pa Go.Proofs.YtkekohmkaefdnaaGreatDoor.Pb
open Go.RowKit Go.Proofs.YtkekohmkaefdnaaGreatDoorW.PrintWords Go.Proofs.YtkekohmkaefdnaaGreatDoorW.PrintLast Go.Proofs.YtkekohmkaefdnaaGreatDoorW.PrintMore
attribute [local go_sem] max2_int min2_int max_two min_two max_three min_three max_four min_four
end Go.Proofs.YtkekohmkaefdnaaGreatDoor.Pc
namespace Go.Proofs.YtkekohmkaefdnaaGreatDoor
open Go.RowKit
structure Tch (S : Nat→Prop) (W w1 : World) : Prop where
 os : w1.os=W.os
 tape : w1.tape=W.tape
 output : w1.output=W.output
 size : W.heap.size ≤ w1.heap.size
 block : ∀ k,k < W.heap.size→¬ S k→w1.heap[k]? = W.heap[k]?
namespace Tch
variable {S S' : Nat→Prop} {W w1 w2 : World}
theorem refl (S : Nat→Prop) (W : World) : Tch S W W:=⟨rfl,rfl,rfl,Nat.le_refl _,fun _ _ _=>rfl⟩
theorem trans (h : Tch S W w1) (k : Tch S' w1 w2) (hs : ∀ k,k < W.heap.size→S' k→S k) : Tch S W w2:=
 ⟨k.os.trans h.os,k.tape.trans h.tape,k.output.trans h.output,Nat.le_trans h.size k.size,fun i hi hn=>(k.block i (Nat.lt_of_lt_of_le hi h.size) (fun x=>hn (hs i hi x))).trans (h.block i hi hn)⟩
theorem of_below (S : Nat→Prop) (h : Below W.heap.size W w1) : Tch S W w1:=⟨h.os,h.tape,h.output,h.size,fun k hk _=>h.block k hk⟩
theorem of_below' {B : Nat} (h : Below B W w1) : Tch (fun k=>B ≤ k) W w1:=⟨h.os,h.tape,h.output,h.size,fun k _ hn=>h.block k (Nat.lt_of_not_le hn)⟩
theorem of_grown {row : Option Nat} (h : W.grownBy w1 row) : Tch (fun k=>row=some k) W w1:=⟨h.os,h.tape,h.output,h.size,fun k hk hn=>h.block k hk (fun e=>hn e.symm)⟩
theorem mono (h : Tch S W w1) (hs : ∀ k,k < W.heap.size→S k→S' k) : Tch S' W w1:=⟨h.os,h.tape,h.output,h.size,fun k hk hn=>h.block k hk (fun x=>hn (hs k hk x))⟩
theorem below {B : Nat} {w0 : World} (h : Tch S W w1) (hb : Below B w0 W) (hB : B ≤ W.heap.size) (hs : ∀ k,S k→B ≤ k) : Below B w0 w1:=
 hb.trans ⟨h.os,h.tape,h.output,h.size,fun k hk=>h.block k (Nat.lt_of_lt_of_le hk hB) (fun x=>Nat.not_lt.2 (hs k x) hk)⟩
theorem below' (h : Tch S W w1) (hs : ∀ k,S k→W.heap.size ≤ k) : Below W.heap.size W w1:=h.below (Below.refl _ _) (Nat.le_refl _) hs
theorem set (W : World) (p : Addr) (u : Value) : Tch (fun k=>k=p.block) W (W.setCell p u):=
 ⟨rfl,rfl,rfl,by simp [World.setCell],fun k _ hn=>Below.heap_setCell W p u k hn⟩
theorem alloc (S : Nat→Prop) (W : World) (o : Obj) : Tch S W (W.alloc o):=of_below S ((Below.refl _ W).alloc (Nat.le_refl _) o)
theorem drew (S : Nat→Prop) (W : World) : Tch S W W.drew:=⟨rfl,rfl,rfl,Nat.le_refl _,fun _ _ _=>rfl⟩
theorem drewN (S : Nat→Prop) (W : World) (n : Nat) : Tch S W (W.drewN n):=⟨rfl,rfl,rfl,Nat.le_refl _,fun _ _ _=>rfl⟩
theorem cell (h : Tch S W w1) {p : Addr} (hp : p.block < W.heap.size) (hn : ¬ S p.block) : w1.cell? p=W.cell? p:=World.cell?_of_block (h.block _ hp hn)
theorem lt (h : Tch S W w1) {k : Nat} (hk : k < W.heap.size) : k < w1.heap.size:=Nat.lt_of_lt_of_le hk h.size
end Tch
def At (w : World) (b : Nat) (cs : List Value) (t : Nat) : Prop:=w.heap[b]? = some (.cells cs.toArray t (0,0))
namespace At
variable {w w1 : World} {b : Nat} {cs : List Value} {t : Nat} {S : Nat→Prop}
theorem lt (h : At w b cs t) : b < w.heap.size:=(Array.getElem?_eq_some_iff.1 h).1
theorem cell (h : At w b cs t) (i : Nat) {v : Value} (hv : cs[i]? = some v) : w.cell? ⟨b,i,none⟩=some v:=by
 unfold World.cell?
 simp only [show w.heap[b]? = some (.cells cs.toArray t (0,0)) from h]
 simpa using hv
theorem frozen (h : At w b cs t) (i : Nat) : w.frozen? ⟨b,i,none⟩=false:=by
 unfold World.frozen?
 simp only [show w.heap[b]? = some (.cells cs.toArray t (0,0)) from h]
 simp
theorem tch (h : At w b cs t) (k : Tch S w w1) (hb : ¬ S b) : At w1 b cs t:=(k.block b h.lt hb).trans h
theorem below {B : Nat} (h : At w b cs t) (k : Below B w w1) (hb : b < B) : At w1 b cs t:=(k.block b hb).trans h
theorem grown {row : Option Nat} (h : At w b cs t) (k : w.grownBy w1 row) (hb : row ≠ some b) : At w1 b cs t:=h.tch (Tch.of_grown k) hb
theorem set (h : At w b cs t) (i : Nat) (v : Value) : At (w.setCell ⟨b,i,none⟩ v) b (cs.set i v) t:=by
 unfold At World.setCell
 simp only [Array.getElem?_modify]
 rw [show w.heap[b]? = some (.cells cs.toArray t (0,0)) from h]
 simp
theorem other (h : At w b cs t) (p : Addr) (v : Value) (hb : b ≠ p.block) : At (w.setCell p v) b cs t:=h.tch (Tch.set w p v) hb
theorem alloc (h : At w b cs t) (o : Obj) : At (w.alloc o) b cs t:=h.tch (Tch.alloc (fun _=>False) w o) (fun x=>x)
theorem new (w : World) (cs : Array Value) (t : Nat) : At (w.alloc (.cells cs t)) w.heap.size cs.toList t:=by
 unfold At
 simpa using (MapKept.heap_alloc w (.cells cs t)).1
theorem drew (h : At w b cs t) : At w.drew b cs t:=h
theorem drewN (h : At w b cs t) (n : Nat) : At (w.drewN n) b cs t:=h
end At
theorem size_set (w : World) (p : Addr) (v : Value) : (w.setCell p v).heap.size=w.heap.size:=by simp [World.setCell]
end Go.Proofs.YtkekohmkaefdnaaGreatDoor
namespace Go.Proofs.YtkekohmkaefdnaaGreatDoor
open Go.Shelf Go.RowKit Go.Lib Go.Sort Go.Proofs
variable {P : Program} {ρ : Ren} {α : Type} [Inhabited α]
theorem index_func (L : SlLaysH.n6 P ρ) (enc : α→Value) (p : α→Bool) (g : Nat) (lb : Array Value) (eg : ∀ args w,(callFunc g args).run P w=.ok (.enter g args) w) (b off n c : Nat) (zs : List α) (w : World)
  (hp : ∀ x ∈ zs,∀ q,FnGives P g lb #[enc x] (.bool (p x)) (w.drewN q)) (hz : n ≤ zs.length) (hbig : n ≤ 9223372036854775807) (hc : ∀ j,j < zs.length→w.cell? ⟨b,off + j,none⟩=some (enc zs[j]!)) :
  Calls P (ρ.f 6) #[.slice (some ⟨b,off,none⟩) n c,.func (.func g) #[] lb] w fun e w'=>e=.returned (.int .i64 (Lib.idxBy (fun _ y=>p y) (zs.take n) default))∧∃ q,w'=w.drewN q:=by
 have mixed:=L.mixed;have t0:=L.t0;have a0:=L.a0;have z0:=L.z0;have v0:=L.v0;have t3:=L.t3;have a3:=L.a3;have z3:=L.z3;have v3:=L.v3;have t4:=L.t4;have a4:=L.a4;have z4:=L.z4;have v4:=L.v4;have t22:=L.t22;have a22:=L.a22;have z22:=L.z22;have v22:=L.v22;have a23:=L.a23;have z23:=L.z23;have t25:=L.t25;have a25:=L.a25;have z25:=L.z25;have v25:=L.v25
 have hpAt : ∀ (x : α),x ∈ zs→∀ (q : Nat),Calls P g (#[enc x] ++ lb) (w.drewN q) fun e w'=>e=.returned (.bool (p x))∧∃ q',w'=(w.drewN q).drewN q':=fun x hx q=>hp x hx q
 have hmem : ∀ j,j < zs.length→zs[j]! ∈ zs:=fun j hj=>by rw [getElem!_pos zs j hj];exact List.getElem_mem hj
 clear hp
 obtain ⟨_,_,FG⟩:=L.f6
 go_enter FG,SlBodyH.n6_ntmps ρ
 go_wp2
 go_loopg [5,8] n (fun gg _ s8 wr=>∃ kk q : Nat,kk ≤ n∧n - kk ≤ gg∧s8=.int .i64 kk∧wr=w.drewN q∧Aside (∀ j,j < kk→p zs[j]! = false))
 case atStart=>exact ⟨0,0,Nat.zero_le _,by omega,rfl,rfl,fun j hj=>absurd hj (Nat.not_lt_zero _)⟩
 case round=>
  obtain ⟨kk,q,hkk,hg,rfl,rfl,A⟩:=hrel
  by_cases hlt : kk < n
  ·have hltz : (kk : Int) < (n : Int):=by omega
   have hcell : w.cell? ⟨b,off + kk,none⟩=some (enc zs[kk]!):=hc kk (by omega)
   have hcall:=hpAt _ (hmem kk (by omega))
   clear hc hmem hpAt
   generalize hy : zs[kk]! = y at hcell hcall
   have B : Aside (zs[kk]! = y):=hy
   clear hy
   cases hq : p y with
   | true=>
    rw [hq] at hcall
    go_wp2_with (go_at_fn g;refine (hcall _).mono ?_;rintro e w' ⟨rfl,q',rfl⟩)
    go_ret
    refine ⟨?_,_,rfl⟩
    rw [Lib.idxBy_hit (fun _ y=>p y) zs n kk default hlt hz (by show p zs[kk]! = true;rw [B.out];exact hq) A.out]
    rfl
   | false=>
    rw [hq] at hcall
    go_wp2_with (go_at_fn g;refine (hcall _).mono ?_;rintro e w' ⟨rfl,q',rfl⟩)
    go_roundg (n - (kk + 1))
    case measure=>omega
    case rel=>
     refine ⟨kk + 1,_,by omega,by omega,by go_num,rfl,(show Aside _ from fun j hj=>?_)⟩
     by_cases e : j=kk
     ·subst e
      rw [B.out];exact hq
     ·exact A.out j (by omega)
  ·have hltz : ¬ (kk : Int) < (n : Int):=by omega
   have : kk=n:=by omega
   subst this
   clear hmem hpAt
   go_wp2
   go_ret
   refine ⟨?_,q,rfl⟩
   rw [Lib.idxBy_miss (fun _ y=>p y) zs kk default A.out]
   rfl
theorem tch_ahead (S : Nat→Prop) (w : World) (q : Nat) : Tch S w (Sort.ahead w q):=⟨rfl,rfl,rfl,Nat.le_refl _,fun _ _ _=>rfl⟩
omit [Inhabited α] in
theorem tch_setCells : ∀ (vs : List Value) (w : World) (blk off : Nat),Tch (fun k=>k=blk) w (w.setCells blk off vs):=by
 intro vs
 induction vs with
 | nil=>intro w blk off;exact Tch.refl _ _
 | cons v r ih=>intro w blk off;exact (Tch.set w ⟨blk,off,none⟩ v).trans (ih _ blk (off + 1)) (fun _ _ h=>h)
theorem tch_putRow (enc : α→Value) (w : World) (blk off : Nat) (d : Array α) : Tch (fun k=>k=blk) w (putRow enc w blk off d):=
 ⟨rfl,rfl,rfl,by simp,fun k hk hn=>by simp [putRow,mapBlock,Array.getElem?_modify,show ¬ blk=k from fun e=>hn e.symm]⟩
theorem del_nil (L : SlLaysH.n10 P ρ) (fv : Value) (w : World) : Calls P (ρ.f 10) #[.slice none 0 0,fv] w fun e w'=>e=.returned (.slice none 0 0)∧w'=w:=by
 have mixed:=L.mixed;have t0:=L.t0;have a0:=L.a0;have z0:=L.z0;have v0:=L.v0;have t3:=L.t3;have a3:=L.a3;have z3:=L.z3;have v3:=L.v3;have t4:=L.t4;have a4:=L.a4;have z4:=L.z4;have v4:=L.v4;have t22:=L.t22;have a22:=L.a22;have z22:=L.z22;have v22:=L.v22;have a23:=L.a23;have z23:=L.z23;have t25:=L.t25;have a25:=L.a25;have z25:=L.z25;have v25:=L.v25
 have e6 : ∀ args w,(callFunc (ρ.f 6) args).run P w=.ok (.enter (ρ.f 6) args) w:=L.f6.enters rfl
 obtain ⟨_,_,FG⟩:=L.f10
 go_enter FG,SlBodyH.n10_ntmps ρ
 go_wp2_with (go_at_fn (ρ.f 6);refine (AnyE.slices_IndexFunc_empty { L with } none 0 fv _).mono ?_;rintro e w' ⟨rfl,rfl⟩)
 go_ret
 exact ⟨rfl,rfl⟩
theorem del_func (L : SlLaysH.n10 P ρ) (enc : α→Value) (hO : OneCell enc) (p : α→Bool) (g : Nat) (lb : Array Value) (eg : ∀ args w,(callFunc g args).run P w=.ok (.enter g args) w) (zr : α) (v23 : ∀ w,(zeroValue (ρ.t 23)).run P w=.ok (enc zr) w)
  (blk off cap : Nat) (d : Array α) (w : World) (hp : ∀ x ∈ d.toList,∀ q,FnGives P g lb #[enc x] (.bool (p x)) (w.drewN q)) (hpo : ∀ x ∈ d.toList,∀ (q : Nat) (dk : Array α),dk.size=d.size→FnGives P g lb #[enc x] (.bool (p x)) (putRow enc (Sort.ahead w q) blk off dk)) (hH : Holds enc w blk off d) (hsz : d.size ≤ 9223372036854775807) (hcap : d.size ≤ cap) :
  Calls P (ρ.f 10) #[.slice (some ⟨blk,off,none⟩) d.size cap,.func (.func g) #[] lb] w fun e w'=>e=.returned (.slice (some ⟨blk,off,none⟩) (d.toList.filter fun x=>!p x).length cap)∧∃ q,w'=putRow enc (Sort.ahead w q) blk off ((d.toList.filter fun x=>!p x) ++ List.replicate (d.size - (d.toList.filter fun x=>!p x).length) zr).toArray:=by
 have mixed:=L.mixed;have t0:=L.t0;have a0:=L.a0;have z0:=L.z0;have v0:=L.v0;have t3:=L.t3;have a3:=L.a3;have z3:=L.z3;have v3:=L.v3;have t4:=L.t4;have a4:=L.a4;have z4:=L.z4;have v4:=L.v4;have t22:=L.t22;have a22:=L.a22;have z22:=L.z22;have v22:=L.v22;have a23:=L.a23;have z23:=L.z23;have t25:=L.t25;have a25:=L.a25;have z25:=L.z25;have v25:=L.v25
 have e6 : ∀ args w,(callFunc (ρ.f 6) args).run P w=.ok (.enter (ρ.f 6) args) w:=L.f6.enters rfl
 have hcl0:=hO.cells
 simp only [Value.cells] at hcl0
 have hst:=hO.store P
 have tl : ∀ j,j < d.size→d.toList[j]! = d[j]! := fun j hj=>by rw [getElem!_pos d j hj,getElem!_pos d.toList j (by simpa using hj)];simp
 have hcI : ∀ j,j < d.toList.length→w.cell? ⟨blk,off + j,none⟩=some (enc d.toList[j]!):=fun j hj=>by
  have hj' : j < d.size:=by simpa using hj
  rw [(hH j hj').1,tl j hj']
 have hIF:=index_func (P:=P) (ρ:=ρ) { L with } enc p g lb eg blk off d.size cap d.toList w hp (by simp) hsz hcI
 rw [show d.toList.take d.size=d.toList from List.take_of_length_le (by simp)] at hIF
 obtain ⟨kp,HK⟩ : ∃ kp : Nat→Bool,Hid (kp=fun j=>!p d[j]!):=⟨_,rfl⟩
 have hfil : (d.toList.filter fun x=>!p x)=keptUpTo kp d d.size:=by rw [HK.out];exact (keptUpTo_filter (fun x=>!p x) d).symm
 rw [hfil]
 rcases idxByFrom_spec (fun _ y=>p y) default d.toList 0 with ⟨e1,hall⟩ | ⟨k0,hk0,e1,ht,hall⟩
 ·have e2 : Lib.idxBy (fun _ y=>p y) d.toList default=-1:=e1
  rw [e2] at hIF
  have hkeep : ∀ j,j < d.size→kp j=true:=fun j hj=>by rw [HK.out];show (!p d[j]!)=true;rw [← tl j hj,hall j (by simpa using hj)];rfl
  have e3 : keptUpTo kp d d.size=d.toList:=by rw [keptUpTo_all kp d _ hkeep,range_map_get]
  have HH : Aside (Holds enc w blk off d):=hH
  clear hH hpo hp
  obtain ⟨_,_,FG⟩:=L.f10
  go_enter FG,SlBodyH.n10_ntmps ρ
  go_wp2_with (go_at_fn (ρ.f 6);refine hIF.mono ?_;rintro e w' ⟨rfl,q0,rfl⟩)
  go_ret
  rw [e3]
  refine ⟨by simp,q0,?_⟩
  simp only [Array.length_toList,Nat.sub_self,List.replicate_zero,List.append_nil,Array.toArray_toList]
  exact (putRow_self enc (Sort.ahead w q0) blk off d (holds_ahead enc w q0 blk off d HH.out)).symm
 ·have hk0' : k0 < d.size:=by simpa using hk0
  have e2 : Lib.idxBy (fun _ y=>p y) d.toList default=(k0 : Int):=by unfold Lib.idxBy;rw [e1];simp
  rw [e2] at hIF
  have hkeep : ∀ j,j < k0→kp j=true:=fun j hj=>by rw [HK.out];show (!p d[j]!)=true;rw [← tl j (by omega),hall j hj];rfl
  have hdrop : kp k0=false:=by rw [HK.out];show (!p d[k0]!)=false;rw [← tl k0 hk0'];rw [show p d.toList[k0]! = true from ht];rfl
  have hne1 : ((k0 : Int) == -1)=false:=beq_eq_false_iff_ne.2 (by omega)
  have hcallAt : ∀ (dk : Array α) (u : α) (q : Nat),u ∈ d.toList→dk.size=d.size→Calls P g (#[enc u] ++ lb) (putRow enc (Sort.ahead w q) blk off dk) fun e w'=>e=.returned (.bool (p u))∧∃ qq,w'=(putRow enc (Sort.ahead w q) blk off dk).drewN qq:=fun dk u q hu hs=>hpo u hu q dk hs
  have hmem : ∀ j,j < d.size→d[j]! ∈ d.toList:=fun j hj=>by rw [getElem!_pos d j hj];simp
  have HM : Aside _:=hmem
  have HC : Aside _:=hcallAt
  have HH : Aside (Holds enc w blk off d):=hH
  clear hcallAt hpo hp hH hall ht e1 e2 tl hmem
  obtain ⟨_,_,FG⟩:=L.f10
  go_enter FG,SlBodyH.n10_ntmps ρ
  go_wp2_with (go_at_fn (ρ.f 6);refine hIF.mono ?_;rintro e w' ⟨rfl,q0,rfl⟩)
  go_loopg [5,6,7] d.size (fun gg s5 s6 _ wr=>∃ (i j q : Nat) (dk : Array α),s5=.int .i64 i∧s6=.int .i64 j∧j ≤ d.size∧d.size - j ≤ gg∧wr=putRow enc (Sort.ahead w q) blk off dk∧Aside (KeptInv kp d j i dk))
  case atStart=>exact ⟨k0,k0 + 1,q0,d,rfl,by go_num,by omega,by omega,(putRow_self enc (Sort.ahead w q0) blk off d (holds_ahead enc w q0 blk off d HH.out)).symm,KeptInv.start hkeep hdrop⟩
  case round=>
   obtain ⟨i,j,q,dk,rfl,rfl,hjd,hgg,hwr,I2⟩:=hrel
   have hI:=I2.out
   have hij:=hI.lt
   have hds:=hI.size
   have hHk : Holds enc wr blk off dk:=by rw [hwr];exact holds_putRow enc _ blk off d dk (holds_ahead enc w q blk off d HH.out) hds
   have W2 : Aside (wr=putRow enc (Sort.ahead w q) blk off dk):=hwr
   by_cases hlt : j < d.size
   ·have hltz : (j : Int) < (d.size : Int):=by omega
    obtain ⟨cj,_⟩:=hHk j (by omega)
    obtain ⟨ci,fi⟩:=hHk i (by omega)
    rw [hI.high j (by omega)] at cj
    have hcall:=HC.out dk d[j]! q (HM.out j hlt) hds
    rw [← hwr] at hcall
    clear hHk hI hwr
    generalize hu : d[j]! = u at cj hcall
    generalize dk[i]! = old at ci
    have C : Aside (d[j]! = u):=hu
    clear hu
    cases hq : p u with
    | false=>
     rw [hq] at hcall
     go_wp2_with (go_at_fn g;refine hcall.mono ?_;rintro e w' ⟨rfl,qq,rfl⟩)
     go_roundg (d.size - (j + 1))
     case measure=>omega
     case rel=>
      refine ⟨i + 1,j + 1,q + qq,dk.setIfInBounds i u,by go_num,by go_num,by omega,Nat.le_refl _,?_,(show Aside _ from ?_)⟩
      ·rw [W2.out,show (putRow enc (Sort.ahead w q) blk off dk).drewN qq=putRow enc (Sort.ahead w (q + qq)) blk off dk from putRow_drewN _ _ _ _ _ _ _,putRow_set enc _ blk off dk i u (by omega)]
      ·have:=I2.out.keep hlt (by rw [HK.out];show (!p d[j]!)=true;rw [C.out,hq];rfl)
       rwa [C.out] at this
    | true=>
     rw [hq] at hcall
     go_wp2_with (go_at_fn g;refine hcall.mono ?_;rintro e w' ⟨rfl,qq,rfl⟩)
     go_roundg (d.size - (j + 1))
     case measure=>omega
     case rel=>exact ⟨i,j + 1,q + qq,dk,rfl,by go_num,by omega,Nat.le_refl _,by rw [W2.out];exact putRow_drewN _ _ _ _ _ _ _,I2.out.skip (by rw [HK.out];show (!p d[j]!)=false;rw [C.out,hq];rfl)⟩
   ·obtain rfl : j=d.size:=by omega
    have hltz : ¬ (d.size : Int) < (d.size : Int):=by omega
    have hcl : ∀ ty,(Builtin.clear_ #[ρ.t 22] ty #[.slice (some ⟨blk,off + i,none⟩) (d.size - i) (cap - i)]).run P wr=.ok (.tuple #[]) (wr.setCells blk (off + i) (List.replicate (d.size - i) (enc zr))):=
     fun ty=>Lib.run_clear_slice wr _ _ ty _ t22 v23 (hO.cells zr) (hO zr) blk (off + i) _ _ (by omega) (fun t ht=>by rw [show off + i + t=off + (i + t) by omega,(hHk (i + t) (by omega)).1];rfl) (fun t ht=>by rw [show off + i + t=off + (i + t) by omega];exact (hHk (i + t) (by omega)).2)
    clear hHk hI hwr
    go_wp2
    go_ret
    have hI:=I2.out
    refine ⟨by rw [hI.len];rfl,q,?_⟩
    rw [hI.len,← hI.done zr,← putRow_setCells enc _ blk off _ dk i (by simp;omega),← W2.out,List.map_replicate]
end Go.Proofs.YtkekohmkaefdnaaGreatDoor
namespace Go.Proofs.YtkekohmkaefdnaaGreatDoor
open Go.RowKit
theorem i64_add (a : Addr) (x y s : Int) (w : World) (hc : w.cell? a=some (.int .i64 x)) (hz : w.frozen? a=false) (hs : IntKind.i64.wrap (x + y)=s) :
  Calls Tryz.prog 55 #[.pointer (some a),.int .i64 y] w fun e w'=>e=.returned (.int .i64 s)∧w'=w.setCell a (.int .i64 s):=by
 have hadd:=run_call_add (P:=Tryz.prog) Tryz.func88 (by kernel_rfl) (by kernel_rfl) (by kernel_rfl) .i64 (by kernel_rfl) (y:=y) (s:=s) hc hz (by simp [go_sem];exact hs)
 clear hs
 go_enter Tryz.func55,Tryz.ntmps55
 go_wp2
 go_ret
 exact ⟨rfl,rfl⟩
theorem i64_load (a : Addr) (x : Int) (w : World) (hc : w.cell? a=some (.int .i64 x)) :
  Calls Tryz.prog 65 #[.pointer (some a)] w fun e w'=>e=.returned (.int .i64 x)∧w'=w:=by
 have hl:=run_call_load (P:=Tryz.prog) Tryz.func96 (by kernel_rfl) (by kernel_rfl) (by kernel_rfl) .i64 (by kernel_rfl) hc
 go_enter Tryz.func65,Tryz.ntmps65
 go_wp2
 go_ret
 exact ⟨rfl,rfl⟩
theorem once_done (b off : Nat) (fv : Value) (w : World) (h0 : w.cell? ⟨b,off,none⟩=some (.int .u32 1)) :
  Calls Tryz.prog 94 #[.pointer (some ⟨b,off,none⟩),fv] w fun e w'=>e=.returned (.tuple #[])∧w'=w:=by
 have hl:=run_call_load (P:=Tryz.prog) Tryz.func178 (by kernel_rfl) (by kernel_rfl) (by kernel_rfl) .u32 (by kernel_rfl) h0
 have hnot : ∀ (x : Bool) (w : World),(Op.unary .not (.bool x)).run Tryz.prog w=.ok (.bool (!x)) w:=fun _ _=>rfl
 go_enter Tryz.func94,Tryz.ntmps94
 go_wp2_with (go_at_call 126;go_in)
 go_end0
 exact ⟨rfl,rfl⟩
end Go.Proofs.YtkekohmkaefdnaaGreatDoor
namespace Go.Proofs.YtkekohmkaefdnaaGreatDoor
open Go.RowKit Go.Maps Go.WideShapes
abbrev Da:=DataW Unit
def ptrD (b : Nat) : Da:=.lit (.int .i64 b)
def nilD : Da:=.lit (.int .i64 (-1))
def Rp (v : Value) : Option (Da × List MemPlace):=
 match v with
 | .pointer none=>some (nilD,[])
 | .pointer (some ⟨b,0,none⟩)=>some (ptrD b,[])
 | _=>none
theorem Rp_nil : Rp (.pointer none)=some (nilD,[]):=rfl
theorem Rp_ptr (b : Nat) : Rp (.pointer (some ⟨b,0,none⟩))=some (ptrD b,[]):=rfl
theorem ptrD_inj {a b : Nat} (h : ptrD a=ptrD b) : a=b:=by
 unfold ptrD at h
 injection h with h
 injection h with _ h
 omega
theorem ptr_ne_nil (b : Nat) : ptrD b ≠ nilD:=by
 intro h
 unfold ptrD nilD at h
 injection h with h
 injection h with _ h
 omega
theorem Rp_inv {v : Value} {d : Da} {ps : List MemPlace} (h : Rp v=some (d,ps)) : (v=.pointer none∧d=nilD) ∨ ∃ b,v=.pointer (some ⟨b,0,none⟩)∧d=ptrD b:=by
 unfold Rp at h
 split at h
 ·injection h with h
  injection h with h1 h2
  exact .inl ⟨rfl,h1.symm⟩
 ·rename_i b
  injection h with h
  injection h with h1 h2
  exact .inr ⟨b,rfl,h1.symm⟩
 ·cases h
theorem Rp_is_ptr {v : Value} {b : Nat} {ps : List MemPlace} (h : Rp v=some (ptrD b,ps)) : v=.pointer (some ⟨b,0,none⟩):=by
 rcases Rp_inv h with ⟨_,h2⟩ | ⟨b',rfl,h2⟩
 ·exact absurd h2 (ptr_ne_nil b)
 ·rw [ptrD_inj h2]
theorem Rp_is_nil {v : Value} {ps : List MemPlace} (h : Rp v=some (nilD,ps)) : v=.pointer none:=by
 rcases Rp_inv h with ⟨h2,_⟩ | ⟨b',rfl,h2⟩
 ·exact h2
 ·exact absurd h2.symm (ptr_ne_nil b')
def atId (bs : List Nat) (i : Int) : Option Nat:=if 1 ≤ i then bs[(i - 1).toNat]? else none
def ofOpt : Option Nat→Da
 | some b=>ptrD b
 | none=>nilD
def ptrV : Option Nat→Value
 | some b=>.pointer (some ⟨b,0,none⟩)
 | none=>.pointer none
theorem Rp_ofOpt {v : Value} {o : Option Nat} {ps : List MemPlace} (h : Rp v=some (ofOpt o,ps)) : v=ptrV o:=by
 cases o with
 | none=>exact Rp_is_nil h
 | some b=>exact Rp_is_ptr h
structure MapIs (D : Da) (bs : List Nat) : Prop where
 tidy : Tidy D
 at_ : ∀ i : Int,D.atKey (.int .i64 i) nilD=ofOpt (atId bs i)
 keys : (intKeys D).Perm ((List.range bs.length).map fun (k : Nat)=>(k : Int) + 1)
 size : Maps.size D=bs.length
 has_ : ∀ i : Int,has D (.int .i64 i)=true→1 ≤ i∧i ≤ bs.length
 lits : ∀ es,D=.map es→∀ p ∈ es,∃ i,p.1=.int .i64 i
theorem MapIs.empty : MapIs (.map []) []:=
 ⟨tidy_empty,fun i=>by unfold atId;split <;> rfl,List.Perm.refl _,rfl,fun i h=>by simp [has] at h,fun es h p hp=>by injection h with h;subst h;cases hp⟩
theorem int_lit (i : Int) : WideAt.IsKeyLit (.int .i64 i):=trivial
theorem MapIs.put {D : Da} {bs : List Nat} (h : MapIs D bs) (b : Nat) : MapIs (D.put (.int .i64 ((bs.length : Int) + 1)) (ptrD b)) (bs ++ [b]):=by
 have hno : has D (.int .i64 ((bs.length : Int) + 1))=false:=by
  cases hh : has D (.int .i64 ((bs.length : Int) + 1)) with
  | false=>rfl
  | true=>have:=h.has_ _ hh;omega
 obtain ⟨es,hes,_⟩:=h.tidy
 have hfil : (es.filter fun p=>!p.1.sameKey (.int .i64 ((bs.length : Int) + 1)))=es:=by
  rw [hes] at hno
  rw [List.filter_eq_self]
  intro p hp
  have:=(List.any_eq_false.1 hno) p hp
  simpa using this
 have hput : D.put (.int .i64 ((bs.length : Int) + 1)) (ptrD b)=.map (DataW.insert (.int .i64 ((bs.length : Int) + 1),ptrD b) es):=by
  rw [hes]
  show DataW.map _=_
  rw [hfil]
 refine ⟨h.tidy.put (int_lit _) _,fun i=>?_,?_,?_,fun i hi=>?_,fun es' he' p hp=>?_⟩
 ·by_cases hi : i=(bs.length : Int) + 1
  ·subst hi
   rw [atKey_put_same h.tidy.isMap (int_lit _)]
   unfold atId
   rw [if_pos (by omega),show ((bs.length : Int) + 1 - 1).toNat=bs.length from by omega,List.getElem?_append_right (Nat.le_refl _),Nat.sub_self]
   rfl
  ·rw [atKey_put_other (fun e=>hi (by injection e)),h.at_ i]
   unfold atId
   by_cases h1 : 1 ≤ i
   ·rw [if_pos h1,if_pos h1]
    by_cases h2 : (i - 1).toNat < bs.length
    ·rw [List.getElem?_append_left h2]
    ·rw [List.getElem?_eq_none (by omega),List.getElem?_eq_none (by rw [List.length_append,List.length_singleton];omega)]
   ·rw [if_neg h1,if_neg h1]
 ·rw [hput]
  have hk : (intKeys D).Perm _:=h.keys
  rw [hes] at hk
  show ((DataW.insert _ es).map fun p=>_root_.Go.intOf p.1).Perm _
  refine ((insert_perm _ _).map _).trans ?_
  rw [List.map_cons,List.length_append,List.length_singleton,List.range_succ,List.map_append]
  refine List.Perm.trans ?_ List.perm_append_comm
  exact List.Perm.cons _ hk
 ·rw [size_put h.tidy,hno,h.size,List.length_append,List.length_singleton]
  rfl
 ·rw [List.length_append,List.length_singleton]
  by_cases he : i=(bs.length : Int) + 1
  ·omega
  ·rw [has_put_other (fun e=>he (by injection e))] at hi
   have:=h.has_ i hi
   omega
 ·rw [hput] at he'
  injection he' with he'
  subst he'
  rcases List.mem_cons.1 ((insert_perm _ _).mem_iff.1 hp) with rfl | hp
  ·exact ⟨_,rfl⟩
  ·exact h.lits es hes p hp
theorem MapIs.sorted {D : Da} {bs : List Nat} (h : MapIs D bs) {ss : List Int} (hs : ss.Perm (intKeys D)) : ss.mergeSort (fun x y=>decide (x ≤ y))=(List.range bs.length).map fun (k : Nat)=>(k : Int) + 1:=by
 have hp : (ss.mergeSort (fun x y=>decide (x ≤ y))).Perm ((List.range bs.length).map fun (k : Nat)=>(k : Int) + 1):=(List.mergeSort_perm _ _).trans (hs.trans h.keys)
 refine List.Perm.eq_of_pairwise (le:=fun x y : Int=>x ≤ y) (fun a b _ _ h1 h2=>by omega) ?_ ?_ hp
 ·have:=List.pairwise_mergeSort (le:=fun x y : Int=>decide (x ≤ y)) (fun a b c h1 h2=>by simp at h1 h2 ⊢;omega) (fun a b=>by simp;omega) ss
  exact this.imp (fun {a b} hab=>by simpa using hab)
 ·rw [List.pairwise_map]
  exact List.pairwise_lt_range.imp (fun {a b} hab=>by omega)
end Go.Proofs.YtkekohmkaefdnaaGreatDoor
namespace Go.Proofs.YtkekohmkaefdnaaGreatDoor
open Go.RowKit Go.Maps Go.Shelf
def connV (x0 x1 x2 x3 x4 x5 x10 : Value) (s : Bool) : List Value:=[x0,x1,x2,x3,x4,x5,.int .u32 (if s then 1 else 0),.int .i32 0,.int .u32 0,.bool s,x10]
end Go.Proofs.YtkekohmkaefdnaaGreatDoor
namespace Go.Proofs.YtkekohmkaefdnaaGreatDoor
open Go.RowKit Go.Maps Go.Shelf
abbrev TConn : Nat:=135
abbrev TPort : Nat:=93
abbrev TMap : Nat:=86
def portV (u rl c r : Value) (ids now : Int) (mb : Nat) : List Value:=[u,rl,c,r,.int .i64 ids,.int .i64 now,.map (some mb)]
def ConnAt (w : World) (b : Nat) (s : Bool) : Prop:=∃ x0 x1 x2 x3 x4 x5 x10,At w b (connV x0 x1 x2 x3 x4 x5 x10 s) TConn
structure Conns (w : World) (mb : Nat) (bs : List Nat) (sh : List Bool) : Prop where
 map : ∃ D,w.ownsMap Tryz.prog 3 Rp mb bs.length D∧MapIs D bs
 len : sh.length=bs.length
 each : ∀ (i b : Nat) (s : Bool),bs[i]? = some b→sh[i]? = some s→ConnAt w b s
 nodup : bs.Nodup
theorem ConnAt.lt {w : World} {b : Nat} {s : Bool} (h : ConnAt w b s) : b < w.heap.size:=by
 obtain ⟨_,_,_,_,_,_,_,h⟩:=h
 exact h.lt
theorem ConnAt.tch {w w1 : World} {b : Nat} {s : Bool} {S : Nat→Prop} (h : ConnAt w b s) (t : Tch S w w1) (hb : ¬ S b) : ConnAt w1 b s:=by
 obtain ⟨x0,x1,x2,x3,x4,x5,x10,h⟩:=h
 exact ⟨x0,x1,x2,x3,x4,x5,x10,h.tch t hb⟩
theorem ownsMap_tch {w w1 : World} {k : Nat} {R : Value→Option (Da × List MemPlace)} {b n : Nat} {D : Da} {S : Nat→Prop} (h : w.ownsMap Tryz.prog k R b n D) (t : Tch S w w1) (hb : ¬ S b) : w1.ownsMap Tryz.prog k R b n D:=by
 have hlt:=h.lt
 obtain ⟨es,clock,he,F,hs,hD⟩:=h
 exact ⟨es,clock,(t.block b hlt hb).trans he,F,hs,hD⟩
namespace Conns
variable {w w1 : World} {mb : Nat} {bs : List Nat} {sh : List Bool} {S : Nat→Prop}
theorem mlt (h : Conns w mb bs sh) : mb < w.heap.size:=by
 obtain ⟨D,hD,_⟩:=h.map
 exact hD.lt
theorem state (h : Conns w mb bs sh) {i b : Nat} (hb : bs[i]? = some b) : ∃ s,sh[i]? = some s∧ConnAt w b s:=by
 have hi : i < bs.length:=(List.getElem?_eq_some_iff.1 hb).1
 have hs : sh[i]? = some (sh[i]'(by rw [h.len];exact hi)):=List.getElem?_eq_getElem (by rw [h.len];exact hi)
 exact ⟨_,hs,h.each i b _ hb hs⟩
theorem blt (h : Conns w mb bs sh) {b : Nat} (hb : b ∈ bs) : b < w.heap.size:=by
 obtain ⟨i,hi⟩:=List.mem_iff_getElem?.1 hb
 obtain ⟨s,_,hc⟩:=h.state hi
 exact hc.lt
theorem tch (h : Conns w mb bs sh) (t : Tch S w w1) (hm : ¬ S mb) (hb : ∀ b ∈ bs,¬ S b) : Conns w1 mb bs sh:=by
 obtain ⟨D,hD,hM⟩:=h.map
 exact ⟨⟨D,ownsMap_tch hD t hm,hM⟩,h.len,fun i b s h1 h2=>(h.each i b s h1 h2).tch t (hb b (List.mem_of_getElem? h1)),h.nodup⟩
theorem mne (h : Conns w mb bs sh) {b : Nat} (hb : b ∈ bs) : mb ≠ b:=by
 rintro rfl
 obtain ⟨i,hi⟩:=List.mem_iff_getElem?.1 hb
 obtain ⟨s,_,_,_,_,_,_,_,_,hc⟩:=h.state hi
 obtain ⟨D,⟨es,clock,he,_⟩,_⟩:=h.map
 rw [show w.heap[mb]? = _ from hc] at he
 cases he
theorem pne (h : Conns w mb bs sh) {p : Nat} {cs : List Value} {t : Nat} (hp : At w p cs t) (ht : t ≠ TConn) {b : Nat} (hb : b ∈ bs) : p ≠ b:=by
 rintro rfl
 obtain ⟨i,hi⟩:=List.mem_iff_getElem?.1 hb
 obtain ⟨s,_,_,_,_,_,_,_,_,hc⟩:=h.state hi
 unfold At at hp
 rw [show w.heap[p]? = _ from hc] at hp
 injection hp with hp
 injection hp with _ hp
 exact ht hp.symm
theorem pnm (h : Conns w mb bs sh) {p : Nat} {cs : List Value} {t : Nat} (hp : At w p cs t) : p ≠ mb:=by
 rintro rfl
 obtain ⟨D,⟨es,clock,he,_⟩,_⟩:=h.map
 rw [show w.heap[p]? = _ from hp] at he
 cases he
theorem look (h : Conns w mb bs sh) (id : Int) (hw : (Lit.int .i64 id).wf=true) : (Instr.lookup TMap (.map (some mb)) (.int .i64 id) false).run Tryz.prog w=.ok (ptrV (atId bs id)) w:=by
 obtain ⟨D,hD,hM⟩:=h.map
 obtain ⟨v,ps,hrun,hv⟩:=hD.lookup (t:=TMap) (e:=115) (int_keyed Tryz.underlying3) Tryz.underlying86 (z:=.pointer none) (by kernel_rfl) Rp_nil (keyOf_int_mk Tryz.underlying3 hw)
 rw [hM.at_ id] at hv
 rw [Rp_ofOpt hv] at hrun
 exact hrun
theorem shut (h : Conns w mb bs sh) {i b : Nat} (hb : bs[i]? = some b) (hc : ConnAt w1 b true) (t : Tch (fun k=>k=b) w w1) : Conns w1 mb bs (sh.set i true):=by
 obtain ⟨D,hD,hM⟩:=h.map
 have hmem:=List.mem_of_getElem? hb
 refine ⟨⟨D,ownsMap_tch hD t (h.mne hmem),hM⟩,by rw [List.length_set];exact h.len,fun j c s h1 h2=>?_,h.nodup⟩
 have hj:=(List.getElem?_eq_some_iff.1 h1).1
 have hi:=(List.getElem?_eq_some_iff.1 hb).1
 by_cases hij : i=j
 ·subst hij
  rw [hb] at h1
  obtain rfl:=Option.some.inj h1
  rw [List.getElem?_set_self (by rw [h.len];exact hi)] at h2
  obtain rfl:=Option.some.inj h2
  exact hc
 ·rw [List.getElem?_set_ne hij] at h2
  refine (h.each j c s h1 h2).tch t (fun e=>?_)
  have e1 : bs[i]? = bs[j]? := by rw [hb,h1,e]
  exact hij ((List.getElem?_inj hi h.nodup).1 e1)
end Conns
def openAt (bs : List Nat) (sh : List Bool) (id : Int) : Option Nat:=if 1 ≤ id∧sh[(id - 1).toNat]? = some false then bs[(id - 1).toNat]? else none
theorem of_any (p mb : Nat) (u rl c r : Value) (ids now : Int) (bs : List Nat) (sh : List Bool) (id : Int) (w : World) (hp : At w p (portV u rl c r ids now mb) TPort) (hC : Conns w mb bs sh) (hw : (Lit.int .i64 id).wf=true) :
  Calls Tryz.prog 62 #[.pointer (some ⟨p,0,none⟩),.int .i64 id] w fun e w'=>e=.returned (ptrV (openAt bs sh id))∧w=w':=by
 have hl:=hC.look id hw
 have c6:=hp.cell 6 rfl
 have hcases : (atId bs id=none∧openAt bs sh id=none) ∨ ∃ b s,atId bs id=some b∧ConnAt w b s∧openAt bs sh id=if s then none else some b:=by
  unfold atId openAt
  by_cases h1 : 1 ≤ id
  ·rw [if_pos h1]
   cases hb : bs[(id - 1).toNat]? with
   | none=>left;exact ⟨rfl,by split <;> rfl⟩
   | some b=>
    obtain ⟨s,hs,hc⟩:=hC.state hb
    right
    refine ⟨b,s,rfl,hc,?_⟩
    rw [hs]
    cases s with
    | true=>rw [if_neg (by simp)];rfl
    | false=>rw [if_pos ⟨h1,rfl⟩];rfl
  ·rw [if_neg h1,if_neg (fun h=>h1 h.1)]
   exact .inl ⟨rfl,rfl⟩
 clear hC hp
 rcases hcases with ⟨e1,e2⟩ | ⟨b,s,e1,⟨x0,x1,x2,x3,x4,x5,x10,hc⟩,e2⟩
 ·rw [e1] at hl
  rw [e2]
  clear e1 e2
  change (Instr.lookup TMap (.map (some mb)) (.int .i64 id) false).run Tryz.prog w=.ok (.pointer none) w at hl
  go_enter Tryz.func62,Tryz.ntmps62
  go_wp2
  go_ret
  exact ⟨rfl,rfl⟩
 ·rw [e1] at hl
  rw [e2]
  clear e1 e2
  change (Instr.lookup TMap (.map (some mb)) (.int .i64 id) false).run Tryz.prog w=.ok (.pointer (some ⟨b,0,none⟩)) w at hl
  have cs:=hc.cell 9 rfl
  clear hc
  cases s with
  | true=>
   go_enter Tryz.func62,Tryz.ntmps62
   go_wp2
   go_ret
   exact ⟨rfl,rfl⟩
  | false=>
   go_enter Tryz.func62,Tryz.ntmps62
   go_wp2
   go_ret
   exact ⟨rfl,rfl⟩
end Go.Proofs.YtkekohmkaefdnaaGreatDoor
