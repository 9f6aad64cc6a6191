
import Derived.Test.YtkekohmkaefdnaaGreatDoorPb0
set_option maxHeartbeats 8000000
set_option maxRecDepth 100000
namespace Go.Proofs.YtkekohmkaefdnaaGreatDoor.Pb
open Go.Proofs.YtkekohmkaefdnaaGreatDoor.Pa
open Go.RowKit Go.Proofs.YtkekohmkaefdnaaGreatDoorW.PrintWords Go.Proofs.YtkekohmkaefdnaaGreatDoorW.PrintLast Go.Proofs.YtkekohmkaefdnaaGreatDoorW.PrintMore
attribute [local go_sem] max2_int min2_int max_two min_two max_three min_three max_four min_four
set_option linter.unusedVariables false
set_option linter.unusedSimpArgs false
/-! ### acl_Parse: function 35 -/
mutual
def acl_Parse.l0 : Nat→List (S145)→List ByteArray→Int→Int→Option ((List (S145)) × Int × Bool)
 | 0,_,_,_,_=>none
 | k + 1,x5,x14,x15,x16=>if x16 < x15 then (if 0 ≤ x16 then (if x16 < (x14.length : Int) then (if (rdOf ByteArray.empty x14 x16).toList=([] : List UInt8) then (acl_Parse.j1 k x5 x16 (rdOf ByteArray.empty x14 x16) x14 x15 x16 true) else (if 0 < ((rdOf ByteArray.empty x14 x16).size : Int) then (acl_Parse.j1 k x5 x16 (rdOf ByteArray.empty x14 x16) x14 x15 x16 ((bt (rdOf ByteArray.empty x14 x16) 0) == 35)) else (none))) else (none)) else (none)) else (some (x5,0,true))
def acl_Parse.j1 : Nat→List (S145)→Int→ByteArray→List ByteArray→Int→Int→Bool→Option ((List (S145)) × Int × Bool)
 | 0,_,_,_,_,_,_,_=>none
 | k + 1,x5,x6,x7,x14,x15,x16,x27=>if x27=true then (acl_Parse.l0 k x5 x14 x15 (wrap64 (x16 + 1))) else ((acl_read.f k x7).bind fun bt106=>(if bt106.2.2.2.2=true then (if (x5.length : Int)=40 then (some (([] : List (S145)),wrap64 (x6 + 1),false)) else (if x5.length < 2932031007402 then (acl_Parse.l0 k (x5 ++ [(⟨bt106.1,bt106.2.1,bt106.2.2.1,bt106.2.2.2.1⟩ : S145)]) x14 x15 (wrap64 (x16 + 1))) else (none))) else (some (([] : List (S145)),wrap64 (x6 + 1),false))))
end
def acl_Parse.f (k : Nat) (a0 : ByteArray) : Option ((List (S145)) × Int × Bool):=if (a0.size : Int) > 5000 then (some (([] : List (S145)),0,false)) else ((strings_Split.f a0 (⟨#[10]⟩ : ByteArray)).bind fun t102=>(acl_Parse.l0 k ([] : List (S145)) t102 (t102.length : Int) 0))
theorem acl_Parse.calls (k : Nat) (a0 : ByteArray) (r1 : List (S145)) (r2 : Int) (r3 : Bool) (w : World) (h : acl_Parse.f k a0=some (r1,r2,r3)) (hLd : Laid w) :
  Calls Tryz.prog 35 #[.string a0] w fun e w'=>∃ v0_ : Value,e=.returned (.tuple #[v0_,.int .i64 r2,.bool r3])∧Kd.R k145 145 w' w.heap.size (fun _=>True) v0_ r1∧Below w.heap.size w w':=by
 have HLd:=Aside0.mk (fun (W : World) (hb_ : Below w.heap.size w W)=>Laid.below hLd rfl hb_)
 clear hLd
 have hu145:=Tryz.underlying145
 have HB:=Aside0.mk (Below.refl w.heap.size w)
 have H : (if (a0.size : Int) > 5000 then (some (([] : List (S145)),0,false)) else ((strings_Split.f a0 (⟨#[10]⟩ : ByteArray)).bind fun t102=>(acl_Parse.l0 k ([] : List (S145)) t102 (t102.length : Int) 0)))=some (r1,r2,r3):=h
 clear h
 by_cases c2 : (a0.size : Int) > 5000
 ·rw [if_pos c2] at H
  have c2b0 : decide (5000 < (a0.size : Int))=true:=decide_eq_true c2
  have c2b1 : decide (5000 < a0.size)=true:=decide_eq_true (by omega)
  clear c2
  simp only [Option.some.injEq,Prod.mk.injEq] at H
  obtain ⟨rfl,rfl,rfl⟩:=H
  go_enter Tryz.func35,Tryz.ntmps35
  go_wp2
  go_ret3
  exact ⟨_,q3_,q21_,q1_⟩
 ·rw [if_neg c2] at H
  have c2b0 : decide (5000 < (a0.size : Int))=false:=decide_eq_false c2
  have c2b1 : decide (5000 < a0.size)=false:=decide_eq_false (by omega)
  clear c2
  replace H:=Option.bind_eq_some_iff.mp H
  obtain ⟨t102,A30,H⟩:=H
  replace H : (acl_Parse.l0 k ([] : List (S145)) t102 (t102.length : Int) 0)=some (r1,r2,r3):=H
  have A3:=Aside0.mk A30
  clear A30
  have H':=Aside0.mk H
  clear H
  go_enter Tryz.func35,Tryz.ntmps35
  go_wp2_with (first | ((with_reducible refine gate_callee (f:=76) rfl ?_);refine goesL_ (some 14) rfl rfl Tryz.func76 (by kernel_rfl) rfl #[.string a0,.string (⟨#[10]⟩ : ByteArray)] rfl q7_ ?_;((with_reducible refine (strings_Split.calls a0 (⟨#[10]⟩ : ByteArray) t102 _ A3.out ?sideL).mono ?_);(case sideL=>exact HLd.out _ q1_));rintro e w4 ⟨v103,rfl,ho0,hb⟩;refine ⟨_,rfl,?_⟩;have n0_:=Aside0.mk (Kd.R_lower ho0 (below_size q1_));have n1_:=Aside0.mk (below_step q1_ hb);clear HB;have HO104:=n0_;have HB:=n1_;clear n0_ n1_;(try clear hb);(try clear hb2);(try clear hk);(try clear hi);(try clear ho0);obtain ⟨Ao5,co5,eo5⟩:=Kd.R_slice HO104.out;subst eo5))
  go_loopg [5,16] k (fun kq v5 v16 w'=>∃ (x5_1 : List (S145)) (x16_1 : Int),v16=.int .i64 x16_1∧Aside0 (acl_Parse.l0 kq x5_1 t102 (t102.length : Int) x16_1=some (r1,r2,r3))∧Aside0 (kq ≤ k)∧Aside0 (Kd.R k145 145 w' w.heap.size (fun _=>True) v5 x5_1)∧Aside0 (Kd.R Kd.string 9 w' w.heap.size (fun _=>True) (.slice Ao5 t102.length co5) t102)∧Aside0 (Below w.heap.size w w'))
  case atStart=>exact ⟨(([] : List (S145))),(0),q6_,H',⟨Nat.le_refl _⟩,⟨q21_⟩,⟨by (with_reducible repeat (first | apply Kd.R_alloc | apply Kd.R_drewN | apply Kd.R_drew));exact HO104.out⟩,⟨q1_⟩⟩
  case round=>
   clear H'
   try clear c2
   try clear c2b0
   try clear c2b1
   try clear p2
   try clear c3
   obtain ⟨x5_1,x16_1,rfl,HA,HK1,HO_5,HO_14,HB⟩:=hrel
   cases gk with
   | zero=>exact absurd HA.out (by simp [acl_Parse.l0])
   | succ k1=>
    have H:=HA.out
    clear HA
    simp only [acl_Parse.l0] at H
    by_cases c6 : x16_1 < (t102.length : Int)
    ·rw [if_pos c6] at H
     have c6b0 : decide (x16_1 < (t102.length : Int))=true:=decide_eq_true c6
     clear c6
     by_cases c7 : 0 ≤ x16_1
     ·rw [if_pos c7] at H
      have c7b0 : decide (0 ≤ x16_1)=true:=decide_eq_true c7
      clear c7
      by_cases c8 : x16_1 < (t102.length : Int)
      ·rw [if_pos c8] at H
       have c8b0 : decide (x16_1 < (t102.length : Int))=true:=decide_eq_true c8
       clear c8
       have HC9:=Aside0.mk H
       clear H
       have p105 : 0 ≤ (x16_1 : Int):=of_decide_eq_true q5_
       have q105 : x16_1 < (t102.length : Int):=of_decide_eq_true q5_
       obtain ⟨ad105,e105,hx105_0⟩:=Kd.at_string (Kd.R_reads' HO_14.out).2.2 x16_1 p105 q105
       cases e105
       replace p105:=eq_true p105
       replace q105:=eq_true q105
       go_upto_region 7 with (fail)
       go_cut [27] (fun v27 wc=>∃ (kq : Nat) (x27_8 : Bool),v27=.bool x27_8∧Aside0 (acl_Parse.j1 kq x5_1 x16_1 (rdOf ByteArray.empty t102 x16_1) t102 (t102.length : Int) x16_1 x27_8=some (r1,r2,r3))∧Aside0 (kq ≤ k1)∧Aside0 (Kd.R k145 145 wc w.heap.size (fun _=>True) u5 x5_1)∧Aside0 (Kd.R Kd.string 9 wc w.heap.size (fun _=>True) (.slice (some ad105) t102.length co5) t102)∧Aside0 (Below w.heap.size w wc))
       case first=>
        have H:=HC9.out
        clear HC9
        by_cases c10 : (rdOf ByteArray.empty t102 x16_1).toList=([] : List UInt8)
        ·rw [if_pos c10] at H
         have c10b0 : ((rdOf ByteArray.empty t102 x16_1).toList == ([] : List UInt8))=true:=beq_iff_eq.mpr c10
         have c10b1 : ((rdOf ByteArray.empty t102 x16_1).toList != ([] : List UInt8))=false:=bne_eq_false_iff_eq.mpr c10
         clear c10
         (first | rw [c10b0] | (simp only [i64_w,i32_w];rw [c10b0]) | skip)
         have H':=Aside0.mk H
         clear H
         go_wp2
         go_meet
         case rel=>exact ⟨_,(true),q6_,H',⟨by have:=HK1.out;first | omega | exact Nat.le_refl _⟩,⟨q16_⟩,⟨q18_⟩,⟨q1_⟩⟩
        ·rw [if_neg c10] at H
         have c10b0 : ((rdOf ByteArray.empty t102 x16_1).toList == ([] : List UInt8))=false:=beq_eq_false_iff_ne.mpr c10
         have c10b1 : ((rdOf ByteArray.empty t102 x16_1).toList != ([] : List UInt8))=true:=bne_iff_ne.mpr c10
         (first | rw [c10b0] | (simp only [i64_w,i32_w];rw [c10b0]) | skip)
         by_cases c11 : 0 < ((rdOf ByteArray.empty t102 x16_1).size : Int)
         ·rw [if_pos c11] at H
          have c11b0 : decide (0 < ((rdOf ByteArray.empty t102 x16_1).size : Int))=true:=decide_eq_true c11
          have c11b1 : decide (0 < (rdOf ByteArray.empty t102 x16_1).size)=true:=decide_eq_true (by omega)
          clear c11
          have H':=Aside0.mk H
          clear H
          have p12 : 0 ≤ (0 : Int):=(by omega)
          have q12 : 0 < (rdOf ByteArray.empty t102 x16_1).size:=(by have : (0 : Int) < ((rdOf ByteArray.empty t102 x16_1).size : Int):=of_decide_eq_true q5_;omega)
          have hx12 : ∀ h : 0 < (rdOf ByteArray.empty t102 x16_1).size,(((rdOf ByteArray.empty t102 x16_1)[0]'h).toNat : Int)=bt (rdOf ByteArray.empty t102 x16_1) 0:=bt_at (rdOf ByteArray.empty t102 x16_1) 0
          clear p12
          have qi12 : (0 < ((rdOf ByteArray.empty t102 x16_1).size : Int))=True:=eq_true (of_decide_eq_true q5_)
          replace q12:=eq_true q12
          go_wp2
          go_meet
          case rel=>exact ⟨_,(((bt (rdOf ByteArray.empty t102 x16_1) 0) == 35)),q6_,H',⟨by have:=HK1.out;first | omega | exact Nat.le_refl _⟩,⟨q16_⟩,⟨q18_⟩,⟨q1_⟩⟩
         ·rw [if_neg c11] at H
          exact absurd H (by simp)
       case rest=>
        clear HC9
        try clear c1
        try clear p1
        try clear q1
        try clear hx1
        try clear qi1
        try clear c2
        try clear c2b0
        try clear c2b1
        try clear p2
        try clear c3
        try clear c6
        try clear c6b0
        try clear c7
        try clear c7b0
        try clear c8
        try clear c8b0
        try clear c10
        try clear c10b0
        try clear c10b1
        try clear p10
        try clear q10
        try clear hx10
        try clear c11
        try clear c11b0
        try clear c11b1
        try clear p12
        try clear q12
        try clear hx12
        try clear qi12
        try clear hx105_0
        try clear p105
        try clear p12
        try clear p2
        try clear q105
        try clear q12
        obtain ⟨kq,x27_8,rfl,HA,HJ8,HO_5,HO_14,HB⟩:=hcut
        cases kq with
        | zero=>exact absurd HA.out (by simp [acl_Parse.j1])
        | succ kj8=>
         have H:=HA.out
         clear HA
         simp only [acl_Parse.j1] at H
         by_cases c13 : x27_8=true
         ·subst c13
          have H1 : (acl_Parse.l0 kj8 x5_1 t102 (t102.length : Int) (wrap64 (x16_1 + 1)))=some (r1,r2,r3):=q44_
          clear H
          have H:=H1
          clear H1
          have H':=Aside0.mk H
          clear H
          go_wp2
          go_roundg kj8
          case measure=>have:=HK1.out;have:=HJ8.out;omega
          case rel=>exact ⟨(x5_1),(wrap64 (x16_1 + 1)),q6_,H',⟨by have:=HK1.out;have:=HJ8.out;omega⟩,⟨q16_⟩,⟨q18_⟩,⟨q1_⟩⟩
         ·replace c13:=Bool.eq_false_iff.mpr c13
          subst c13
          have H1 : ((acl_read.f kj8 (rdOf ByteArray.empty t102 x16_1)).bind fun bt106=>(if bt106.2.2.2.2=true then (if (x5_1.length : Int)=40 then (some (([] : List (S145)),wrap64 (x16_1 + 1),false)) else (if x5_1.length < 2932031007402 then (acl_Parse.l0 kj8 (x5_1 ++ [(⟨bt106.1,bt106.2.1,bt106.2.2.1,bt106.2.2.2.1⟩ : S145)]) t102 (t102.length : Int) (wrap64 (x16_1 + 1))) else (none))) else (some (([] : List (S145)),wrap64 (x16_1 + 1),false))))=some (r1,r2,r3):=q20_
          clear H
          have H:=H1
          clear H1
          replace H:=Option.bind_eq_some_iff.mp H
          obtain ⟨⟨t106,t107,t108,t109,t110⟩,A140,H⟩:=H
          replace H : (if t110=true then (if (x5_1.length : Int)=40 then (some (([] : List (S145)),wrap64 (x16_1 + 1),false)) else (if x5_1.length < 2932031007402 then (acl_Parse.l0 kj8 (x5_1 ++ [(⟨t106,t107,t108,t109⟩ : S145)]) t102 (t102.length : Int) (wrap64 (x16_1 + 1))) else (none))) else (some (([] : List (S145)),wrap64 (x16_1 + 1),false)))=some (r1,r2,r3):=H
          have A14:=Aside0.mk A140
          clear A140
          by_cases c15 : t110=true
          ·subst c15
           have H1 : (if (x5_1.length : Int)=40 then (some (([] : List (S145)),wrap64 (x16_1 + 1),false)) else (if x5_1.length < 2932031007402 then (acl_Parse.l0 kj8 (x5_1 ++ [(⟨t106,t107,t108,t109⟩ : S145)]) t102 (t102.length : Int) (wrap64 (x16_1 + 1))) else (none)))=some (r1,r2,r3):=q44_
           clear H
           have H:=H1
           clear H1
           by_cases c16 : (x5_1.length : Int)=40
           ·rw [if_pos c16] at H
            have c16b0 : ((x5_1.length : Int) == 40)=true:=beq_iff_eq.mpr c16
            have c16b1 : ((x5_1.length : Int) != 40)=false:=bne_eq_false_iff_eq.mpr c16
            clear c16
            simp only [Option.some.injEq,Prod.mk.injEq] at H
            obtain ⟨rfl,rfl,rfl⟩:=H
            go_wp2_with (first | ((with_reducible refine gate_callee (f:=77) rfl ?_);refine goesL_ (some 30) rfl rfl Tryz.func77 (by kernel_rfl) rfl #[.string (rdOf ByteArray.empty t102 x16_1)] rfl q7_ ?_;((with_reducible refine (acl_read.calls kj8 (rdOf ByteArray.empty t102 x16_1) t106 t107 t108 t109 true _ A14.out ?sideL).mono ?_);(case sideL=>exact HLd.out _ q1_));rintro e w17 ⟨rfl,hb⟩;refine ⟨_,rfl,?_⟩;have n0_:=Aside0.mk (Kd.R_below q16_ hb);have n1_:=Aside0.mk (Kd.R_below q18_ hb);have n2_:=Aside0.mk (below_step q1_ hb);clear HO_5;clear HO_14;clear HB;have HO_5:=n0_;have HO_14:=n1_;have HB:=n2_;clear n0_ n1_ n2_;(try clear hb);(try clear hb2);(try clear hk);(try clear hi)) | ((with_reducible refine gate_dst (N:=8) rfl ?_);(try (refine gate_guard (by rfl) ?_;dsimp only));refine box_event ?hg (N:=8) ?hd (cs:=#[.bool false,.string (⟨#[]⟩ : ByteArray),.int .i64 0,.string (⟨#[]⟩ : ByteArray)]) (t:=145) ?hr ?_;(case hd=>rfl);(case hg=>rfl);(case hr=>first | (go_simp;done) | (go_simp;rfl));intro gb111 hg w18 hbox hb;have n0_:=Aside0.mk (Kd.R_below (Kd.R_elderB q16_ gb111 (Nat.le_of_eq hg.symm)) hb);have n1_:=Aside0.mk (Kd.R_below q18_ hb);have n2_:=Aside0.mk (below_step q1_ hb);have n3_:=Aside0.mk (hbox);have n4_:=Aside0.mk ((by rw [hg];exact (below_size q1_) : w.heap.size ≤ gb111));have n5_:=Aside0.mk ((by rw [hg];exact (below_size q1_) : w.heap.size ≤ gb111));clear HO_5;clear HO_14;clear HB;have HO_5:=n0_;have HO_14:=n1_;have HB:=n2_;have BK111:=n3_;have GW111:=n4_;have GE111:=n5_;clear n0_ n1_ n2_ n3_ n4_ n5_;clear hb hbox hg;have hcz19_0 : w18.cell? ⟨gb111,0,none⟩=some (.bool false):=(blk_cell BK111.out 0).trans rfl;have hcz19_1 : w18.cell? ⟨gb111,1,none⟩=some (.string (⟨#[]⟩ : ByteArray)):=(blk_cell BK111.out 1).trans rfl;have hcz19_2 : w18.cell? ⟨gb111,2,none⟩=some (.int .i64 0):=(blk_cell BK111.out 2).trans rfl;have hcz19_3 : w18.cell? ⟨gb111,3,none⟩=some (.string (⟨#[]⟩ : ByteArray)):=(blk_cell BK111.out 3).trans rfl;have hfz19_0:=blk_frozen BK111.out 0;have hfz19_1:=blk_frozen BK111.out 1;have hfz19_2:=blk_frozen BK111.out 2;have hfz19_3:=blk_frozen BK111.out 3;obtain ⟨Ao20,co20,eo20⟩:=Kd.R_slice HO_5.out;subst eo20))
            go_ret3
            exact ⟨_,q3_,q21_,q28_⟩
           ·rw [if_neg c16] at H
            have c16b0 : ((x5_1.length : Int) == 40)=false:=beq_eq_false_iff_ne.mpr c16
            have c16b1 : ((x5_1.length : Int) != 40)=true:=bne_iff_ne.mpr c16
            by_cases c21 : x5_1.length < 2932031007402
            ·rw [if_pos c21] at H
             have LMc21:=Aside0.mk c21
             clear c21
             obtain ⟨y112,hy112⟩ : ∃ y_ : List (S145),y_=(x5_1 ++ [(⟨t106,t107,t108,t109⟩ : S145)]):=⟨_,rfl⟩
             replace H : (acl_Parse.l0 kj8 y112 t102 (t102.length : Int) (wrap64 (x16_1 + 1)))=some (r1,r2,r3):=by first | (rw [hy112];with_reducible exact H) | (have H2_:=(Option.bind_some _ _).symm.trans H;rw [hy112];with_reducible exact H2_) | (have H2_:=(Option.bind_some _ _).symm.trans H;with_reducible exact H2_) | with_reducible exact H | (rw [hy112];exact H) | exact H
             have Ny112:=Aside0.mk hy112
             clear hy112
             have H':=Aside0.mk H
             clear H
             go_wp2_with (first | ((with_reducible refine gate_callee (f:=77) rfl ?_);refine goesL_ (some 30) rfl rfl Tryz.func77 (by kernel_rfl) rfl #[.string (rdOf ByteArray.empty t102 x16_1)] rfl q7_ ?_;((with_reducible refine (acl_read.calls kj8 (rdOf ByteArray.empty t102 x16_1) t106 t107 t108 t109 true _ A14.out ?sideL).mono ?_);(case sideL=>exact HLd.out _ q1_));rintro e w22 ⟨rfl,hb⟩;refine ⟨_,rfl,?_⟩;have n0_:=Aside0.mk (Kd.R_below q16_ hb);have n1_:=Aside0.mk (Kd.R_below q18_ hb);have n2_:=Aside0.mk (below_step q1_ hb);clear HO_5;clear HO_14;clear HB;have HO_5:=n0_;have HO_14:=n1_;have HB:=n2_;clear n0_ n1_ n2_;(try clear hb);(try clear hb2);(try clear hk);(try clear hi)) | ((with_reducible refine gate_dst (N:=8) rfl ?_);(try (refine gate_guard (by rfl) ?_;dsimp only));refine box_event ?hg (N:=8) ?hd (cs:=#[.bool false,.string (⟨#[]⟩ : ByteArray),.int .i64 0,.string (⟨#[]⟩ : ByteArray)]) (t:=145) ?hr ?_;(case hd=>rfl);(case hg=>rfl);(case hr=>first | (go_simp;done) | (go_simp;rfl));intro gb111 hg w23 hbox hb;have n0_:=Aside0.mk (Kd.R_below (Kd.R_elderB q16_ gb111 (Nat.le_of_eq hg.symm)) hb);have n1_:=Aside0.mk (Kd.R_below q18_ hb);have n2_:=Aside0.mk (below_step q1_ hb);have n3_:=Aside0.mk (hbox);have n4_:=Aside0.mk ((by rw [hg];exact (below_size q1_) : w.heap.size ≤ gb111));have n5_:=Aside0.mk ((by rw [hg];exact (below_size q1_) : w.heap.size ≤ gb111));clear HO_5;clear HO_14;clear HB;have HO_5:=n0_;have HO_14:=n1_;have HB:=n2_;have BK111:=n3_;have GW111:=n4_;have GE111:=n5_;clear n0_ n1_ n2_ n3_ n4_ n5_;clear hb hbox hg;have hcz24_0 : w23.cell? ⟨gb111,0,none⟩=some (.bool false):=(blk_cell BK111.out 0).trans rfl;have hcz24_1 : w23.cell? ⟨gb111,1,none⟩=some (.string (⟨#[]⟩ : ByteArray)):=(blk_cell BK111.out 1).trans rfl;have hcz24_2 : w23.cell? ⟨gb111,2,none⟩=some (.int .i64 0):=(blk_cell BK111.out 2).trans rfl;have hcz24_3 : w23.cell? ⟨gb111,3,none⟩=some (.string (⟨#[]⟩ : ByteArray)):=(blk_cell BK111.out 3).trans rfl;have hfz24_0:=blk_frozen BK111.out 0;have hfz24_1:=blk_frozen BK111.out 1;have hfz24_2:=blk_frozen BK111.out 2;have hfz24_3:=blk_frozen BK111.out 3;obtain ⟨Ao25,co25,eo25⟩:=Kd.R_slice HO_5.out;subst eo25) | ((with_reducible refine gate_builtin (b:=.append) (xs:=#[.tmp 42,.tmp 44]) rfl ?_);(try (refine gate_guard (by rfl) ?_;dsimp only));at_builtin;refine Kd.R_append k145 (w0:=w) w.heap.size rfl (.tmp 42) (.tmp 44) 57 145 (.agg #[(.bool false),(.string ⟨#[]⟩),(.int .i64 0),(.string ⟨#[]⟩)]) 48 rfl Tryz.underlying57 info145 rfl (by decide) (by omega) (.slice Ao25 x5_1.length co25) x5_1 (⟨t106,t107,t108,t109⟩ : S145) [.bool t106,.string t107,.int .i64 t108,.string t109] (fun k_=>k_ ≠ gb111) (fun _=>False) rfl (by first | (go_simp;done) | (go_simp;rfl)) ?aP (fun _ hk=>hk.elim) ?aF ?aO ?aB ?aS ?aL ?_;(case aP=>exact k145_mkM _ _ _ (⟨t106,t107,t108,t109⟩ : S145));(case aB=>exact q28_);(case aF=>exact (fun k_ hk=>Kd.freshB (g:=gb111) (o:=.cells #[.bool t106,.string t107,.int .i64 t108,.string t109] 145 (0,0)) (by (with_reducible repeat (first | refine blk_drewN ?_ _ | refine blk_drew ?_ | refine blk_alloc ?_ _));refine blk_put (cs:=#[.bool t106,.string t107,.int .i64 t108,.string (⟨#[]⟩ : ByteArray)]) ?_ 3 _ rfl;(with_reducible repeat (first | refine blk_drewN ?_ _ | refine blk_drew ?_ | refine blk_alloc ?_ _));refine blk_put (cs:=#[.bool t106,.string t107,.int .i64 0,.string (⟨#[]⟩ : ByteArray)]) ?_ 2 _ rfl;(with_reducible repeat (first | refine blk_drewN ?_ _ | refine blk_drew ?_ | refine blk_alloc ?_ _));refine blk_put (cs:=#[.bool t106,.string (⟨#[]⟩ : ByteArray),.int .i64 0,.string (⟨#[]⟩ : ByteArray)]) ?_ 1 _ rfl;(with_reducible repeat (first | refine blk_drewN ?_ _ | refine blk_drew ?_ | refine blk_alloc ?_ _));refine blk_put (cs:=#[.bool false,.string (⟨#[]⟩ : ByteArray),.int .i64 0,.string (⟨#[]⟩ : ByteArray)]) ?_ 0 _ rfl;(with_reducible repeat (first | refine blk_drewN ?_ _ | refine blk_drew ?_ | refine blk_alloc ?_ _));exact BK111.out) k_ hk));(case aO=>exact (by (with_reducible repeat (first | apply Kd.R_alloc | apply Kd.R_drewN | apply Kd.R_drew));exact Kd.R_mono (Kd.R_far (p:=⟨gb111,3,none⟩) (Kd.R_far (p:=⟨gb111,2,none⟩) (Kd.R_far (p:=⟨gb111,1,none⟩) (Kd.R_far (p:=⟨gb111,0,none⟩) (Kd.R_mono HO_5.out (fun k_ hk=>(⟨hk,hk.2⟩ : _∧k_ ≠ gb111))) (fun _ hk=>hk.2) (.bool t106)) (fun _ hk=>hk.2) (.string t107)) (fun _ hk=>hk.2) (.int .i64 t108)) (fun _ hk=>hk.2) (.string t109)) (fun _ hk=>hk.1.2)));(case aS=>exact (below_size q28_));(case aL=>have:=LMc21.out;omega);intro v113 w26 ho hb hg hat;rw [← Ny112.out] at ho;have n0_:=Aside0.mk (Kd.R_over' (by (with_reducible repeat (first | apply Kd.R_alloc | apply Kd.R_drewN | apply Kd.R_drew));exact (Kd.R_mono (Kd.R_far (p:=⟨gb111,3,none⟩) (Kd.R_far (p:=⟨gb111,2,none⟩) (Kd.R_far (p:=⟨gb111,1,none⟩) (Kd.R_far (p:=⟨gb111,0,none⟩) (Kd.R_types HO_14.out BK111.out (by decide)) (fun _ hk=>hk.2) (.bool t106)) (fun _ hk=>hk.2) (.string t107)) (fun _ hk=>hk.2) (.int .i64 t108)) (fun _ hk=>hk.2) (.string t109)) (fun _ h_=>h_.1))) (Kd.R_typed (by (with_reducible repeat (first | apply Kd.R_alloc | apply Kd.R_drewN | apply Kd.R_drew));exact (Kd.R_mono (Kd.R_far (p:=⟨gb111,3,none⟩) (Kd.R_far (p:=⟨gb111,2,none⟩) (Kd.R_far (p:=⟨gb111,1,none⟩) (Kd.R_far (p:=⟨gb111,0,none⟩) (Kd.R_mono HO_5.out (fun k_ hk=>(⟨hk,hk.2⟩ : _∧k_ ≠ gb111))) (fun _ hk=>hk.2) (.bool t106)) (fun _ hk=>hk.2) (.string t107)) (fun _ hk=>hk.2) (.int .i64 t108)) (fun _ hk=>hk.2) (.string t109)) (fun _ h_=>h_.1)))) (by decide) hg);have n1_:=Aside0.mk (blk_grown (g:=gb111) (o:=.cells #[.bool t106,.string t107,.int .i64 t108,.string t109] 145 (0,0)) (by (with_reducible repeat (first | refine blk_drewN ?_ _ | refine blk_drew ?_ | refine blk_alloc ?_ _));refine blk_put (cs:=#[.bool t106,.string t107,.int .i64 t108,.string (⟨#[]⟩ : ByteArray)]) ?_ 3 _ rfl;(with_reducible repeat (first | refine blk_drewN ?_ _ | refine blk_drew ?_ | refine blk_alloc ?_ _));refine blk_put (cs:=#[.bool t106,.string t107,.int .i64 0,.string (⟨#[]⟩ : ByteArray)]) ?_ 2 _ rfl;(with_reducible repeat (first | refine blk_drewN ?_ _ | refine blk_drew ?_ | refine blk_alloc ?_ _));refine blk_put (cs:=#[.bool t106,.string (⟨#[]⟩ : ByteArray),.int .i64 0,.string (⟨#[]⟩ : ByteArray)]) ?_ 1 _ rfl;(with_reducible repeat (first | refine blk_drewN ?_ _ | refine blk_drew ?_ | refine blk_alloc ?_ _));refine blk_put (cs:=#[.bool false,.string (⟨#[]⟩ : ByteArray),.int .i64 0,.string (⟨#[]⟩ : ByteArray)]) ?_ 0 _ rfl;(with_reducible repeat (first | refine blk_drewN ?_ _ | refine blk_drew ?_ | refine blk_alloc ?_ _));exact BK111.out) hg (Kd.R_away HO_5.out (fun _ hk=>hk.2)));have n2_:=Aside0.mk (hb);have n3_:=Aside0.mk (ho);clear HO_14;clear BK111;clear HB;clear HO_5;have HO_14:=n0_;have BK111:=n1_;have HB:=n2_;have HO114:=n3_;clear n0_ n1_ n2_ n3_;clear ho hb hg hat))
             go_roundg kj8
             case measure=>have:=HK1.out;have:=HJ8.out;omega
             case rel=>exact ⟨(y112),(wrap64 (x16_1 + 1)),q6_,H',⟨by have:=HK1.out;have:=HJ8.out;omega⟩,⟨by (with_reducible repeat (first | apply Kd.R_alloc | apply Kd.R_drewN | apply Kd.R_drew));exact Kd.R_mono HO114.out (fun _ hk=>trivial)⟩,⟨q18_⟩,⟨q28_⟩⟩
            ·rw [if_neg c21] at H
             exact absurd H (by simp)
          ·replace c15:=Bool.eq_false_iff.mpr c15
           subst c15
           have H1 : (some (([] : List (S145)),wrap64 (x16_1 + 1),false))=some (r1,r2,r3):=q20_
           clear H
           have H:=H1
           clear H1
           simp only [Option.some.injEq,Prod.mk.injEq] at H
           obtain ⟨rfl,rfl,rfl⟩:=H
           go_wp2_with (first | ((with_reducible refine gate_callee (f:=77) rfl ?_);refine goesL_ (some 30) rfl rfl Tryz.func77 (by kernel_rfl) rfl #[.string (rdOf ByteArray.empty t102 x16_1)] rfl q7_ ?_;((with_reducible refine (acl_read.calls kj8 (rdOf ByteArray.empty t102 x16_1) t106 t107 t108 t109 false _ A14.out ?sideL).mono ?_);(case sideL=>exact HLd.out _ q1_));rintro e w27 ⟨rfl,hb⟩;refine ⟨_,rfl,?_⟩;have n0_:=Aside0.mk (Kd.R_below q16_ hb);have n1_:=Aside0.mk (Kd.R_below q18_ hb);have n2_:=Aside0.mk (below_step q1_ hb);clear HO_5;clear HO_14;clear HB;have HO_5:=n0_;have HO_14:=n1_;have HB:=n2_;clear n0_ n1_ n2_;(try clear hb);(try clear hb2);(try clear hk);(try clear hi)) | ((with_reducible refine gate_dst (N:=8) rfl ?_);(try (refine gate_guard (by rfl) ?_;dsimp only));refine box_event ?hg (N:=8) ?hd (cs:=#[.bool false,.string (⟨#[]⟩ : ByteArray),.int .i64 0,.string (⟨#[]⟩ : ByteArray)]) (t:=145) ?hr ?_;(case hd=>rfl);(case hg=>rfl);(case hr=>first | (go_simp;done) | (go_simp;rfl));intro gb111 hg w28 hbox hb;have n0_:=Aside0.mk (Kd.R_below (Kd.R_elderB q16_ gb111 (Nat.le_of_eq hg.symm)) hb);have n1_:=Aside0.mk (Kd.R_below q18_ hb);have n2_:=Aside0.mk (below_step q1_ hb);have n3_:=Aside0.mk (hbox);have n4_:=Aside0.mk ((by rw [hg];exact (below_size q1_) : w.heap.size ≤ gb111));have n5_:=Aside0.mk ((by rw [hg];exact (below_size q1_) : w.heap.size ≤ gb111));clear HO_5;clear HO_14;clear HB;have HO_5:=n0_;have HO_14:=n1_;have HB:=n2_;have BK111:=n3_;have GW111:=n4_;have GE111:=n5_;clear n0_ n1_ n2_ n3_ n4_ n5_;clear hb hbox hg;have hcz29_0 : w28.cell? ⟨gb111,0,none⟩=some (.bool false):=(blk_cell BK111.out 0).trans rfl;have hcz29_1 : w28.cell? ⟨gb111,1,none⟩=some (.string (⟨#[]⟩ : ByteArray)):=(blk_cell BK111.out 1).trans rfl;have hcz29_2 : w28.cell? ⟨gb111,2,none⟩=some (.int .i64 0):=(blk_cell BK111.out 2).trans rfl;have hcz29_3 : w28.cell? ⟨gb111,3,none⟩=some (.string (⟨#[]⟩ : ByteArray)):=(blk_cell BK111.out 3).trans rfl;have hfz29_0:=blk_frozen BK111.out 0;have hfz29_1:=blk_frozen BK111.out 1;have hfz29_2:=blk_frozen BK111.out 2;have hfz29_3:=blk_frozen BK111.out 3))
           go_ret3
           exact ⟨_,q3_,q21_,q28_⟩
      ·rw [if_neg c8] at H
       exact absurd H (by simp)
     ·rw [if_neg c7] at H
      exact absurd H (by simp)
    ·rw [if_neg c6] at H
     have c6b0 : decide (x16_1 < (t102.length : Int))=false:=decide_eq_false c6
     clear c6
     simp only [Option.some.injEq,Prod.mk.injEq] at H
     obtain ⟨rfl,rfl,rfl⟩:=H
     go_wp2
     go_ret3
     exact ⟨_,q3_,q16_,q1_⟩
/-! ### escutcheonref14_letter: function 71 -/
def escutcheonref14_letter.f (a0 : Int) (a1 : ByteArray) : Option (ByteArray):=(some (([(a0) % 256] : List Int) : List Int)).bind fun y115=>(if (strOfNums y115).size + a1.size ≤ 9223372036854775807 then (some ((strOfNums y115) ++ a1)) else (none))
theorem escutcheonref14_letter.calls (a0 : Int) (a1 : ByteArray) (r : ByteArray) (w : World) (h : escutcheonref14_letter.f a0 a1=some r) :
  Calls Tryz.prog 71 #[.int .i64 a0,.string a1] w fun e w'=>e=.returned (.string r)∧Below w.heap.size w w':=by
 have HB:=Aside0.mk (Below.refl w.heap.size w)
 have H : ((some (([(a0) % 256] : List Int) : List Int)).bind fun y115=>(if (strOfNums y115).size + a1.size ≤ 9223372036854775807 then (some ((strOfNums y115) ++ a1)) else (none)))=some r:=h
 clear h
 obtain ⟨y115,hy115⟩ : ∃ y_ : List Int,y_=(([(a0) % 256] : List Int)):=⟨_,rfl⟩
 replace H : (if (strOfNums y115).size + a1.size ≤ 9223372036854775807 then (some ((strOfNums y115) ++ a1)) else (none))=some r:=by first | (rw [hy115];with_reducible exact H) | (have H2_:=(Option.bind_some _ _).symm.trans H;rw [hy115];with_reducible exact H2_) | (have H2_:=(Option.bind_some _ _).symm.trans H;with_reducible exact H2_) | with_reducible exact H | (rw [hy115];exact H) | exact H
 have Ny115:=Aside0.mk hy115
 clear hy115
 by_cases c3 : (strOfNums y115).size + a1.size ≤ 9223372036854775807
 ·rw [if_pos c3] at H
  have c3b0:=eq_true c3
  have c3b1 : decide ((strOfNums y115).size + a1.size ≤ 9223372036854775807)=true:=decide_eq_true c3
  try have c3b2 : (9223372036854775807 < (strOfNums y115).size + a1.size)=False:=eq_false (Nat.not_lt.2 c3)
  obtain rfl:=Option.some.inj H
  go_enter Tryz.func71,Tryz.ntmps71
  go_wp2_with (first | ((with_reducible refine gate_dst (N:=7) rfl ?_);refine Kd.R_lit (Kd.int .u8) _ 5 ?hg (N:=7) ?hd (xs:=([(a0) % 256] : List Int)) (inner:=[.int .u8 ((a0) % 256)]) (ok:=fun _=>True) (okp:=fun _=>True) ?hr ?hp (fun _ hk=>hk) trivial (Below.refl _ _) (Nat.le_refl _) (by simp) ?_;(case hd=>rfl);(case hg=>rfl);(case hr=>first | (go_simp;done) | (go_simp;rfl));(case hp=>exact (Reps.one (show Kd.M (Kd.int .u8) _ _ _ ((a0) % 256) [.int .u8 ((a0) % 256)] from rfl) (Reps.none _ _)));intro v116 w4 ho5 hb hg_ hnew_;clear hg_ hnew_;(first | rw [← Ny115.out] at ho5 | (simp only [Int.reduceToNat] at ho5;rw [← Ny115.out] at ho5));have n0_:=Aside0.mk (Kd.R_lower ho5 (below_size q1_));have n1_:=Aside0.mk (below_step q1_ hb);clear HB;have HO117:=n0_;have HB:=n1_;clear n0_ n1_;clear hb ho5;have hcv6:=own_string (P:=Tryz.prog) Tryz.underlying150 Tryz.underlying5 Tryz.underlying9 (Kd.own_of_R HO117.out)))
  go_ret
  exact ⟨q3_,q1_⟩
 ·rw [if_neg c3] at H
  exact absurd H (by simp)
/-! ### escutcheonref14_Hello: function 31 -/
def escutcheonref14_Hello.f (a0_0 : ByteArray) (a0_1 : ByteArray) : Option (ByteArray × Bool):=if (a0_1.size : Int)=16 then (if (a0_0.size : Int) < 1 then (some ((⟨#[]⟩ : ByteArray),false)) else (if (a0_0.size : Int) > 20 then (some ((⟨#[]⟩ : ByteArray),false)) else ((some (([((a0_0.size : Int)) % 256] : List Int) : List Int)).bind fun y119=>(if (strOfNums y119).size + a0_0.size ≤ 9223372036854775807 then (if (strOfNums y119).size + a0_0.size + a0_1.size ≤ 9223372036854775807 then ((escutcheonref14_letter.f 1 (((strOfNums y119) ++ a0_0) ++ a0_1)).bind fun t122=>(some (t122,true))) else (none)) else (none))))) else (some ((⟨#[]⟩ : ByteArray),false))
theorem escutcheonref14_Hello.calls (a0_0 : ByteArray) (a0_1 : ByteArray) (r1 : ByteArray) (r2 : Bool) (w : World) (h : escutcheonref14_Hello.f a0_0 a0_1=some (r1,r2)) :
  Calls Tryz.prog 31 #[.agg #[.string a0_0,.string a0_1]] w fun e w'=>e=.returned (.tuple #[.string r1,.bool r2])∧Below w.heap.size w w':=by
 have hu75:=Tryz.underlying75
 have HB:=Aside0.mk (Below.refl w.heap.size w)
 have H : (if (a0_1.size : Int)=16 then (if (a0_0.size : Int) < 1 then (some ((⟨#[]⟩ : ByteArray),false)) else (if (a0_0.size : Int) > 20 then (some ((⟨#[]⟩ : ByteArray),false)) else ((some (([((a0_0.size : Int)) % 256] : List Int) : List Int)).bind fun y119=>(if (strOfNums y119).size + a0_0.size ≤ 9223372036854775807 then (if (strOfNums y119).size + a0_0.size + a0_1.size ≤ 9223372036854775807 then ((escutcheonref14_letter.f 1 (((strOfNums y119) ++ a0_0) ++ a0_1)).bind fun t122=>(some (t122,true))) else (none)) else (none))))) else (some ((⟨#[]⟩ : ByteArray),false)))=some (r1,r2):=h
 clear h
 by_cases c2 : (a0_1.size : Int)=16
 ·rw [if_pos c2] at H
  have c2b0 : ((a0_1.size : Int) == 16)=true:=beq_iff_eq.mpr c2
  have c2b1 : ((a0_1.size : Int) != 16)=false:=bne_eq_false_iff_eq.mpr c2
  clear c2
  by_cases c3 : (a0_0.size : Int) < 1
  ·rw [if_pos c3] at H
   have c3b0 : decide ((a0_0.size : Int) < 1)=true:=decide_eq_true c3
   have c3b1 : decide (a0_0.size < 1)=true:=decide_eq_true (by omega)
   clear c3
   simp only [Option.some.injEq,Prod.mk.injEq] at H
   obtain ⟨rfl,rfl⟩:=H
   go_enter Tryz.func31,Tryz.ntmps31
   go_wp2_with (first | ((with_reducible refine gate_dst (N:=1) rfl ?_);(try (refine gate_guard (by rfl) ?_;dsimp only));refine box_event ?hg (N:=1) ?hd (cs:=#[.string a0_0,.string a0_1]) (t:=75) ?hr ?_;(case hd=>rfl);(case hg=>rfl);(case hr=>first | (go_simp;done) | (go_simp;rfl));intro gb118 hg w4 hbox hb;have n0_:=Aside0.mk (below_step q1_ hb);have n1_:=Aside0.mk (hbox);have n2_:=Aside0.mk ((by rw [hg];exact (below_size q1_) : w.heap.size ≤ gb118));have n3_:=Aside0.mk ((by rw [hg];exact (below_size q1_) : w.heap.size ≤ gb118));clear HB;have HB:=n0_;have BK118:=n1_;have GW118:=n2_;have GE118:=n3_;clear n0_ n1_ n2_ n3_;clear hb hbox hg;have hcz5_0 : w4.cell? ⟨gb118,0,none⟩=some (.string a0_0):=(blk_cell BK118.out 0).trans rfl;have hcz5_1 : w4.cell? ⟨gb118,1,none⟩=some (.string a0_1):=(blk_cell BK118.out 1).trans rfl;have hfz5_0:=blk_frozen BK118.out 0;have hfz5_1:=blk_frozen BK118.out 1))
   go_ret2
   exact ⟨q3_,q17_⟩
  ·rw [if_neg c3] at H
   have c3b0 : decide ((a0_0.size : Int) < 1)=false:=decide_eq_false c3
   have c3b1 : decide (a0_0.size < 1)=false:=decide_eq_false (by omega)
   clear c3
   by_cases c6 : (a0_0.size : Int) > 20
   ·rw [if_pos c6] at H
    have c6b0 : decide (20 < (a0_0.size : Int))=true:=decide_eq_true c6
    have c6b1 : decide (20 < a0_0.size)=true:=decide_eq_true (by omega)
    clear c6
    simp only [Option.some.injEq,Prod.mk.injEq] at H
    obtain ⟨rfl,rfl⟩:=H
    go_enter Tryz.func31,Tryz.ntmps31
    go_wp2_with (first | ((with_reducible refine gate_dst (N:=1) rfl ?_);(try (refine gate_guard (by rfl) ?_;dsimp only));refine box_event ?hg (N:=1) ?hd (cs:=#[.string a0_0,.string a0_1]) (t:=75) ?hr ?_;(case hd=>rfl);(case hg=>rfl);(case hr=>first | (go_simp;done) | (go_simp;rfl));intro gb118 hg w7 hbox hb;have n0_:=Aside0.mk (below_step q1_ hb);have n1_:=Aside0.mk (hbox);have n2_:=Aside0.mk ((by rw [hg];exact (below_size q1_) : w.heap.size ≤ gb118));have n3_:=Aside0.mk ((by rw [hg];exact (below_size q1_) : w.heap.size ≤ gb118));clear HB;have HB:=n0_;have BK118:=n1_;have GW118:=n2_;have GE118:=n3_;clear n0_ n1_ n2_ n3_;clear hb hbox hg;have hcz8_0 : w7.cell? ⟨gb118,0,none⟩=some (.string a0_0):=(blk_cell BK118.out 0).trans rfl;have hcz8_1 : w7.cell? ⟨gb118,1,none⟩=some (.string a0_1):=(blk_cell BK118.out 1).trans rfl;have hfz8_0:=blk_frozen BK118.out 0;have hfz8_1:=blk_frozen BK118.out 1))
    go_ret2
    exact ⟨q3_,q17_⟩
   ·rw [if_neg c6] at H
    have c6b0 : decide (20 < (a0_0.size : Int))=false:=decide_eq_false c6
    have c6b1 : decide (20 < a0_0.size)=false:=decide_eq_false (by omega)
    clear c6
    obtain ⟨y119,hy119⟩ : ∃ y_ : List Int,y_=(([((a0_0.size : Int)) % 256] : List Int)):=⟨_,rfl⟩
    replace H : (if (strOfNums y119).size + a0_0.size ≤ 9223372036854775807 then (if (strOfNums y119).size + a0_0.size + a0_1.size ≤ 9223372036854775807 then ((escutcheonref14_letter.f 1 (((strOfNums y119) ++ a0_0) ++ a0_1)).bind fun t122=>(some (t122,true))) else (none)) else (none))=some (r1,r2):=by first | (rw [hy119];with_reducible exact H) | (have H2_:=(Option.bind_some _ _).symm.trans H;rw [hy119];with_reducible exact H2_) | (have H2_:=(Option.bind_some _ _).symm.trans H;with_reducible exact H2_) | with_reducible exact H | (rw [hy119];exact H) | exact H
    have Ny119:=Aside0.mk hy119
    clear hy119
    by_cases c9 : (strOfNums y119).size + a0_0.size ≤ 9223372036854775807
    ·rw [if_pos c9] at H
     have c9b0:=eq_true c9
     have c9b1 : decide ((strOfNums y119).size + a0_0.size ≤ 9223372036854775807)=true:=decide_eq_true c9
     try have c9b2 : (9223372036854775807 < (strOfNums y119).size + a0_0.size)=False:=eq_false (Nat.not_lt.2 c9)
     by_cases c10 : (strOfNums y119).size + a0_0.size + a0_1.size ≤ 9223372036854775807
     ·rw [if_pos c10] at H
      have c10b0:=eq_true c10
      have c10b1 : decide ((strOfNums y119).size + a0_0.size + a0_1.size ≤ 9223372036854775807)=true:=decide_eq_true c10
      try have c10b2 : (9223372036854775807 < (strOfNums y119).size + a0_0.size + a0_1.size)=False:=eq_false (Nat.not_lt.2 c10)
      replace H:=Option.bind_eq_some_iff.mp H
      obtain ⟨t122,A110,H⟩:=H
      replace H : (some (t122,true))=some (r1,r2):=H
      have A11:=Aside0.mk A110
      clear A110
      simp only [Option.some.injEq,Prod.mk.injEq] at H
      obtain ⟨rfl,rfl⟩:=H
      go_enter Tryz.func31,Tryz.ntmps31
      go_wp2_with (first | ((with_reducible refine gate_dst (N:=1) rfl ?_);(try (refine gate_guard (by rfl) ?_;dsimp only));refine box_event ?hg (N:=1) ?hd (cs:=#[.string a0_0,.string a0_1]) (t:=75) ?hr ?_;(case hd=>rfl);(case hg=>rfl);(case hr=>first | (go_simp;done) | (go_simp;rfl));intro gb118 hg w12 hbox hb;have n0_:=Aside0.mk (below_step q1_ hb);have n1_:=Aside0.mk (hbox);have n2_:=Aside0.mk ((by rw [hg];exact (below_size q1_) : w.heap.size ≤ gb118));have n3_:=Aside0.mk ((by rw [hg];exact (below_size q1_) : w.heap.size ≤ gb118));clear HB;have HB:=n0_;have BK118:=n1_;have GW118:=n2_;have GE118:=n3_;clear n0_ n1_ n2_ n3_;clear hb hbox hg;have hcz13_0 : w12.cell? ⟨gb118,0,none⟩=some (.string a0_0):=(blk_cell BK118.out 0).trans rfl;have hcz13_1 : w12.cell? ⟨gb118,1,none⟩=some (.string a0_1):=(blk_cell BK118.out 1).trans rfl;have hfz13_0:=blk_frozen BK118.out 0;have hfz13_1:=blk_frozen BK118.out 1) | ((with_reducible refine gate_dst (N:=24) rfl ?_);(try (refine gate_guard (by rfl) ?_;dsimp only));refine Kd.R_lit (Kd.int .u8) _ 5 ?hg (N:=24) ?hd (xs:=([((a0_0.size : Int)) % 256] : List Int)) (inner:=[.int .u8 (((a0_0.size : Int)) % 256)]) (ok:=fun _=>True) (okp:=fun _=>True) ?hr ?hp (fun _ hk=>hk) trivial (Below.refl _ _) (Nat.le_refl _) (by simp) ?_;(case hd=>rfl);(case hg=>rfl);(case hr=>first | (go_simp;done) | (go_simp;rfl));(case hp=>exact (Reps.one (show Kd.M (Kd.int .u8) _ _ _ (((a0_0.size : Int)) % 256) [.int .u8 (((a0_0.size : Int)) % 256)] from rfl) (Reps.none _ _)));intro v120 w14 ho15 hb hg_ hnew_;clear hg_ hnew_;(first | rw [← Ny119.out] at ho15 | (simp only [Int.reduceToNat] at ho15;rw [← Ny119.out] at ho15));have n0_:=Aside0.mk (Kd.R_lower ho15 (below_size q17_));have n1_:=Aside0.mk (blk_below (g:=gb118) (o:=.cells #[.string a0_0,.string a0_1] 75 (0,0)) (by (with_reducible repeat (first | refine blk_drewN ?_ _ | refine blk_drew ?_ | refine blk_alloc ?_ _));exact BK118.out) hb);have n2_:=Aside0.mk (below_step q17_ hb);clear BK118;clear HB;have HO121:=n0_;have BK118:=n1_;have HB:=n2_;clear n0_ n1_ n2_;clear hb ho15;have hcv16:=own_string (P:=Tryz.prog) Tryz.underlying150 Tryz.underlying5 Tryz.underlying9 (Kd.own_of_R HO121.out);have hcz17_0 : w14.cell? ⟨gb118,0,none⟩=some (.string a0_0):=(blk_cell BK118.out 0).trans rfl;have hcz17_1 : w14.cell? ⟨gb118,1,none⟩=some (.string a0_1):=(blk_cell BK118.out 1).trans rfl;have hfz17_0:=blk_frozen BK118.out 0;have hfz17_1:=blk_frozen BK118.out 1) | ((with_reducible refine gate_callee (f:=71) rfl ?_);refine goesL_ (some 32) rfl rfl Tryz.func71 (by kernel_rfl) rfl #[.int .i64 1,.string (((strOfNums y119) ++ a0_0) ++ a0_1)] rfl q7_ ?_;(with_reducible refine (escutcheonref14_letter.calls 1 (((strOfNums y119) ++ a0_0) ++ a0_1) t122 _ A11.out).mono ?_);rintro e w18 ⟨rfl,hb⟩;refine ⟨_,rfl,?_⟩;have n0_:=Aside0.mk (Kd.R_below (by (with_reducible repeat (first | apply Kd.R_alloc | apply Kd.R_drewN | apply Kd.R_drew));exact HO121.out) hb);have n1_:=Aside0.mk (blk_below (g:=gb118) (o:=.cells #[.string a0_0,.string a0_1] 75 (0,0)) (by (with_reducible repeat (first | refine blk_drewN ?_ _ | refine blk_drew ?_ | refine blk_alloc ?_ _));exact BK118.out) hb);have n2_:=Aside0.mk (below_step q17_ hb);clear HO121;clear BK118;clear HB;have HO121:=n0_;have BK118:=n1_;have HB:=n2_;clear n0_ n1_ n2_;(try clear hb);(try clear hb2);(try clear hk);(try clear hi)))
      go_ret2
      exact ⟨q3_,q17_⟩
     ·rw [if_neg c10] at H
      exact absurd H (by simp)
    ·rw [if_neg c9] at H
     exact absurd H (by simp)
 ·rw [if_neg c2] at H
  have c2b0 : ((a0_1.size : Int) == 16)=false:=beq_eq_false_iff_ne.mpr c2
  have c2b1 : ((a0_1.size : Int) != 16)=true:=bne_iff_ne.mpr c2
  simp only [Option.some.injEq,Prod.mk.injEq] at H
  obtain ⟨rfl,rfl⟩:=H
  go_enter Tryz.func31,Tryz.ntmps31
  go_wp2_with (first | ((with_reducible refine gate_dst (N:=1) rfl ?_);(try (refine gate_guard (by rfl) ?_;dsimp only));refine box_event ?hg (N:=1) ?hd (cs:=#[.string a0_0,.string a0_1]) (t:=75) ?hr ?_;(case hd=>rfl);(case hg=>rfl);(case hr=>first | (go_simp;done) | (go_simp;rfl));intro gb118 hg w19 hbox hb;have n0_:=Aside0.mk (below_step q1_ hb);have n1_:=Aside0.mk (hbox);have n2_:=Aside0.mk ((by rw [hg];exact (below_size q1_) : w.heap.size ≤ gb118));have n3_:=Aside0.mk ((by rw [hg];exact (below_size q1_) : w.heap.size ≤ gb118));clear HB;have HB:=n0_;have BK118:=n1_;have GW118:=n2_;have GE118:=n3_;clear n0_ n1_ n2_ n3_;clear hb hbox hg;have hcz20_0 : w19.cell? ⟨gb118,0,none⟩=some (.string a0_0):=(blk_cell BK118.out 0).trans rfl;have hcz20_1 : w19.cell? ⟨gb118,1,none⟩=some (.string a0_1):=(blk_cell BK118.out 1).trans rfl;have hfz20_0:=blk_frozen BK118.out 0;have hfz20_1:=blk_frozen BK118.out 1))
  go_ret2
  exact ⟨q3_,q17_⟩
/-! ### escutcheonref1_PutBig: function 72 -/
mutual
def escutcheonref1_PutBig.j0 : Nat→Int→Int→Bool→Option (ByteArray)
 | 0,_,_,_=>none
 | k + 1,x0,x1,x12=>if x12=true then (some (⟨#[]⟩ : ByteArray)) else (if 0 ≤ x1 then (if (x1 : Int).toNat ≤ 281474976710656 then (escutcheonref1_PutBig.l0 k x0 (List.replicate (x1 : Int).toNat 0) (wrap64 (x1 - 1))) else (none)) else (none))
def escutcheonref1_PutBig.l0 : Nat→Int→List Int→Int→Option (ByteArray)
 | 0,_,_,_=>none
 | k + 1,x0,x5,x6=>if x6 ≥ 0 then (if 0 ≤ x6 then (if x6 < (x5.length : Int) then (escutcheonref1_PutBig.l0 k (IntKind.u64.wrap (Int.tdiv x0 256)) (x5.set (x6 : Int).toNat ((Go.bits .and .u64 x0 255) % 256)) (wrap64 (x6 - 1))) else (none)) else (none)) else (some (strOfNums x5))
end
def escutcheonref1_PutBig.f (k : Nat) (a0 : Int) (a1 : Int) : Option (ByteArray):=if a1 < 1 then (escutcheonref1_PutBig.j0 k a0 a1 true) else (escutcheonref1_PutBig.j0 k a0 a1 (decide (a1 > 8)))
theorem escutcheonref1_PutBig.calls (k : Nat) (a0 : Int) (a1 : Int) (r : ByteArray) (w : World) (h : escutcheonref1_PutBig.f k a0 a1=some r) :
  Calls Tryz.prog 72 #[.int .u64 a0,.int .i64 a1] w fun e w'=>e=.returned (.string r)∧Below w.heap.size w w':=by
 have HB:=Aside0.mk (Below.refl w.heap.size w)
 have H : (if a1 < 1 then (escutcheonref1_PutBig.j0 k a0 a1 true) else (escutcheonref1_PutBig.j0 k a0 a1 (decide (a1 > 8))))=some r:=h
 clear h
 have HC3:=Aside0.mk H
 clear H
 go_enter Tryz.func72,Tryz.ntmps72
 go_upto_region 1 with (fail)
 go_cut [12] (fun v12 wc=>∃ (kq : Nat) (x12_2 : Bool),v12=.bool x12_2∧Aside0 (escutcheonref1_PutBig.j0 kq a0 a1 x12_2=some r)∧Aside0 (kq ≤ k)∧Aside0 (Below w.heap.size w wc))
 case first=>
  have H:=HC3.out
  clear HC3
  by_cases c4 : a1 < 1
  ·rw [if_pos c4] at H
   have c4b0 : decide (a1 < 1)=true:=decide_eq_true c4
   clear c4
   (first | rw [c4b0] | (simp only [i64_w,i32_w];rw [c4b0]) | skip)
   have H':=Aside0.mk H
   clear H
   go_wp2
   go_meet
   case rel=>exact ⟨_,(true),q6_,H',⟨q45_⟩,⟨q1_⟩⟩
  ·rw [if_neg c4] at H
   have c4b0 : decide (a1 < 1)=false:=decide_eq_false c4
   clear c4
   (first | rw [c4b0] | (simp only [i64_w,i32_w];rw [c4b0]) | skip)
   have H':=Aside0.mk H
   clear H
   go_wp2
   go_meet
   case rel=>exact ⟨_,(decide (a1 > 8)),q6_,H',⟨q45_⟩,⟨q1_⟩⟩
 case rest=>
  clear HC3
  try clear p2
  try clear c4
  try clear c4b0
  obtain ⟨kq,x12_2,rfl,HA,HJ2,HB⟩:=hcut
  cases kq with
  | zero=>exact absurd HA.out (by simp [escutcheonref1_PutBig.j0])
  | succ kj2=>
   have H:=HA.out
   clear HA
   simp only [escutcheonref1_PutBig.j0] at H
   by_cases c5 : x12_2=true
   ·subst c5
    have H1 : (some (⟨#[]⟩ : ByteArray))=some r:=q44_
    clear H
    have H:=H1
    clear H1
    obtain rfl:=Option.some.inj H
    go_wp2
    go_ret
    exact ⟨q3_,q1_⟩
   ·replace c5:=Bool.eq_false_iff.mpr c5
    subst c5
    have H1 : (if 0 ≤ a1 then (if (a1 : Int).toNat ≤ 281474976710656 then (escutcheonref1_PutBig.l0 kj2 a0 (List.replicate (a1 : Int).toNat 0) (wrap64 (a1 - 1))) else (none)) else (none))=some r:=q20_
    clear H
    have H:=H1
    clear H1
    by_cases c6 : 0 ≤ a1
    ·rw [if_pos c6] at H
     have c6b0:=eq_true c6
     have c6b1 : decide (0 ≤ a1)=true:=decide_eq_true c6
     clear c6
     by_cases c7 : (a1 : Int).toNat ≤ 281474976710656
     ·rw [if_pos c7] at H
      have c7b0:=eq_true c7
      have c7b1 : decide ((a1 : Int).toNat ≤ 281474976710656)=true:=decide_eq_true c7
      clear c7
      obtain ⟨y123,hy123⟩ : ∃ y_ : List Int,y_=(List.replicate (a1 : Int).toNat 0):=⟨_,rfl⟩
      replace H : (escutcheonref1_PutBig.l0 kj2 a0 y123 (wrap64 (a1 - 1)))=some r:=by first | (rw [hy123];with_reducible exact H) | (have H2_:=(Option.bind_some _ _).symm.trans H;rw [hy123];with_reducible exact H2_) | (have H2_:=(Option.bind_some _ _).symm.trans H;with_reducible exact H2_) | with_reducible exact H | (rw [hy123];exact H) | exact H
      have Ny123:=Aside0.mk hy123
      clear hy123
      have H':=Aside0.mk H
      clear H
      go_wp2_with (first | ((with_reducible refine gate_dst (N:=14) rfl ?_);refine Kd.R_make (Kd.int .u8) _ 5 rfl (N:=14) rfl 150 _ _ rfl a1 rfl rfl Tryz.underlying150 (.int .u8 0) 1 info5 rfl (by decide) (by omega) 0 (ok:=fun _=>True) (okp:=fun _=>True) rfl (fun _ hk=>hk) trivial (of_decide_eq_true q5_) (Nat.le_trans (Nat.mul_le_mul_right _ (of_decide_eq_true q5_ : a1.toNat ≤ 281474976710656)) (by omega)) (Below.refl _ _) (Nat.le_refl _) ?_;intro v124 w8 ho9 hb hg_ hnew_;clear hg_ hnew_;(first | rw [← Ny123.out] at ho9 | (simp only [Int.reduceToNat] at ho9;rw [← Ny123.out] at ho9));have n0_:=Aside0.mk (Kd.R_lower ho9 (below_size q1_));have n1_:=Aside0.mk (below_step q1_ hb);clear HB;have HO125:=n0_;have HB:=n1_;clear n0_ n1_;clear hb ho9))
      go_loopg [0,6] kj2 (fun kq v0 v6 w'=>∃ (x0_2 : Int) (x5_2 : List Int) (x6_2 : Int),v0=.int .u64 x0_2∧v6=.int .i64 x6_2∧Aside0 (escutcheonref1_PutBig.l0 kq x0_2 x5_2 x6_2=some r)∧Aside0 (kq ≤ kj2)∧Aside0 (Kd.R (Kd.int .u8) 5 w' w.heap.size (fun _=>True) v124 x5_2)∧Aside0 (Below w.heap.size w w'))
      case atStart=>exact ⟨(a0),(y123),(wrap64 (a1 - 1)),q6_,q6_,H',⟨Nat.le_refl _⟩,⟨by (with_reducible repeat (first | apply Kd.R_alloc | apply Kd.R_drewN | apply Kd.R_drew));exact HO125.out⟩,⟨q1_⟩⟩
      case round=>
       clear H'
       try clear p2
       try clear c4
       try clear c4b0
       try clear c5
       try clear c6
       try clear c6b0
       try clear c6b1
       try clear p6
       try clear c7
       try clear c7b0
       try clear c7b1
       try clear p2
       obtain ⟨x0_2,x5_2,x6_2,rfl,rfl,HA,HK2,HO_5,HB⟩:=hrel
       cases gk with
       | zero=>exact absurd HA.out (by simp [escutcheonref1_PutBig.l0])
       | succ k2=>
        have H:=HA.out
        clear HA
        simp only [escutcheonref1_PutBig.l0] at H
        by_cases c10 : x6_2 ≥ 0
        ·rw [if_pos c10] at H
         have c10b0 : decide (0 ≤ x6_2)=true:=decide_eq_true c10
         clear c10
         by_cases c11 : 0 ≤ x6_2
         ·rw [if_pos c11] at H
          have c11b0 : decide (0 ≤ x6_2)=true:=decide_eq_true c11
          clear c11
          by_cases c12 : x6_2 < (x5_2.length : Int)
          ·rw [if_pos c12] at H
           have c12b0 : decide (x6_2 < (x5_2.length : Int))=true:=decide_eq_true c12
           clear c12
           obtain ⟨y126,hy126⟩ : ∃ y_ : List Int,y_=(x5_2.set (x6_2 : Int).toNat ((Go.bits .and .u64 x0_2 255) % 256)):=⟨_,rfl⟩
           replace H : (escutcheonref1_PutBig.l0 k2 (IntKind.u64.wrap (Int.tdiv x0_2 256)) y126 (wrap64 (x6_2 - 1)))=some r:=by first | (rw [hy126];with_reducible exact H) | (have H2_:=(Option.bind_some _ _).symm.trans H;rw [hy126];with_reducible exact H2_) | (have H2_:=(Option.bind_some _ _).symm.trans H;with_reducible exact H2_) | with_reducible exact H | (rw [hy126];exact H) | exact H
           have Ny126:=Aside0.mk hy126
           clear hy126
           have H':=Aside0.mk H
           clear H
           have p13 : 0 ≤ (x6_2 : Int):=of_decide_eq_true q5_
           have q13 : (x6_2 : Int) < ((x5_2.length : Int) : Int):=of_decide_eq_true q5_
           obtain ⟨go13,co13,eo13,gb13,gl13,cl13,HG13⟩:=Kd.R_form HO_5.out (by omega)
           (first | cases eo13 | (injection eo13 with ea_ en_ ec_;(first | subst ea_ | (injection ea_ with ea_;subst ea_));subst ec_;clear en_))
           have GB13:=Aside0.mk gb13
           have GG13:=Aside0.mk HG13
           clear gb13 gl13 HG13
           obtain ⟨hx13_0,hf13_0⟩:=Kd.R_celln 0 HO_5.out (x6_2 : Int) p13 q13
           replace p13:=eq_true p13
           replace q13:=eq_true q13
           have HP14:=Kd.R_putg HO_5.out (x6_2 : Int) ((Go.bits .and .u64 x0_2 255) % 256)
           go_wp2_with (first | ((with_reducible refine gate_store (t:=5) (p:=26) rfl ?_);refine store_event (t:=5) (p:=26) (v:=?vo_w15) (w1:=(wr.setCell ⟨go13,(x6_2 : Int).toNat,none⟩ (.int .u8 ((Go.bits .and .u64 x0_2 255) % 256)))) ?hg ?ho ?hn ?hr ?_;(case ho=>rfl);(case hg=>rfl);(case hn=>rfl);(case hr=>first | (go_simp;done) | (go_simp;rfl));intro w15 hw;have hg : wr.grownBy w15 (some go13):=(by rw [hw];exact HP14.2);have hp_ : Kd.R (Kd.int .u8) 5 w15 w.heap.size (fun _=>True) (.slice (some ⟨go13,0,none⟩) x5_2.length co13) y126:=(by rw [hw,Ny126.out];exact HP14.1);clear HP14;have n0_:=Aside0.mk (hp_);have n1_:=Aside0.mk ((by rw [hw];exact below_set (HB.out) GB13.out : Below w.heap.size w w15));clear HO_5;clear HB;have HO_5:=n0_;have HB:=n1_;clear n0_ n1_;clear hg hw hp_))
           go_roundg k2
           case measure=>have:=HJ2.out;have:=HK2.out;omega
           case rel=>exact ⟨(IntKind.u64.wrap (Int.tdiv x0_2 256)),(y126),(wrap64 (x6_2 - 1)),q6_,q6_,H',⟨by have:=HJ2.out;have:=HK2.out;omega⟩,⟨q16_⟩,⟨q1_⟩⟩
          ·rw [if_neg c12] at H
           exact absurd H (by simp)
         ·rw [if_neg c11] at H
          exact absurd H (by simp)
        ·rw [if_neg c10] at H
         have c10b0 : decide (0 ≤ x6_2)=false:=decide_eq_false c10
         clear c10
         obtain rfl:=Option.some.inj H
         have hcv16:=own_string (P:=Tryz.prog) Tryz.underlying150 Tryz.underlying5 Tryz.underlying9 (Kd.own_of_R HO_5.out)
         go_wp2
         go_ret
         exact ⟨q3_,q1_⟩
     ·rw [if_neg c7] at H
      exact absurd H (by simp)
    ·rw [if_neg c6] at H
     exact absurd H (by simp)
/-! ### frame_right: function 129 -/
def frame_right.f (a0 : Int) : Option (Bool):=if a0 ≥ 1 then (some (decide (a0 ≤ 2200))) else (some false)
theorem frame_right.calls (a0 : Int) (r : Bool) (w : World) (h : frame_right.f a0=some r) :
  Calls Tryz.prog 129 #[.int .i64 a0] w fun e w'=>e=.returned (.bool r)∧Drawn0 w w':=by
 have H : (if a0 ≥ 1 then (some (decide (a0 ≤ 2200))) else (some false))=some r:=h
 clear h
 by_cases c2 : a0 ≥ 1
 ·rw [if_pos c2] at H
  have c2b0 : decide (1 ≤ a0)=true:=decide_eq_true c2
  clear c2
  obtain rfl:=Option.some.inj H
  go_enter Tryz.func129,Tryz.ntmps129
  go_wp2
  go_ret
  exact ⟨q6_,q9_⟩
 ·rw [if_neg c2] at H
  have c2b0 : decide (1 ≤ a0)=false:=decide_eq_false c2
  clear c2
  obtain rfl:=Option.some.inj H
  go_enter Tryz.func129,Tryz.ntmps129
  go_wp2
  go_ret
  exact ⟨q6_,q9_⟩
/-! ### hello_Kind: function 249 -/
def hello_Kind.f (a0 : ByteArray) : Option (Int):=if a0.toList=([] : List UInt8) then (some 0) else (if 0 < (a0.size : Int) then (if (bt a0 0) < 1 then (some 0) else (if (bt a0 0) > 5 then (some 0) else (some (wrap64 (bt a0 0))))) else (none))
theorem hello_Kind.calls (a0 : ByteArray) (r : Int) (w : World) (h : hello_Kind.f a0=some r) :
  Calls Tryz.prog 249 #[.string a0] w fun e w'=>e=.returned (.int .i64 r)∧Drawn0 w w':=by
 have H : (if a0.toList=([] : List UInt8) then (some 0) else (if 0 < (a0.size : Int) then (if (bt a0 0) < 1 then (some 0) else (if (bt a0 0) > 5 then (some 0) else (some (wrap64 (bt a0 0))))) else (none)))=some r:=h
 clear h
 by_cases c2 : a0.toList=([] : List UInt8)
 ·rw [if_pos c2] at H
  have c2b0 : (a0.toList == ([] : List UInt8))=true:=beq_iff_eq.mpr c2
  have c2b1 : (a0.toList != ([] : List UInt8))=false:=bne_eq_false_iff_eq.mpr c2
  clear c2
  obtain rfl:=Option.some.inj H
  go_enter Tryz.func249,Tryz.ntmps249
  go_wp2
  go_ret
  exact ⟨q6_,q9_⟩
 ·rw [if_neg c2] at H
  have c2b0 : (a0.toList == ([] : List UInt8))=false:=beq_eq_false_iff_ne.mpr c2
  have c2b1 : (a0.toList != ([] : List UInt8))=true:=bne_iff_ne.mpr c2
  by_cases c3 : 0 < (a0.size : Int)
  ·rw [if_pos c3] at H
   have c3b0 : decide (0 < (a0.size : Int))=true:=decide_eq_true c3
   have c3b1 : decide (0 < a0.size)=true:=decide_eq_true (by omega)
   clear c3
   by_cases c5 : (bt a0 0) < 1
   ·rw [if_pos c5] at H
    have c5b0 : decide ((bt a0 0) < 1)=true:=decide_eq_true c5
    clear c5
    obtain rfl:=Option.some.inj H
    have p4 : 0 ≤ (0 : Int):=(by omega)
    have q4 : 0 < a0.size:=(by have : (0 : Int) < (a0.size : Int):=of_decide_eq_true q5_;omega)
    have hx4 : ∀ h : 0 < a0.size,((a0[0]'h).toNat : Int)=bt a0 0:=bt_at a0 0
    clear p4
    have qi4 : (0 < (a0.size : Int))=True:=eq_true (of_decide_eq_true q5_)
    replace q4:=eq_true q4
    go_enter Tryz.func249,Tryz.ntmps249
    go_wp2
    go_ret
    exact ⟨q6_,q9_⟩
   ·rw [if_neg c5] at H
    have c5b0 : decide ((bt a0 0) < 1)=false:=decide_eq_false c5
    clear c5
    by_cases c7 : (bt a0 0) > 5
    ·rw [if_pos c7] at H
     have c7b0 : decide (5 < (bt a0 0))=true:=decide_eq_true c7
     clear c7
     obtain rfl:=Option.some.inj H
     have p4 : 0 ≤ (0 : Int):=(by omega)
     have q4 : 0 < a0.size:=(by have : (0 : Int) < (a0.size : Int):=of_decide_eq_true q5_;omega)
     have hx4 : ∀ h : 0 < a0.size,((a0[0]'h).toNat : Int)=bt a0 0:=bt_at a0 0
     clear p4
     have qi4 : (0 < (a0.size : Int))=True:=eq_true (of_decide_eq_true q5_)
     replace q4:=eq_true q4
     have p6 : 0 ≤ (0 : Int):=(by omega)
     have q6 : 0 < a0.size:=(by have : (0 : Int) < (a0.size : Int):=of_decide_eq_true q5_;omega)
     have hx6 : ∀ h : 0 < a0.size,((a0[0]'h).toNat : Int)=bt a0 0:=bt_at a0 0
     clear p6
     have qi6 : (0 < (a0.size : Int))=True:=eq_true (of_decide_eq_true q5_)
     replace q6:=eq_true q6
     go_enter Tryz.func249,Tryz.ntmps249
     go_wp2
     go_ret
     exact ⟨q6_,q9_⟩
    ·rw [if_neg c7] at H
     have c7b0 : decide (5 < (bt a0 0))=false:=decide_eq_false c7
     clear c7
     obtain rfl:=Option.some.inj H
     have p4 : 0 ≤ (0 : Int):=(by omega)
     have q4 : 0 < a0.size:=(by have : (0 : Int) < (a0.size : Int):=of_decide_eq_true q5_;omega)
     have hx4 : ∀ h : 0 < a0.size,((a0[0]'h).toNat : Int)=bt a0 0:=bt_at a0 0
     clear p4
     have qi4 : (0 < (a0.size : Int))=True:=eq_true (of_decide_eq_true q5_)
     replace q4:=eq_true q4
     have p6 : 0 ≤ (0 : Int):=(by omega)
     have q6 : 0 < a0.size:=(by have : (0 : Int) < (a0.size : Int):=of_decide_eq_true q5_;omega)
     have hx6 : ∀ h : 0 < a0.size,((a0[0]'h).toNat : Int)=bt a0 0:=bt_at a0 0
     clear p6
     have qi6 : (0 < (a0.size : Int))=True:=eq_true (of_decide_eq_true q5_)
     replace q6:=eq_true q6
     have p8 : 0 ≤ (0 : Int):=(by omega)
     have q8 : 0 < a0.size:=(by have : (0 : Int) < (a0.size : Int):=of_decide_eq_true q5_;omega)
     have hx8 : ∀ h : 0 < a0.size,((a0[0]'h).toNat : Int)=bt a0 0:=bt_at a0 0
     clear p8
     have qi8 : (0 < (a0.size : Int))=True:=eq_true (of_decide_eq_true q5_)
     replace q8:=eq_true q8
     go_enter Tryz.func249,Tryz.ntmps249
     go_wp2
     go_ret
     exact ⟨q6_,q9_⟩
  ·rw [if_neg c3] at H
   exact absurd H (by simp)
/-! ### hello_PutHello: function 261 -/
def hello_PutHello.f (a0_0 : ByteArray) (a0_1 : ByteArray) : Option (ByteArray × Bool):=if (a0_1.size : Int)=16 then (if (a0_0.size : Int) < 1 then (some ((⟨#[]⟩ : ByteArray),false)) else (if (a0_0.size : Int) > 20 then (some ((⟨#[]⟩ : ByteArray),false)) else ((some (([1,((a0_0.size : Int)) % 256] : List Int) : List Int)).bind fun y131=>(if (strOfNums y131).size + a0_0.size ≤ 9223372036854775807 then (if (strOfNums y131).size + a0_0.size + a0_1.size ≤ 9223372036854775807 then (some (((strOfNums y131) ++ a0_0) ++ a0_1,true)) else (none)) else (none))))) else (some ((⟨#[]⟩ : ByteArray),false))
theorem hello_PutHello.calls (a0_0 : ByteArray) (a0_1 : ByteArray) (r1 : ByteArray) (r2 : Bool) (w : World) (h : hello_PutHello.f a0_0 a0_1=some (r1,r2)) :
  Calls Tryz.prog 261 #[.agg #[.string a0_0,.string a0_1]] w fun e w'=>e=.returned (.tuple #[.string r1,.bool r2])∧Below w.heap.size w w':=by
 have hu75:=Tryz.underlying75
 have HB:=Aside0.mk (Below.refl w.heap.size w)
 have H : (if (a0_1.size : Int)=16 then (if (a0_0.size : Int) < 1 then (some ((⟨#[]⟩ : ByteArray),false)) else (if (a0_0.size : Int) > 20 then (some ((⟨#[]⟩ : ByteArray),false)) else ((some (([1,((a0_0.size : Int)) % 256] : List Int) : List Int)).bind fun y131=>(if (strOfNums y131).size + a0_0.size ≤ 9223372036854775807 then (if (strOfNums y131).size + a0_0.size + a0_1.size ≤ 9223372036854775807 then (some (((strOfNums y131) ++ a0_0) ++ a0_1,true)) else (none)) else (none))))) else (some ((⟨#[]⟩ : ByteArray),false)))=some (r1,r2):=h
 clear h
 by_cases c2 : (a0_1.size : Int)=16
 ·rw [if_pos c2] at H
  have c2b0 : ((a0_1.size : Int) == 16)=true:=beq_iff_eq.mpr c2
  have c2b1 : ((a0_1.size : Int) != 16)=false:=bne_eq_false_iff_eq.mpr c2
  clear c2
  by_cases c3 : (a0_0.size : Int) < 1
  ·rw [if_pos c3] at H
   have c3b0 : decide ((a0_0.size : Int) < 1)=true:=decide_eq_true c3
   have c3b1 : decide (a0_0.size < 1)=true:=decide_eq_true (by omega)
   clear c3
   simp only [Option.some.injEq,Prod.mk.injEq] at H
   obtain ⟨rfl,rfl⟩:=H
   go_enter Tryz.func261,Tryz.ntmps261
   go_wp2_with (first | ((with_reducible refine gate_dst (N:=1) rfl ?_);(try (refine gate_guard (by rfl) ?_;dsimp only));refine box_event ?hg (N:=1) ?hd (cs:=#[.string a0_0,.string a0_1]) (t:=75) ?hr ?_;(case hd=>rfl);(case hg=>rfl);(case hr=>first | (go_simp;done) | (go_simp;rfl));intro gb130 hg w4 hbox hb;have n0_:=Aside0.mk (below_step q1_ hb);have n1_:=Aside0.mk (hbox);have n2_:=Aside0.mk ((by rw [hg];exact (below_size q1_) : w.heap.size ≤ gb130));have n3_:=Aside0.mk ((by rw [hg];exact (below_size q1_) : w.heap.size ≤ gb130));clear HB;have HB:=n0_;have BK130:=n1_;have GW130:=n2_;have GE130:=n3_;clear n0_ n1_ n2_ n3_;clear hb hbox hg;have hcz5_0 : w4.cell? ⟨gb130,0,none⟩=some (.string a0_0):=(blk_cell BK130.out 0).trans rfl;have hcz5_1 : w4.cell? ⟨gb130,1,none⟩=some (.string a0_1):=(blk_cell BK130.out 1).trans rfl;have hfz5_0:=blk_frozen BK130.out 0;have hfz5_1:=blk_frozen BK130.out 1))
   go_ret2
   exact ⟨q3_,q22_⟩
  ·rw [if_neg c3] at H
   have c3b0 : decide ((a0_0.size : Int) < 1)=false:=decide_eq_false c3
   have c3b1 : decide (a0_0.size < 1)=false:=decide_eq_false (by omega)
   clear c3
   by_cases c6 : (a0_0.size : Int) > 20
   ·rw [if_pos c6] at H
    have c6b0 : decide (20 < (a0_0.size : Int))=true:=decide_eq_true c6
    have c6b1 : decide (20 < a0_0.size)=true:=decide_eq_true (by omega)
    clear c6
    simp only [Option.some.injEq,Prod.mk.injEq] at H
    obtain ⟨rfl,rfl⟩:=H
    go_enter Tryz.func261,Tryz.ntmps261
    go_wp2_with (first | ((with_reducible refine gate_dst (N:=1) rfl ?_);(try (refine gate_guard (by rfl) ?_;dsimp only));refine box_event ?hg (N:=1) ?hd (cs:=#[.string a0_0,.string a0_1]) (t:=75) ?hr ?_;(case hd=>rfl);(case hg=>rfl);(case hr=>first | (go_simp;done) | (go_simp;rfl));intro gb130 hg w7 hbox hb;have n0_:=Aside0.mk (below_step q1_ hb);have n1_:=Aside0.mk (hbox);have n2_:=Aside0.mk ((by rw [hg];exact (below_size q1_) : w.heap.size ≤ gb130));have n3_:=Aside0.mk ((by rw [hg];exact (below_size q1_) : w.heap.size ≤ gb130));clear HB;have HB:=n0_;have BK130:=n1_;have GW130:=n2_;have GE130:=n3_;clear n0_ n1_ n2_ n3_;clear hb hbox hg;have hcz8_0 : w7.cell? ⟨gb130,0,none⟩=some (.string a0_0):=(blk_cell BK130.out 0).trans rfl;have hcz8_1 : w7.cell? ⟨gb130,1,none⟩=some (.string a0_1):=(blk_cell BK130.out 1).trans rfl;have hfz8_0:=blk_frozen BK130.out 0;have hfz8_1:=blk_frozen BK130.out 1))
    go_ret2
    exact ⟨q3_,q22_⟩
   ·rw [if_neg c6] at H
    have c6b0 : decide (20 < (a0_0.size : Int))=false:=decide_eq_false c6
    have c6b1 : decide (20 < a0_0.size)=false:=decide_eq_false (by omega)
    clear c6
    obtain ⟨y131,hy131⟩ : ∃ y_ : List Int,y_=(([1,((a0_0.size : Int)) % 256] : List Int)):=⟨_,rfl⟩
    replace H : (if (strOfNums y131).size + a0_0.size ≤ 9223372036854775807 then (if (strOfNums y131).size + a0_0.size + a0_1.size ≤ 9223372036854775807 then (some (((strOfNums y131) ++ a0_0) ++ a0_1,true)) else (none)) else (none))=some (r1,r2):=by first | (rw [hy131];with_reducible exact H) | (have H2_:=(Option.bind_some _ _).symm.trans H;rw [hy131];with_reducible exact H2_) | (have H2_:=(Option.bind_some _ _).symm.trans H;with_reducible exact H2_) | with_reducible exact H | (rw [hy131];exact H) | exact H
    have Ny131:=Aside0.mk hy131
    clear hy131
    by_cases c9 : (strOfNums y131).size + a0_0.size ≤ 9223372036854775807
    ·rw [if_pos c9] at H
     have c9b0:=eq_true c9
     have c9b1 : decide ((strOfNums y131).size + a0_0.size ≤ 9223372036854775807)=true:=decide_eq_true c9
     try have c9b2 : (9223372036854775807 < (strOfNums y131).size + a0_0.size)=False:=eq_false (Nat.not_lt.2 c9)
     by_cases c10 : (strOfNums y131).size + a0_0.size + a0_1.size ≤ 9223372036854775807
     ·rw [if_pos c10] at H
      have c10b0:=eq_true c10
      have c10b1 : decide ((strOfNums y131).size + a0_0.size + a0_1.size ≤ 9223372036854775807)=true:=decide_eq_true c10
      try have c10b2 : (9223372036854775807 < (strOfNums y131).size + a0_0.size + a0_1.size)=False:=eq_false (Nat.not_lt.2 c10)
      simp only [Option.some.injEq,Prod.mk.injEq] at H
      obtain ⟨rfl,rfl⟩:=H
      go_enter Tryz.func261,Tryz.ntmps261
      go_wp2_with (first | ((with_reducible refine gate_dst (N:=1) rfl ?_);(try (refine gate_guard (by rfl) ?_;dsimp only));refine box_event ?hg (N:=1) ?hd (cs:=#[.string a0_0,.string a0_1]) (t:=75) ?hr ?_;(case hd=>rfl);(case hg=>rfl);(case hr=>first | (go_simp;done) | (go_simp;rfl));intro gb130 hg w11 hbox hb;have n0_:=Aside0.mk (below_step q1_ hb);have n1_:=Aside0.mk (hbox);have n2_:=Aside0.mk ((by rw [hg];exact (below_size q1_) : w.heap.size ≤ gb130));have n3_:=Aside0.mk ((by rw [hg];exact (below_size q1_) : w.heap.size ≤ gb130));clear HB;have HB:=n0_;have BK130:=n1_;have GW130:=n2_;have GE130:=n3_;clear n0_ n1_ n2_ n3_;clear hb hbox hg;have hcz12_0 : w11.cell? ⟨gb130,0,none⟩=some (.string a0_0):=(blk_cell BK130.out 0).trans rfl;have hcz12_1 : w11.cell? ⟨gb130,1,none⟩=some (.string a0_1):=(blk_cell BK130.out 1).trans rfl;have hfz12_0:=blk_frozen BK130.out 0;have hfz12_1:=blk_frozen BK130.out 1) | ((with_reducible refine gate_dst (N:=24) rfl ?_);(try (refine gate_guard (by rfl) ?_;dsimp only));refine Kd.R_lit (Kd.int .u8) _ 5 ?hg (N:=24) ?hd (xs:=([1,((a0_0.size : Int)) % 256] : List Int)) (inner:=[.int .u8 1,.int .u8 (((a0_0.size : Int)) % 256)]) (ok:=fun _=>True) (okp:=fun _=>True) ?hr ?hp (fun _ hk=>hk) trivial (Below.refl _ _) (Nat.le_refl _) (by simp) ?_;(case hd=>rfl);(case hg=>rfl);(case hr=>first | (go_simp;done) | (go_simp;rfl));(case hp=>exact (Reps.one (show Kd.M (Kd.int .u8) _ _ _ 1 [.int .u8 1] from rfl) (Reps.one (show Kd.M (Kd.int .u8) _ _ _ (((a0_0.size : Int)) % 256) [.int .u8 (((a0_0.size : Int)) % 256)] from rfl) (Reps.none _ _))));intro v132 w13 ho14 hb hg_ hnew_;clear hg_ hnew_;(first | rw [← Ny131.out] at ho14 | (simp only [Int.reduceToNat] at ho14;rw [← Ny131.out] at ho14));have n0_:=Aside0.mk (Kd.R_lower ho14 (below_size q22_));have n1_:=Aside0.mk (blk_below (g:=gb130) (o:=.cells #[.string a0_0,.string a0_1] 75 (0,0)) (by (with_reducible repeat (first | refine blk_drewN ?_ _ | refine blk_drew ?_ | refine blk_alloc ?_ _));exact BK130.out) hb);have n2_:=Aside0.mk (below_step q22_ hb);clear BK130;clear HB;have HO133:=n0_;have BK130:=n1_;have HB:=n2_;clear n0_ n1_ n2_;clear hb ho14;have hcv15:=own_string (P:=Tryz.prog) Tryz.underlying150 Tryz.underlying5 Tryz.underlying9 (Kd.own_of_R HO133.out);have hcz16_0 : w13.cell? ⟨gb130,0,none⟩=some (.string a0_0):=(blk_cell BK130.out 0).trans rfl;have hcz16_1 : w13.cell? ⟨gb130,1,none⟩=some (.string a0_1):=(blk_cell BK130.out 1).trans rfl;have hfz16_0:=blk_frozen BK130.out 0;have hfz16_1:=blk_frozen BK130.out 1))
      go_ret2
      exact ⟨q3_,q22_⟩
     ·rw [if_neg c10] at H
      exact absurd H (by simp)
    ·rw [if_neg c9] at H
     exact absurd H (by simp)
 ·rw [if_neg c2] at H
  have c2b0 : ((a0_1.size : Int) == 16)=false:=beq_eq_false_iff_ne.mpr c2
  have c2b1 : ((a0_1.size : Int) != 16)=true:=bne_iff_ne.mpr c2
  simp only [Option.some.injEq,Prod.mk.injEq] at H
  obtain ⟨rfl,rfl⟩:=H
  go_enter Tryz.func261,Tryz.ntmps261
  go_wp2_with (first | ((with_reducible refine gate_dst (N:=1) rfl ?_);(try (refine gate_guard (by rfl) ?_;dsimp only));refine box_event ?hg (N:=1) ?hd (cs:=#[.string a0_0,.string a0_1]) (t:=75) ?hr ?_;(case hd=>rfl);(case hg=>rfl);(case hr=>first | (go_simp;done) | (go_simp;rfl));intro gb130 hg w17 hbox hb;have n0_:=Aside0.mk (below_step q1_ hb);have n1_:=Aside0.mk (hbox);have n2_:=Aside0.mk ((by rw [hg];exact (below_size q1_) : w.heap.size ≤ gb130));have n3_:=Aside0.mk ((by rw [hg];exact (below_size q1_) : w.heap.size ≤ gb130));clear HB;have HB:=n0_;have BK130:=n1_;have GW130:=n2_;have GE130:=n3_;clear n0_ n1_ n2_ n3_;clear hb hbox hg;have hcz18_0 : w17.cell? ⟨gb130,0,none⟩=some (.string a0_0):=(blk_cell BK130.out 0).trans rfl;have hcz18_1 : w17.cell? ⟨gb130,1,none⟩=some (.string a0_1):=(blk_cell BK130.out 1).trans rfl;have hfz18_0:=blk_frozen BK130.out 0;have hfz18_1:=blk_frozen BK130.out 1))
  go_ret2
  exact ⟨q3_,q22_⟩
end Go.Proofs.YtkekohmkaefdnaaGreatDoor.Pb
