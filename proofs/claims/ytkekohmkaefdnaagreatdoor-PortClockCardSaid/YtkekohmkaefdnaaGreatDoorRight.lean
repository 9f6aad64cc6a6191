import Derived.Test.YtkekohmkaefdnaaGreatDoorPa0
import Derived.Test.YtkekohmkaefdnaaGreatDoorPa2
import Derived.Test.YtkekohmkaefdnaaGreatDoorPa1
import Derived.Deep.CutBlock
import Derived.Lib.ConvBytes
set_option linter.unusedSimpArgs false
set_option linter.unusedVariables false
set_option maxHeartbeats 8000000
set_option maxRecDepth 100000
namespace Go.Proofs.YtkekohmkaefdnaaGreatDoor.Pa
open Go.RowKit Go.Proofs.YtkekohmkaefdnaaGreatDoorW.PrintWords Go.Proofs.YtkekohmkaefdnaaGreatDoorW.PrintLast Go.Proofs.YtkekohmkaefdnaaGreatDoorW.PrintMore
attribute [local go_sem] max2_int min2_int max_two min_two max_three min_three max_four min_four
/-! ### acl_Fits: function 113 -/
def acl_Fits.f (k : Nat) (a0_0 : Bool) (a0_1 : ByteArray) (a0_2 : Int) (a0_3 : ByteArray) (a1 : ByteArray) (a2 : Int) (a3 : ByteArray) : Option (Bool):=if a0_1.toList=a1.toList then (if a0_2=a2 then ((glob_Match.f k a0_3 a3).bind fun t154=>(some t154)) else (if a0_2=0 then ((glob_Match.f k a0_3 a3).bind fun t155=>(some t155)) else (some false))) else (if a0_1.toList=([42] : List UInt8) then (if a0_2=a2 then ((glob_Match.f k a0_3 a3).bind fun t156=>(some t156)) else (if a0_2=0 then ((glob_Match.f k a0_3 a3).bind fun t157=>(some t157)) else (some false))) else (some false))
theorem acl_Fits.calls (k : Nat) (a0_0 : Bool) (a0_1 : ByteArray) (a0_2 : Int) (a0_3 : ByteArray) (a1 : ByteArray) (a2 : Int) (a3 : ByteArray) (r : Bool) (w : World) (h : acl_Fits.f k a0_0 a0_1 a0_2 a0_3 a1 a2 a3=some r) :
  Calls Tryz.prog 113 #[.agg #[.bool a0_0,.string a0_1,.int .i64 a0_2,.string a0_3],.string a1,.int .i64 a2,.string a3] w fun e w'=>e=.returned (.bool r)∧Below w.heap.size w w':=by
 have hu145:=Tryz.underlying145
 have HB:=Aside0.mk (Below.refl w.heap.size w)
 have H : (if a0_1.toList=a1.toList then (if a0_2=a2 then ((glob_Match.f k a0_3 a3).bind fun t154=>(some t154)) else (if a0_2=0 then ((glob_Match.f k a0_3 a3).bind fun t155=>(some t155)) else (some false))) else (if a0_1.toList=([42] : List UInt8) then (if a0_2=a2 then ((glob_Match.f k a0_3 a3).bind fun t156=>(some t156)) else (if a0_2=0 then ((glob_Match.f k a0_3 a3).bind fun t157=>(some t157)) else (some false))) else (some false)))=some r:=h
 clear h
 by_cases c5 : a0_1.toList=a1.toList
 ·rw [if_pos c5] at H
  have c5b0 : (a0_1.toList == a1.toList)=true:=beq_iff_eq.mpr c5
  have c5b1 : (a0_1.toList != a1.toList)=false:=bne_eq_false_iff_eq.mpr c5
  clear c5
  by_cases c6 : a0_2=a2
  ·rw [if_pos c6] at H
   have c6b0 : (a0_2 == a2)=true:=beq_iff_eq.mpr c6
   have c6b1 : (a0_2 != a2)=false:=bne_eq_false_iff_eq.mpr c6
   clear c6
   replace H:=Option.bind_eq_some_iff.mp H
   obtain ⟨t154,A70,H⟩:=H
   replace H : (some t154)=some r:=H
   have A7:=Aside0.mk A70
   clear A70
   obtain rfl:=Option.some.inj H
   go_enter Tryz.func113,Tryz.ntmps113
   go_wp2_with (first | ((with_reducible refine gate_dst (N:=4) rfl ?_);refine box_event ?hg (N:=4) ?hd (cs:=#[.bool a0_0,.string a0_1,.int .i64 a0_2,.string a0_3]) (t:=145) ?hr ?_;(case hd=>rfl);(case hg=>rfl);(case hr=>first | (go_simp;done) | (go_simp;rfl));intro gb153 hg w8 hbox hb;have n0_:=Aside0.mk (below_step q1_ hb);have n1_:=Aside0.mk (hbox);have n2_:=Aside0.mk ((by rw [hg];exact (below_size q1_) : w.heap.size ≤ gb153));have n3_:=Aside0.mk ((by rw [hg];exact (below_size q1_) : w.heap.size ≤ gb153));clear HB;have HB:=n0_;have BK153:=n1_;have GW153:=n2_;have GE153:=n3_;clear n0_ n1_ n2_ n3_;clear hb hbox hg;have hcz9_0 : w8.cell? ⟨gb153,0,none⟩=some (.bool a0_0):=(blk_cell BK153.out 0).trans rfl;have hcz9_1 : w8.cell? ⟨gb153,1,none⟩=some (.string a0_1):=(blk_cell BK153.out 1).trans rfl;have hcz9_2 : w8.cell? ⟨gb153,2,none⟩=some (.int .i64 a0_2):=(blk_cell BK153.out 2).trans rfl;have hcz9_3 : w8.cell? ⟨gb153,3,none⟩=some (.string a0_3):=(blk_cell BK153.out 3).trans rfl;have hfz9_0:=blk_frozen BK153.out 0;have hfz9_1:=blk_frozen BK153.out 1;have hfz9_2:=blk_frozen BK153.out 2;have hfz9_3:=blk_frozen BK153.out 3) | (go_at_call 147;(with_reducible refine (glob_Match.calls k a0_3 a3 t154 _ A7.out).mono ?_);rintro e w10 ⟨rfl,hb⟩;have n0_:=Aside0.mk (blk_below (g:=gb153) (o:=.cells #[.bool a0_0,.string a0_1,.int .i64 a0_2,.string a0_3] 145 (0,0)) q47_ hb);have n1_:=Aside0.mk (below_step q10_ hb);clear BK153;clear HB;have BK153:=n0_;have HB:=n1_;clear n0_ n1_;(try clear hb);(try clear hb2);(try clear hk);(try clear hi)))
   go_ret
   exact ⟨q3_,q10_⟩
  ·rw [if_neg c6] at H
   have c6b0 : (a0_2 == a2)=false:=beq_eq_false_iff_ne.mpr c6
   have c6b1 : (a0_2 != a2)=true:=bne_iff_ne.mpr c6
   by_cases c11 : a0_2=0
   ·rw [if_pos c11] at H
    have c11b0 : (a0_2 == 0)=true:=beq_iff_eq.mpr c11
    have c11b1 : (a0_2 != 0)=false:=bne_eq_false_iff_eq.mpr c11
    clear c11
    replace H:=Option.bind_eq_some_iff.mp H
    obtain ⟨t155,A120,H⟩:=H
    replace H : (some t155)=some r:=H
    have A12:=Aside0.mk A120
    clear A120
    obtain rfl:=Option.some.inj H
    go_enter Tryz.func113,Tryz.ntmps113
    go_wp2_with (first | ((with_reducible refine gate_dst (N:=4) rfl ?_);refine box_event ?hg (N:=4) ?hd (cs:=#[.bool a0_0,.string a0_1,.int .i64 a0_2,.string a0_3]) (t:=145) ?hr ?_;(case hd=>rfl);(case hg=>rfl);(case hr=>first | (go_simp;done) | (go_simp;rfl));intro gb153 hg w13 hbox hb;have n0_:=Aside0.mk (below_step q1_ hb);have n1_:=Aside0.mk (hbox);have n2_:=Aside0.mk ((by rw [hg];exact (below_size q1_) : w.heap.size ≤ gb153));have n3_:=Aside0.mk ((by rw [hg];exact (below_size q1_) : w.heap.size ≤ gb153));clear HB;have HB:=n0_;have BK153:=n1_;have GW153:=n2_;have GE153:=n3_;clear n0_ n1_ n2_ n3_;clear hb hbox hg;have hcz14_0 : w13.cell? ⟨gb153,0,none⟩=some (.bool a0_0):=(blk_cell BK153.out 0).trans rfl;have hcz14_1 : w13.cell? ⟨gb153,1,none⟩=some (.string a0_1):=(blk_cell BK153.out 1).trans rfl;have hcz14_2 : w13.cell? ⟨gb153,2,none⟩=some (.int .i64 a0_2):=(blk_cell BK153.out 2).trans rfl;have hcz14_3 : w13.cell? ⟨gb153,3,none⟩=some (.string a0_3):=(blk_cell BK153.out 3).trans rfl;have hfz14_0:=blk_frozen BK153.out 0;have hfz14_1:=blk_frozen BK153.out 1;have hfz14_2:=blk_frozen BK153.out 2;have hfz14_3:=blk_frozen BK153.out 3) | (go_at_call 147;(with_reducible refine (glob_Match.calls k a0_3 a3 t155 _ A12.out).mono ?_);rintro e w15 ⟨rfl,hb⟩;have n0_:=Aside0.mk (blk_below (g:=gb153) (o:=.cells #[.bool a0_0,.string a0_1,.int .i64 a0_2,.string a0_3] 145 (0,0)) q47_ hb);have n1_:=Aside0.mk (below_step q10_ hb);clear BK153;clear HB;have BK153:=n0_;have HB:=n1_;clear n0_ n1_;(try clear hb);(try clear hb2);(try clear hk);(try clear hi)))
    go_ret
    exact ⟨q3_,q10_⟩
   ·rw [if_neg c11] at H
    have c11b0 : (a0_2 == 0)=false:=beq_eq_false_iff_ne.mpr c11
    have c11b1 : (a0_2 != 0)=true:=bne_iff_ne.mpr c11
    obtain rfl:=Option.some.inj H
    go_enter Tryz.func113,Tryz.ntmps113
    go_wp2_with (first | ((with_reducible refine gate_dst (N:=4) rfl ?_);refine box_event ?hg (N:=4) ?hd (cs:=#[.bool a0_0,.string a0_1,.int .i64 a0_2,.string a0_3]) (t:=145) ?hr ?_;(case hd=>rfl);(case hg=>rfl);(case hr=>first | (go_simp;done) | (go_simp;rfl));intro gb153 hg w16 hbox hb;have n0_:=Aside0.mk (below_step q1_ hb);have n1_:=Aside0.mk (hbox);have n2_:=Aside0.mk ((by rw [hg];exact (below_size q1_) : w.heap.size ≤ gb153));have n3_:=Aside0.mk ((by rw [hg];exact (below_size q1_) : w.heap.size ≤ gb153));clear HB;have HB:=n0_;have BK153:=n1_;have GW153:=n2_;have GE153:=n3_;clear n0_ n1_ n2_ n3_;clear hb hbox hg;have hcz17_0 : w16.cell? ⟨gb153,0,none⟩=some (.bool a0_0):=(blk_cell BK153.out 0).trans rfl;have hcz17_1 : w16.cell? ⟨gb153,1,none⟩=some (.string a0_1):=(blk_cell BK153.out 1).trans rfl;have hcz17_2 : w16.cell? ⟨gb153,2,none⟩=some (.int .i64 a0_2):=(blk_cell BK153.out 2).trans rfl;have hcz17_3 : w16.cell? ⟨gb153,3,none⟩=some (.string a0_3):=(blk_cell BK153.out 3).trans rfl;have hfz17_0:=blk_frozen BK153.out 0;have hfz17_1:=blk_frozen BK153.out 1;have hfz17_2:=blk_frozen BK153.out 2;have hfz17_3:=blk_frozen BK153.out 3))
    go_ret
    exact ⟨q3_,q10_⟩
 ·rw [if_neg c5] at H
  have c5b0 : (a0_1.toList == a1.toList)=false:=beq_eq_false_iff_ne.mpr c5
  have c5b1 : (a0_1.toList != a1.toList)=true:=bne_iff_ne.mpr c5
  by_cases c18 : a0_1.toList=([42] : List UInt8)
  ·rw [if_pos c18] at H
   have c18b0 : (a0_1.toList == ([42] : List UInt8))=true:=beq_iff_eq.mpr c18
   have c18b1 : (a0_1.toList != ([42] : List UInt8))=false:=bne_eq_false_iff_eq.mpr c18
   clear c18
   by_cases c19 : a0_2=a2
   ·rw [if_pos c19] at H
    have c19b0 : (a0_2 == a2)=true:=beq_iff_eq.mpr c19
    have c19b1 : (a0_2 != a2)=false:=bne_eq_false_iff_eq.mpr c19
    clear c19
    replace H:=Option.bind_eq_some_iff.mp H
    obtain ⟨t156,A200,H⟩:=H
    replace H : (some t156)=some r:=H
    have A20:=Aside0.mk A200
    clear A200
    obtain rfl:=Option.some.inj H
    go_enter Tryz.func113,Tryz.ntmps113
    go_wp2_with (first | ((with_reducible refine gate_dst (N:=4) rfl ?_);refine box_event ?hg (N:=4) ?hd (cs:=#[.bool a0_0,.string a0_1,.int .i64 a0_2,.string a0_3]) (t:=145) ?hr ?_;(case hd=>rfl);(case hg=>rfl);(case hr=>first | (go_simp;done) | (go_simp;rfl));intro gb153 hg w21 hbox hb;have n0_:=Aside0.mk (below_step q1_ hb);have n1_:=Aside0.mk (hbox);have n2_:=Aside0.mk ((by rw [hg];exact (below_size q1_) : w.heap.size ≤ gb153));have n3_:=Aside0.mk ((by rw [hg];exact (below_size q1_) : w.heap.size ≤ gb153));clear HB;have HB:=n0_;have BK153:=n1_;have GW153:=n2_;have GE153:=n3_;clear n0_ n1_ n2_ n3_;clear hb hbox hg;have hcz22_0 : w21.cell? ⟨gb153,0,none⟩=some (.bool a0_0):=(blk_cell BK153.out 0).trans rfl;have hcz22_1 : w21.cell? ⟨gb153,1,none⟩=some (.string a0_1):=(blk_cell BK153.out 1).trans rfl;have hcz22_2 : w21.cell? ⟨gb153,2,none⟩=some (.int .i64 a0_2):=(blk_cell BK153.out 2).trans rfl;have hcz22_3 : w21.cell? ⟨gb153,3,none⟩=some (.string a0_3):=(blk_cell BK153.out 3).trans rfl;have hfz22_0:=blk_frozen BK153.out 0;have hfz22_1:=blk_frozen BK153.out 1;have hfz22_2:=blk_frozen BK153.out 2;have hfz22_3:=blk_frozen BK153.out 3) | (go_at_call 147;(with_reducible refine (glob_Match.calls k a0_3 a3 t156 _ A20.out).mono ?_);rintro e w23 ⟨rfl,hb⟩;have n0_:=Aside0.mk (blk_below (g:=gb153) (o:=.cells #[.bool a0_0,.string a0_1,.int .i64 a0_2,.string a0_3] 145 (0,0)) q47_ hb);have n1_:=Aside0.mk (below_step q10_ hb);clear BK153;clear HB;have BK153:=n0_;have HB:=n1_;clear n0_ n1_;(try clear hb);(try clear hb2);(try clear hk);(try clear hi)))
    go_ret
    exact ⟨q3_,q10_⟩
   ·rw [if_neg c19] at H
    have c19b0 : (a0_2 == a2)=false:=beq_eq_false_iff_ne.mpr c19
    have c19b1 : (a0_2 != a2)=true:=bne_iff_ne.mpr c19
    by_cases c24 : a0_2=0
    ·rw [if_pos c24] at H
     have c24b0 : (a0_2 == 0)=true:=beq_iff_eq.mpr c24
     have c24b1 : (a0_2 != 0)=false:=bne_eq_false_iff_eq.mpr c24
     clear c24
     replace H:=Option.bind_eq_some_iff.mp H
     obtain ⟨t157,A250,H⟩:=H
     replace H : (some t157)=some r:=H
     have A25:=Aside0.mk A250
     clear A250
     obtain rfl:=Option.some.inj H
     go_enter Tryz.func113,Tryz.ntmps113
     go_wp2_with (first | ((with_reducible refine gate_dst (N:=4) rfl ?_);refine box_event ?hg (N:=4) ?hd (cs:=#[.bool a0_0,.string a0_1,.int .i64 a0_2,.string a0_3]) (t:=145) ?hr ?_;(case hd=>rfl);(case hg=>rfl);(case hr=>first | (go_simp;done) | (go_simp;rfl));intro gb153 hg w26 hbox hb;have n0_:=Aside0.mk (below_step q1_ hb);have n1_:=Aside0.mk (hbox);have n2_:=Aside0.mk ((by rw [hg];exact (below_size q1_) : w.heap.size ≤ gb153));have n3_:=Aside0.mk ((by rw [hg];exact (below_size q1_) : w.heap.size ≤ gb153));clear HB;have HB:=n0_;have BK153:=n1_;have GW153:=n2_;have GE153:=n3_;clear n0_ n1_ n2_ n3_;clear hb hbox hg;have hcz27_0 : w26.cell? ⟨gb153,0,none⟩=some (.bool a0_0):=(blk_cell BK153.out 0).trans rfl;have hcz27_1 : w26.cell? ⟨gb153,1,none⟩=some (.string a0_1):=(blk_cell BK153.out 1).trans rfl;have hcz27_2 : w26.cell? ⟨gb153,2,none⟩=some (.int .i64 a0_2):=(blk_cell BK153.out 2).trans rfl;have hcz27_3 : w26.cell? ⟨gb153,3,none⟩=some (.string a0_3):=(blk_cell BK153.out 3).trans rfl;have hfz27_0:=blk_frozen BK153.out 0;have hfz27_1:=blk_frozen BK153.out 1;have hfz27_2:=blk_frozen BK153.out 2;have hfz27_3:=blk_frozen BK153.out 3) | (go_at_call 147;(with_reducible refine (glob_Match.calls k a0_3 a3 t157 _ A25.out).mono ?_);rintro e w28 ⟨rfl,hb⟩;have n0_:=Aside0.mk (blk_below (g:=gb153) (o:=.cells #[.bool a0_0,.string a0_1,.int .i64 a0_2,.string a0_3] 145 (0,0)) q47_ hb);have n1_:=Aside0.mk (below_step q10_ hb);clear BK153;clear HB;have BK153:=n0_;have HB:=n1_;clear n0_ n1_;(try clear hb);(try clear hb2);(try clear hk);(try clear hi)))
     go_ret
     exact ⟨q3_,q10_⟩
    ·rw [if_neg c24] at H
     have c24b0 : (a0_2 == 0)=false:=beq_eq_false_iff_ne.mpr c24
     have c24b1 : (a0_2 != 0)=true:=bne_iff_ne.mpr c24
     obtain rfl:=Option.some.inj H
     go_enter Tryz.func113,Tryz.ntmps113
     go_wp2_with (first | ((with_reducible refine gate_dst (N:=4) rfl ?_);refine box_event ?hg (N:=4) ?hd (cs:=#[.bool a0_0,.string a0_1,.int .i64 a0_2,.string a0_3]) (t:=145) ?hr ?_;(case hd=>rfl);(case hg=>rfl);(case hr=>first | (go_simp;done) | (go_simp;rfl));intro gb153 hg w29 hbox hb;have n0_:=Aside0.mk (below_step q1_ hb);have n1_:=Aside0.mk (hbox);have n2_:=Aside0.mk ((by rw [hg];exact (below_size q1_) : w.heap.size ≤ gb153));have n3_:=Aside0.mk ((by rw [hg];exact (below_size q1_) : w.heap.size ≤ gb153));clear HB;have HB:=n0_;have BK153:=n1_;have GW153:=n2_;have GE153:=n3_;clear n0_ n1_ n2_ n3_;clear hb hbox hg;have hcz30_0 : w29.cell? ⟨gb153,0,none⟩=some (.bool a0_0):=(blk_cell BK153.out 0).trans rfl;have hcz30_1 : w29.cell? ⟨gb153,1,none⟩=some (.string a0_1):=(blk_cell BK153.out 1).trans rfl;have hcz30_2 : w29.cell? ⟨gb153,2,none⟩=some (.int .i64 a0_2):=(blk_cell BK153.out 2).trans rfl;have hcz30_3 : w29.cell? ⟨gb153,3,none⟩=some (.string a0_3):=(blk_cell BK153.out 3).trans rfl;have hfz30_0:=blk_frozen BK153.out 0;have hfz30_1:=blk_frozen BK153.out 1;have hfz30_2:=blk_frozen BK153.out 2;have hfz30_3:=blk_frozen BK153.out 3))
     go_ret
     exact ⟨q3_,q10_⟩
  ·rw [if_neg c18] at H
   have c18b0 : (a0_1.toList == ([42] : List UInt8))=false:=beq_eq_false_iff_ne.mpr c18
   have c18b1 : (a0_1.toList != ([42] : List UInt8))=true:=bne_iff_ne.mpr c18
   obtain rfl:=Option.some.inj H
   go_enter Tryz.func113,Tryz.ntmps113
   go_wp2_with (first | ((with_reducible refine gate_dst (N:=4) rfl ?_);refine box_event ?hg (N:=4) ?hd (cs:=#[.bool a0_0,.string a0_1,.int .i64 a0_2,.string a0_3]) (t:=145) ?hr ?_;(case hd=>rfl);(case hg=>rfl);(case hr=>first | (go_simp;done) | (go_simp;rfl));intro gb153 hg w31 hbox hb;have n0_:=Aside0.mk (below_step q1_ hb);have n1_:=Aside0.mk (hbox);have n2_:=Aside0.mk ((by rw [hg];exact (below_size q1_) : w.heap.size ≤ gb153));have n3_:=Aside0.mk ((by rw [hg];exact (below_size q1_) : w.heap.size ≤ gb153));clear HB;have HB:=n0_;have BK153:=n1_;have GW153:=n2_;have GE153:=n3_;clear n0_ n1_ n2_ n3_;clear hb hbox hg;have hcz32_0 : w31.cell? ⟨gb153,0,none⟩=some (.bool a0_0):=(blk_cell BK153.out 0).trans rfl;have hcz32_1 : w31.cell? ⟨gb153,1,none⟩=some (.string a0_1):=(blk_cell BK153.out 1).trans rfl;have hcz32_2 : w31.cell? ⟨gb153,2,none⟩=some (.int .i64 a0_2):=(blk_cell BK153.out 2).trans rfl;have hcz32_3 : w31.cell? ⟨gb153,3,none⟩=some (.string a0_3):=(blk_cell BK153.out 3).trans rfl;have hfz32_0:=blk_frozen BK153.out 0;have hfz32_1:=blk_frozen BK153.out 1;have hfz32_2:=blk_frozen BK153.out 2;have hfz32_3:=blk_frozen BK153.out 3))
   go_ret
   exact ⟨q3_,q10_⟩
/-! ### acl_Decide: function 82 -/
def acl_Decide.l0 : Nat→ByteArray→Int→ByteArray→List (S145)→Int→Int→Option (Bool × Int)
 | 0,_,_,_,_,_,_=>none
 | k + 1,x1,x2,x3,x12,x13,x14=>if x14 < x13 then (if 0 ≤ x14 then (if x14 < (x12.length : Int) then ((acl_Fits.f k ((rd_T145 x12 x14).f0) ((rd_T145 x12 x14).f1) ((rd_T145 x12 x14).f2) ((rd_T145 x12 x14).f3) x1 x2 x3).bind fun t160=>(if t160=true then (some ((rd_T145 x12 x14).f0,x14)) else (acl_Decide.l0 k x1 x2 x3 x12 x13 (wrap64 (x14 + 1))))) else (none)) else (none)) else (some (false,(-1)))
def acl_Decide.f (k : Nat) (l0 : List (S145)) (a1 : ByteArray) (a2 : Int) (a3 : ByteArray) : Option (Bool × Int):=acl_Decide.l0 k a1 a2 a3 l0 (l0.length : Int) 0
theorem acl_Decide.calls (k : Nat) (A0 : Option Addr) (c0 : Nat) (l0 : List (S145)) (a1 : ByteArray) (a2 : Int) (a3 : ByteArray) (r1 : Bool) (r2 : Int) (w : World) (hr0 : Kd.C k145 w A0 l0.length l0) (hc0 : l0.length ≤ c0) (h : acl_Decide.f k l0 a1 a2 a3=some (r1,r2)) :
  Calls Tryz.prog 82 #[.slice A0 l0.length c0,.string a1,.int .i64 a2,.string a3] w fun e w'=>e=.returned (.tuple #[.bool r1,.int .i64 r2])∧Below w.heap.size w w':=by
 have hu145:=Tryz.underlying145
 have HR0:=Aside0.mk hr0
 have HC0:=Aside0.mk hc0
 clear hr0 hc0
 have HB:=Aside0.mk (Below.refl w.heap.size w)
 have H : (acl_Decide.l0 k a1 a2 a3 l0 (l0.length : Int) 0)=some (r1,r2):=h
 clear h
 have H':=Aside0.mk H
 clear H
 go_enter Tryz.func82,Tryz.ntmps82
 go_wp2
 go_loopg [14] k (fun kq v14 w'=>∃ (x14_1 : Int),v14=.int .i64 x14_1∧Aside0 (acl_Decide.l0 kq a1 a2 a3 l0 (l0.length : Int) x14_1=some (r1,r2))∧Aside0 (kq ≤ k)∧Aside0 (Below w.heap.size w w'))
 case atStart=>exact ⟨(0),q6_,H',⟨Nat.le_refl _⟩,⟨q1_⟩⟩
 case round=>
  clear H'
  try clear p2
  obtain ⟨x14_1,rfl,HA,HK1,HB⟩:=hrel
  cases gk with
  | zero=>exact absurd HA.out (by simp [acl_Decide.l0])
  | succ k1=>
   have H:=HA.out
   clear HA
   simp only [acl_Decide.l0] at H
   by_cases c5 : x14_1 < (l0.length : Int)
   ·rw [if_pos c5] at H
    have c5b0 : decide (x14_1 < (l0.length : Int))=true:=decide_eq_true c5
    clear c5
    by_cases c6 : 0 ≤ x14_1
    ·rw [if_pos c6] at H
     have c6b0 : decide (0 ≤ x14_1)=true:=decide_eq_true c6
     clear c6
     by_cases c7 : x14_1 < (l0.length : Int)
     ·rw [if_pos c7] at H
      have c7b0 : decide (x14_1 < (l0.length : Int))=true:=decide_eq_true c7
      clear c7
      replace H:=Option.bind_eq_some_iff.mp H
      obtain ⟨t160,A80,H⟩:=H
      replace H : (if t160=true then (some ((rd_T145 l0 x14_1).f0,x14_1)) else (acl_Decide.l0 k1 a1 a2 a3 l0 (l0.length : Int) (wrap64 (x14_1 + 1))))=some (r1,r2):=H
      have A8:=Aside0.mk A80
      clear A80
      by_cases c9 : t160=true
      ·subst c9
       have H1 : (some ((rd_T145 l0 x14_1).f0,x14_1))=some (r1,r2):=q44_
       clear H
       have H:=H1
       clear H1
       simp only [Option.some.injEq,Prod.mk.injEq] at H
       obtain ⟨rfl,rfl⟩:=H
       have p158 : 0 ≤ (x14_1 : Int):=of_decide_eq_true q5_
       have q158 : x14_1 < (l0.length : Int):=of_decide_eq_true q5_
       obtain ⟨ad158,e158,hx158_0,hx158_1,hx158_2,hx158_3⟩:=at_T145 HR0.out x14_1 p158 q158
       cases e158
       replace hx158_0:=(HB.out.cell (World.block_lt_of_cell? w _ hx158_0)).trans hx158_0
       replace hx158_1:=(HB.out.cell (World.block_lt_of_cell? w _ hx158_1)).trans hx158_1
       replace hx158_2:=(HB.out.cell (World.block_lt_of_cell? w _ hx158_2)).trans hx158_2
       replace hx158_3:=(HB.out.cell (World.block_lt_of_cell? w _ hx158_3)).trans hx158_3
       replace p158:=eq_true p158
       replace q158:=eq_true q158
       go_wp2_with (first | ((with_reducible refine gate_dst (N:=11) rfl ?_);refine box_event ?hg (N:=11) ?hd (cs:=#[.bool false,.string (⟨#[]⟩ : ByteArray),.int .i64 0,.string (⟨#[]⟩ : ByteArray)]) (t:=145) ?hr ?_;(case hd=>rfl);(case hg=>rfl);(case hr=>first | (go_simp;done) | (go_simp;rfl));intro gb159 hg w10 hbox hb;have n0_:=Aside0.mk (below_step q1_ hb);have n1_:=Aside0.mk (hbox);have n2_:=Aside0.mk ((by rw [hg];exact (below_size q1_) : w.heap.size ≤ gb159));have n3_:=Aside0.mk ((by rw [hg];exact (below_size q1_) : w.heap.size ≤ gb159));clear HB;have HB:=n0_;have BK159:=n1_;have GW159:=n2_;have GE159:=n3_;clear n0_ n1_ n2_ n3_;clear hb hbox hg;have hcz11_0 : w10.cell? ⟨gb159,0,none⟩=some (.bool false):=(blk_cell BK159.out 0).trans rfl;have hcz11_1 : w10.cell? ⟨gb159,1,none⟩=some (.string (⟨#[]⟩ : ByteArray)):=(blk_cell BK159.out 1).trans rfl;have hcz11_2 : w10.cell? ⟨gb159,2,none⟩=some (.int .i64 0):=(blk_cell BK159.out 2).trans rfl;have hcz11_3 : w10.cell? ⟨gb159,3,none⟩=some (.string (⟨#[]⟩ : ByteArray)):=(blk_cell BK159.out 3).trans rfl;have hfz11_0:=blk_frozen BK159.out 0;have hfz11_1:=blk_frozen BK159.out 1;have hfz11_2:=blk_frozen BK159.out 2;have hfz11_3:=blk_frozen BK159.out 3) | ((with_reducible refine gate_callee (f:=113) rfl ?_);refine goesL_ (some 23) rfl rfl Tryz.func113 (by kernel_rfl) rfl #[.agg #[.bool ((rd_T145 l0 x14_1).f0),.string ((rd_T145 l0 x14_1).f1),.int .i64 ((rd_T145 l0 x14_1).f2),.string ((rd_T145 l0 x14_1).f3)],.string a1,.int .i64 a2,.string a3] rfl q7_ ?_;(with_reducible refine (acl_Fits.calls k1 ((rd_T145 l0 x14_1).f0) ((rd_T145 l0 x14_1).f1) ((rd_T145 l0 x14_1).f2) ((rd_T145 l0 x14_1).f3) a1 a2 a3 true _ A8.out).mono ?_);rintro e w12 ⟨rfl,hb⟩;refine ⟨_,rfl,?_⟩;have n0_:=Aside0.mk (blk_below (g:=gb159) (o:=.cells #[.bool ((rd_T145 l0 x14_1).f0),.string ((rd_T145 l0 x14_1).f1),.int .i64 ((rd_T145 l0 x14_1).f2),.string ((rd_T145 l0 x14_1).f3)] 145 (0,0)) (by (with_reducible repeat (first | refine blk_drewN ?_ _ | refine blk_drew ?_ | refine blk_alloc ?_ _));refine blk_put (cs:=#[.bool ((rd_T145 l0 x14_1).f0),.string ((rd_T145 l0 x14_1).f1),.int .i64 ((rd_T145 l0 x14_1).f2),.string (⟨#[]⟩ : ByteArray)]) ?_ 3 _ rfl;(with_reducible repeat (first | refine blk_drewN ?_ _ | refine blk_drew ?_ | refine blk_alloc ?_ _));refine blk_put (cs:=#[.bool ((rd_T145 l0 x14_1).f0),.string ((rd_T145 l0 x14_1).f1),.int .i64 0,.string (⟨#[]⟩ : ByteArray)]) ?_ 2 _ rfl;(with_reducible repeat (first | refine blk_drewN ?_ _ | refine blk_drew ?_ | refine blk_alloc ?_ _));refine blk_put (cs:=#[.bool ((rd_T145 l0 x14_1).f0),.string (⟨#[]⟩ : ByteArray),.int .i64 0,.string (⟨#[]⟩ : ByteArray)]) ?_ 1 _ rfl;(with_reducible repeat (first | refine blk_drewN ?_ _ | refine blk_drew ?_ | refine blk_alloc ?_ _));refine blk_put (cs:=#[.bool false,.string (⟨#[]⟩ : ByteArray),.int .i64 0,.string (⟨#[]⟩ : ByteArray)]) ?_ 0 _ rfl;(with_reducible repeat (first | refine blk_drewN ?_ _ | refine blk_drew ?_ | refine blk_alloc ?_ _));exact BK159.out) hb);have n1_:=Aside0.mk (below_step q40_ hb);clear BK159;clear HB;have BK159:=n0_;have HB:=n1_;clear n0_ n1_;(try clear hb);(try clear hb2);(try clear hk);(try clear hi);have hcz13_0 : w12.cell? ⟨gb159,0,none⟩=some (.bool ((rd_T145 l0 x14_1).f0)):=(blk_cell BK159.out 0).trans rfl;have hcz13_1 : w12.cell? ⟨gb159,1,none⟩=some (.string ((rd_T145 l0 x14_1).f1)):=(blk_cell BK159.out 1).trans rfl;have hcz13_2 : w12.cell? ⟨gb159,2,none⟩=some (.int .i64 ((rd_T145 l0 x14_1).f2)):=(blk_cell BK159.out 2).trans rfl;have hcz13_3 : w12.cell? ⟨gb159,3,none⟩=some (.string ((rd_T145 l0 x14_1).f3)):=(blk_cell BK159.out 3).trans rfl;have hfz13_0:=blk_frozen BK159.out 0;have hfz13_1:=blk_frozen BK159.out 1;have hfz13_2:=blk_frozen BK159.out 2;have hfz13_3:=blk_frozen BK159.out 3))
       go_ret2
       exact ⟨q3_,q40_⟩
      ·replace c9:=Bool.eq_false_iff.mpr c9
       subst c9
       have H1 : (acl_Decide.l0 k1 a1 a2 a3 l0 (l0.length : Int) (wrap64 (x14_1 + 1)))=some (r1,r2):=q20_
       clear H
       have H:=H1
       clear H1
       have H':=Aside0.mk H
       clear H
       have p158 : 0 ≤ (x14_1 : Int):=of_decide_eq_true q5_
       have q158 : x14_1 < (l0.length : Int):=of_decide_eq_true q5_
       obtain ⟨ad158,e158,hx158_0,hx158_1,hx158_2,hx158_3⟩:=at_T145 HR0.out x14_1 p158 q158
       cases e158
       replace hx158_0:=(HB.out.cell (World.block_lt_of_cell? w _ hx158_0)).trans hx158_0
       replace hx158_1:=(HB.out.cell (World.block_lt_of_cell? w _ hx158_1)).trans hx158_1
       replace hx158_2:=(HB.out.cell (World.block_lt_of_cell? w _ hx158_2)).trans hx158_2
       replace hx158_3:=(HB.out.cell (World.block_lt_of_cell? w _ hx158_3)).trans hx158_3
       replace p158:=eq_true p158
       replace q158:=eq_true q158
       go_wp2_with (first | ((with_reducible refine gate_dst (N:=11) rfl ?_);refine box_event ?hg (N:=11) ?hd (cs:=#[.bool false,.string (⟨#[]⟩ : ByteArray),.int .i64 0,.string (⟨#[]⟩ : ByteArray)]) (t:=145) ?hr ?_;(case hd=>rfl);(case hg=>rfl);(case hr=>first | (go_simp;done) | (go_simp;rfl));intro gb159 hg w14 hbox hb;have n0_:=Aside0.mk (below_step q1_ hb);have n1_:=Aside0.mk (hbox);have n2_:=Aside0.mk ((by rw [hg];exact (below_size q1_) : w.heap.size ≤ gb159));have n3_:=Aside0.mk ((by rw [hg];exact (below_size q1_) : w.heap.size ≤ gb159));clear HB;have HB:=n0_;have BK159:=n1_;have GW159:=n2_;have GE159:=n3_;clear n0_ n1_ n2_ n3_;clear hb hbox hg;have hcz15_0 : w14.cell? ⟨gb159,0,none⟩=some (.bool false):=(blk_cell BK159.out 0).trans rfl;have hcz15_1 : w14.cell? ⟨gb159,1,none⟩=some (.string (⟨#[]⟩ : ByteArray)):=(blk_cell BK159.out 1).trans rfl;have hcz15_2 : w14.cell? ⟨gb159,2,none⟩=some (.int .i64 0):=(blk_cell BK159.out 2).trans rfl;have hcz15_3 : w14.cell? ⟨gb159,3,none⟩=some (.string (⟨#[]⟩ : ByteArray)):=(blk_cell BK159.out 3).trans rfl;have hfz15_0:=blk_frozen BK159.out 0;have hfz15_1:=blk_frozen BK159.out 1;have hfz15_2:=blk_frozen BK159.out 2;have hfz15_3:=blk_frozen BK159.out 3) | ((with_reducible refine gate_callee (f:=113) rfl ?_);refine goesL_ (some 23) rfl rfl Tryz.func113 (by kernel_rfl) rfl #[.agg #[.bool ((rd_T145 l0 x14_1).f0),.string ((rd_T145 l0 x14_1).f1),.int .i64 ((rd_T145 l0 x14_1).f2),.string ((rd_T145 l0 x14_1).f3)],.string a1,.int .i64 a2,.string a3] rfl q7_ ?_;(with_reducible refine (acl_Fits.calls k1 ((rd_T145 l0 x14_1).f0) ((rd_T145 l0 x14_1).f1) ((rd_T145 l0 x14_1).f2) ((rd_T145 l0 x14_1).f3) a1 a2 a3 false _ A8.out).mono ?_);rintro e w16 ⟨rfl,hb⟩;refine ⟨_,rfl,?_⟩;have n0_:=Aside0.mk (blk_below (g:=gb159) (o:=.cells #[.bool ((rd_T145 l0 x14_1).f0),.string ((rd_T145 l0 x14_1).f1),.int .i64 ((rd_T145 l0 x14_1).f2),.string ((rd_T145 l0 x14_1).f3)] 145 (0,0)) (by (with_reducible repeat (first | refine blk_drewN ?_ _ | refine blk_drew ?_ | refine blk_alloc ?_ _));refine blk_put (cs:=#[.bool ((rd_T145 l0 x14_1).f0),.string ((rd_T145 l0 x14_1).f1),.int .i64 ((rd_T145 l0 x14_1).f2),.string (⟨#[]⟩ : ByteArray)]) ?_ 3 _ rfl;(with_reducible repeat (first | refine blk_drewN ?_ _ | refine blk_drew ?_ | refine blk_alloc ?_ _));refine blk_put (cs:=#[.bool ((rd_T145 l0 x14_1).f0),.string ((rd_T145 l0 x14_1).f1),.int .i64 0,.string (⟨#[]⟩ : ByteArray)]) ?_ 2 _ rfl;(with_reducible repeat (first | refine blk_drewN ?_ _ | refine blk_drew ?_ | refine blk_alloc ?_ _));refine blk_put (cs:=#[.bool ((rd_T145 l0 x14_1).f0),.string (⟨#[]⟩ : ByteArray),.int .i64 0,.string (⟨#[]⟩ : ByteArray)]) ?_ 1 _ rfl;(with_reducible repeat (first | refine blk_drewN ?_ _ | refine blk_drew ?_ | refine blk_alloc ?_ _));refine blk_put (cs:=#[.bool false,.string (⟨#[]⟩ : ByteArray),.int .i64 0,.string (⟨#[]⟩ : ByteArray)]) ?_ 0 _ rfl;(with_reducible repeat (first | refine blk_drewN ?_ _ | refine blk_drew ?_ | refine blk_alloc ?_ _));exact BK159.out) hb);have n1_:=Aside0.mk (below_step q40_ hb);clear BK159;clear HB;have BK159:=n0_;have HB:=n1_;clear n0_ n1_;(try clear hb);(try clear hb2);(try clear hk);(try clear hi)))
       go_roundg k1
       case measure=>have:=HK1.out;omega
       case rel=>exact ⟨(wrap64 (x14_1 + 1)),q6_,H',⟨by have:=HK1.out;omega⟩,⟨q40_⟩⟩
     ·rw [if_neg c7] at H
      exact absurd H (by simp)
    ·rw [if_neg c6] at H
     exact absurd H (by simp)
   ·rw [if_neg c5] at H
    have c5b0 : decide (x14_1 < (l0.length : Int))=false:=decide_eq_false c5
    clear c5
    simp only [Option.some.injEq,Prod.mk.injEq] at H
    obtain ⟨rfl,rfl⟩:=H
    go_wp2
    go_ret2
    exact ⟨q3_,q1_⟩
end Go.Proofs.YtkekohmkaefdnaaGreatDoor.Pa
namespace Go.Proofs.YtkekohmkaefdnaaGreatDoor.Pa
open Go.RowKit Go.Proofs.YtkekohmkaefdnaaGreatDoorW.PrintWords Go.Proofs.YtkekohmkaefdnaaGreatDoorW.PrintLast Go.Proofs.YtkekohmkaefdnaaGreatDoorW.PrintMore
attribute [local go_sem] max2_int min2_int max_two min_two max_three min_three max_four min_four
end Go.Proofs.YtkekohmkaefdnaaGreatDoor.Pa
namespace Go.Proofs.YtkekohmkaefdnaaGreatDoor
open Go.RowKit Go.Proofs.YtkekohmkaefdnaaGreatDoorW.PrintWords Go.Proofs.YtkekohmkaefdnaaGreatDoorW.PrintLast
def userB (u : ByteArray) : Bool:=u.data.toList.all fun b=>decide (33 ≤ b.toNat) && decide (b.toNat ≤ 126)
def acl_Right.f (k : Nat) (b : Bool) (u : ByteArray) (c : Int) (p : ByteArray) : Option Bool:=
 if u.size < 1 ∨ 20 < u.size ∨ p=⟨#[]⟩ then some false
 else (strings_ContainsAny.f p ⟨#[32,10]⟩).bind fun t=>if t=true then some false else if userB u=true then (if 0 ≤ c∧c ≤ 3 then Pa.glob_Right.f k p else some false) else some false
theorem getD_at (l : List UInt8) {j : Nat} (h : j < l.length) : l.getD j 0=l[j]:=by
 rw [List.getD_eq_getElem?_getD,List.getElem?_eq_getElem h]
 rfl
theorem ba_ne {p : ByteArray} (h : ¬ p=⟨#[]⟩) : p.toList.isEmpty=false:=by
 rw [Lib.toList_data]
 cases e : p.data.toList with
 | nil=>exact absurd (ba_of e) h
 | cons x l=>rfl
theorem userB_all {u : ByteArray} (h : userB u=true) (j : Nat) (hj : j < u.size) : 33 ≤ (u.data.toList.getD j 0).toNat∧(u.data.toList.getD j 0).toNat ≤ 126:=by
 have hl : j < u.data.toList.length:=by rw [← Lib.size_eq];exact hj
 have:=List.all_eq_true.1 h _ (List.getElem_mem hl)
 simp only [Bool.and_eq_true,decide_eq_true_eq] at this
 rw [getD_at _ hl]
 exact this
theorem userB_not {u : ByteArray} (h : userB u=false) : ∃ j,j < u.size∧¬ (33 ≤ (u.data.toList.getD j 0).toNat∧(u.data.toList.getD j 0).toNat ≤ 126):=by
 have h' : ¬ userB u=true:=by rw [h];decide
 apply Classical.byContradiction
 intro hn
 apply h'
 refine List.all_eq_true.2 fun x hx=>?_
 obtain ⟨j,hj,rfl⟩:=List.getElem_of_mem hx
 have : j < u.size:=by rw [Lib.size_eq];exact hj
 have h2:=Classical.not_not.1 fun h3=>hn ⟨j,this,h3⟩
 have h4 : u.data.toList.getD j 0=u.data.toList[j]:=getD_at _ hj
 rw [h4] at h2
 simp only [Bool.and_eq_true,decide_eq_true_eq]
 exact h2
theorem right_early (b : Bool) (u : ByteArray) (c : Int) (p : ByteArray) (w : World) (h : u.size < 1 ∨ 20 < u.size ∨ p=⟨#[]⟩) :
  Calls Tryz.prog 111 #[.agg #[.bool b,.string u,.int .i64 c,.string p]] w fun e w'=>e=.returned (.bool false)∧Below w.heap.size w w':=by
 have hb:=(Below.refl w.heap.size w).alloc (Nat.le_refl _) (.cells #[.bool b,.string u,.int .i64 c,.string p] 145)
 have HB:=Lib.hid hb
 clear hb
 by_cases h1 : u.size < 1
 ·clear h
  go_enter Tryz.func111,Tryz.ntmps111
  go_wp2
  go_ret
  exact ⟨rfl,HB.out⟩
 ·by_cases h2 : 20 < u.size
  ·clear h
   go_enter Tryz.func111,Tryz.ntmps111
   go_wp2
   go_ret
   exact ⟨rfl,HB.out⟩
  ·obtain rfl : p=⟨#[]⟩:=by
                  rcases h with h | h | h
                  ·exact absurd h h1
                  ·exact absurd h h2
                  ·exact h
   clear h
   go_enter Tryz.func111,Tryz.ntmps111
   go_wp2
   go_ret
   exact ⟨rfl,HB.out⟩
theorem right_has (b : Bool) (u : ByteArray) (c : Int) (p : ByteArray) (w : World) (h : ¬ (u.size < 1 ∨ 20 < u.size ∨ p=⟨#[]⟩)) (hca : strings_ContainsAny.f p ⟨#[32,10]⟩=some true) :
  Calls Tryz.prog 111 #[.agg #[.bool b,.string u,.int .i64 c,.string p]] w fun e w'=>e=.returned (.bool false)∧Below w.heap.size w w':=by
 have h1 : ¬ u.size < 1:=fun x=>h (.inl x)
 have h2 : ¬ 20 < u.size:=fun x=>h (.inr (.inl x))
 have h3:=ba_ne fun x=>h (.inr (.inr x))
 have h4 : decide ((u.size : Int) < 1)=false:=decide_eq_false (by omega)
 have h5 : decide ((20 : Int) < (u.size : Int))=false:=decide_eq_false (by omega)
 clear h
 have HB:=Lib.hid ((Below.refl w.heap.size w).alloc (Nat.le_refl _) (.cells #[.bool b,.string u,.int .i64 c,.string p] 145))
 go_enter Tryz.func111,Tryz.ntmps111
 go_wp2_with (go_at_call 143;refine (strings_ContainsAny.calls p ⟨#[32,10]⟩ true _ hca).mono ?_;rintro e w' ⟨rfl,hb⟩;have HB2:=Lib.hid (below_step HB.out hb);clear hb)
 go_ret
 exact ⟨rfl,HB2.out⟩
theorem right_rest (k : Nat) (b : Bool) (u : ByteArray) (c : Int) (p : ByteArray) (r : Bool) (w : World) (h : ¬ (u.size < 1 ∨ 20 < u.size ∨ p=⟨#[]⟩)) (hca : strings_ContainsAny.f p ⟨#[32,10]⟩=some false)
  (hr : (if userB u=true then (if 0 ≤ c∧c ≤ 3 then Pa.glob_Right.f k p else some false) else some false)=some r) :
  Calls Tryz.prog 111 #[.agg #[.bool b,.string u,.int .i64 c,.string p]] w fun e w'=>e=.returned (.bool r)∧Below w.heap.size w w':=by
 have h1 : ¬ u.size < 1:=fun x=>h (.inl x)
 have h2 : ¬ 20 < u.size:=fun x=>h (.inr (.inl x))
 have h3:=ba_ne fun x=>h (.inr (.inr x))
 have h4 : decide ((u.size : Int) < 1)=false:=decide_eq_false (by omega)
 have h5 : decide ((20 : Int) < (u.size : Int))=false:=decide_eq_false (by omega)
 clear h
 have HB:=Lib.hid ((Below.refl w.heap.size w).alloc (Nat.le_refl _) (.cells #[.bool b,.string u,.int .i64 c,.string p] 145))
 have HR:=Lib.hid hr
 clear hr
 have hg0 : (w.alloc (.cells #[.bool b,.string u,.int .i64 c,.string p] 145)).heap[w.heap.size]? = some (.cells #[.bool b,.string u,.int .i64 c,.string p] 145 (0,0)):=heap_alloc_new w _
 have HG0:=Lib.hid hg0
 clear hg0
 go_enter Tryz.func111,Tryz.ntmps111
 go_wp2_with (go_at_call 143;refine (strings_ContainsAny.calls p ⟨#[32,10]⟩ false _ hca).mono ?_;rintro e w1 ⟨rfl,hb⟩;have HB2:=Lib.hid (below_step HB.out hb);have HG2:=Lib.hid (blk_below HG0.out hb);clear hb;have d1 : w1.cell? ⟨w.heap.size,1,none⟩=some (.string u):=(blk_cell HG2.out 1).trans rfl)
 have hcv:=Lib.run_convert_string_bytes (P:=Tryz.prog) w1 9 150 5 u Tryz.underlying9 Tryz.underlying150 Tryz.underlying5
 have hcell : Hid (∀ j,j < u.size→(Lib.bytesWorld w1 5 u).cell? ⟨w1.heap.size,j,none⟩=some (.int .u8 (u.data.toList.getD j 0).toNat)):=Lib.hid (Lib.bytesWorld_cell w1 5 u)
 have hbb : Below w1.heap.size w1 (Lib.bytesWorld w1 5 u):=⟨rfl,rfl,rfl,by rw [Lib.bytesWorld_size];omega,fun k hk=>Lib.bytesWorld_at_old w1 _ u k hk⟩
 have HB3:=Lib.hid (below_step HB2.out hbb)
 have HG3:=Lib.hid (blk_below HG2.out hbb)
 clear hbb
 generalize Lib.bytesWorld w1 5 u=W at hcv hcell HB3 HG3
 generalize grownCap w1 u.size 0 5=cp at hcv
 go_wp2
 rw [hcv]
 go_wp2
 clear hcv d1
 have d2 : W.cell? ⟨w.heap.size,2,none⟩=some (.int .i64 c):=(blk_cell HG3.out 2).trans rfl
 have d3 : W.cell? ⟨w.heap.size,3,none⟩=some (.string p):=(blk_cell HG3.out 3).trans rfl
 go_loop [29] (fun i=>∃ j : Nat,j ≤ u.size∧i=.int .i64 j∧∀ q,q < j→(33 ≤ (u.data.toList.getD q 0).toNat∧(u.data.toList.getD q 0).toNat ≤ 126)) (fun i=>u.size - (intOf i).toNat)
 case atStart=>exact ⟨0,Nat.zero_le _,rfl,fun q hq=>absurd hq (Nat.not_lt_zero q)⟩
 case round=>
  obtain ⟨j,hj,rfl,hall⟩:=hrel
  have HA:=Lib.hid hall
  clear hall
  by_cases hlt : j < u.size
  ·have hc:=hcell.out j hlt
   obtain ⟨x,hx⟩ : ∃ x,x=u.data.toList.getD j 0:=⟨_,rfl⟩
   rw [← hx] at hc
   have hx256:=x.toNat_lt
   by_cases hok : 33 ≤ x.toNat∧x.toNat ≤ 126
   ·have hq : Hid (∀ q,q < j + 1→(33 ≤ (u.data.toList.getD q 0).toNat∧(u.data.toList.getD q 0).toNat ≤ 126)):=Lib.hid fun q hq=>by
     by_cases e : q=j
     ·rw [e,← hx];exact hok
     ·exact HA.out q (by omega)
    obtain ⟨hok1,hok2⟩:=hok
    clear hx
    go_wp2
    go_round
    case rel=>exact ⟨j + 1,by omega,by go_num,hq.out⟩
    case measure=>simp [intOf];omega
   ·have hno : userB u=false:=by
     cases e : userB u with
     | false=>rfl
     | true=>exact absurd (hx ▸ userB_all e j hlt) hok
    have hr:=HR.out
    rw [hno] at hr
    have hr' : r=false:=(Option.some.inj hr).symm
    subst hr'
    clear hr HR hx
    by_cases hk1 : 33 ≤ x.toNat
    ·have hk2 : ¬ x.toNat ≤ 126:=fun y=>hok ⟨hk1,y⟩
     clear hok
     go_wp2
     go_ret
     exact ⟨rfl,HB3.out⟩
    ·clear hok
     go_wp2
     go_ret
     exact ⟨rfl,HB3.out⟩
  ·obtain rfl : j=u.size:=by omega
   have hyes : userB u=true:=by
    cases e : userB u with
    | true=>rfl
    | false=>
     obtain ⟨q,hq,hn⟩:=userB_not e
     exact absurd (HA.out q hq) hn
   have hr:=HR.out
   rw [hyes,if_pos rfl] at hr
   clear HR
   by_cases hc0 : 0 ≤ c
   ·by_cases hc3 : c ≤ 3
    ·rw [if_pos ⟨hc0,hc3⟩] at hr
     go_wp2_with (go_at_call 144;refine (Pa.glob_Right.calls k p r _ hr).mono ?_;rintro e w2 ⟨rfl,hb⟩;have HB4:=Lib.hid (below_step HB3.out hb);clear hb)
     go_ret
     exact ⟨rfl,HB4.out⟩
    ·rw [if_neg (fun y=>hc3 y.2)] at hr
     have hr' : r=false:=(Option.some.inj hr).symm
     subst hr'
     clear hr
     go_wp2
     go_ret
     exact ⟨rfl,HB3.out⟩
   ·rw [if_neg (fun y=>hc0 y.1)] at hr
    have hr' : r=false:=(Option.some.inj hr).symm
    subst hr'
    clear hr
    go_wp2
    go_ret
    exact ⟨rfl,HB3.out⟩
theorem acl_Right.calls (k : Nat) (a0_0 : Bool) (a0_1 : ByteArray) (a0_2 : Int) (a0_3 : ByteArray) (r : Bool) (w : World) (h : acl_Right.f k a0_0 a0_1 a0_2 a0_3=some r) :
  Calls Tryz.prog 111 #[.agg #[.bool a0_0,.string a0_1,.int .i64 a0_2,.string a0_3]] w fun e w'=>e=.returned (.bool r)∧Below w.heap.size w w':=by
 unfold acl_Right.f at h
 by_cases he : a0_1.size < 1 ∨ 20 < a0_1.size ∨ a0_3=⟨#[]⟩
 ·rw [if_pos he] at h
  obtain rfl:=Option.some.inj h
  exact right_early a0_0 a0_1 a0_2 a0_3 w he
 ·rw [if_neg he] at h
  obtain ⟨t,ht,h⟩:=Option.bind_eq_some_iff.1 h
  cases t with
  | true=>
   rw [if_pos rfl] at h
   obtain rfl:=Option.some.inj h
   exact right_has a0_0 a0_1 a0_2 a0_3 w he ht
  | false=>
   rw [if_neg (by decide)] at h
   exact right_rest k a0_0 a0_1 a0_2 a0_3 r w he ht h
end Go.Proofs.YtkekohmkaefdnaaGreatDoor
