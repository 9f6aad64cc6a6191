
import Derived.Test.YtkekohmkaefdnaaGreatDoorPb0
import Derived.Test.YtkekohmkaefdnaaGreatDoorPb1
namespace Go.Proofs.YtkekohmkaefdnaaGreatDoor.Pb
open Go.Proofs.YtkekohmkaefdnaaGreatDoor.Pa
open Go.RowKit Go.Proofs.YtkekohmkaefdnaaGreatDoorW.PrintWords Go.Proofs.YtkekohmkaefdnaaGreatDoorW.PrintLast Go.Proofs.YtkekohmkaefdnaaGreatDoorW.PrintMore
attribute [local go_sem] max2_int min2_int max_two min_two max_three min_three max_four min_four
set_option linter.unusedVariables false
set_option linter.unusedSimpArgs false
/-! ### hello_GetHello: function 194 -/
def hello_GetHello.j0 : Nat→ByteArray→Bool→Option (ByteArray × ByteArray × Bool)
 | 0,_,_=>none
 | k + 1,x0,x25=>if x25=true then (some ((⟨#[]⟩ : ByteArray),(⟨#[]⟩ : ByteArray),false)) else (if 1 < (x0.size : Int) then (if 2 ≤ (wrap64 (2 + (wrap64 (bt x0 1)))) then (if (wrap64 (2 + (wrap64 (bt x0 1)))) ≤ (x0.size : Int) then ((strings_Clone.f (x0.extract 2 ((wrap64 (2 + (wrap64 (bt x0 1)))) : Int).toNat)).bind fun t136=>(if 0 ≤ (wrap64 (2 + (wrap64 (bt x0 1)))) then ((strings_Clone.f (x0.extract ((wrap64 (2 + (wrap64 (bt x0 1)))) : Int).toNat x0.size)).bind fun t137=>((hello_PutHello.f t136 t137).bind fun bt139=>(if bt139.2=true then (some (t136,t137,true)) else (some ((⟨#[]⟩ : ByteArray),(⟨#[]⟩ : ByteArray),false))))) else (none))) else (none)) else (none)) else (none))
def hello_GetHello.f (k : Nat) (a0 : ByteArray) : Option (ByteArray × ByteArray × Bool):=(hello_Kind.f a0).bind fun t135=>(if t135=1 then (if (a0.size : Int) < 2 then (hello_GetHello.j0 k a0 true) else (if 1 < (a0.size : Int) then (hello_GetHello.j0 k a0 ((a0.size : Int) != (wrap64 ((wrap64 (2 + (wrap64 (bt a0 1)))) + 16)))) else (none))) else (hello_GetHello.j0 k a0 true))
def hello_GetHello.T4 : Bool × List (List Nat × List Nat):=(true,[([],[]),([],[]),([0,1],[0,1]),([2],[2]),([],[]),([],[]),([4,5],[4,5]),([6,3],[6]),([3,7],[3,7]),([],[]),([9,8,7,0,1,2,3,4,5,6,7,8,9],[8,9])])
def hello_GetHello.B4 : List Nat:=[0,0,3,7,0,0,48,127,255,0,1023]
theorem hello_GetHello.tab4 : rtab .any (opsOf Tryz.f194 4)=hello_GetHello.T4:=by kernel_rfl
theorem hello_GetHello.bits4 : waitsOk hello_GetHello.T4.2 hello_GetHello.B4=true:=by kernel_rfl
set_option maxHeartbeats 8000000 in
set_option maxRecDepth 100000 in
theorem hello_GetHello.calls (k : Nat) (a0 : ByteArray) (r1 : ByteArray) (r2 : ByteArray) (r3 : Bool) (w : World) (h : hello_GetHello.f k a0=some (r1,r2,r3)) :
  Calls Tryz.prog 194 #[.string a0] w fun e w'=>e=.returned (.tuple #[.agg #[.string r1,.string r2],.bool r3])∧Below w.heap.size w w':=by
 have hu75:=Tryz.underlying75
 have HB:=Aside0.mk (Below.refl w.heap.size w)
 have H : ((hello_Kind.f a0).bind fun t135=>(if t135=1 then (if (a0.size : Int) < 2 then (hello_GetHello.j0 k a0 true) else (if 1 < (a0.size : Int) then (hello_GetHello.j0 k a0 ((a0.size : Int) != (wrap64 ((wrap64 (2 + (wrap64 (bt a0 1)))) + 16)))) else (none))) else (hello_GetHello.j0 k a0 true)))=some (r1,r2,r3):=h
 clear h
 have HC2:=Aside0.mk H
 clear H
 go_enter Tryz.func194,Tryz.ntmps194
 go_upto_region 1 with (first | ((with_reducible refine gate_dst (N:=2) rfl ?_);(try (refine gate_guard (by rfl) ?_;dsimp only));refine box_event ?hg (N:=2) ?hd (cs:=#[.string (⟨#[]⟩ : ByteArray),.string (⟨#[]⟩ : ByteArray)]) (t:=75) ?hr ?_;(case hd=>rfl);(case hg=>rfl);(case hr=>first | (go_simp;done) | (go_simp;rfl));intro gb134 hg w3 hbox hb;have n0_:=Aside0.mk (below_step q1_ hb);have n1_:=Aside0.mk (hbox);have n2_:=Aside0.mk ((by rw [hg];exact (below_size q1_) : w.heap.size ≤ gb134));have n3_:=Aside0.mk ((by rw [hg];exact (below_size q1_) : w.heap.size ≤ gb134));clear HB;have HB:=n0_;have BK134:=n1_;have GW134:=n2_;have GE134:=n3_;clear n0_ n1_ n2_ n3_;clear hb hbox hg))
 (try simp only [Act.put,List.setIfInBounds_toArray,List.set_cons_zero,List.set_cons_succ])
 go_cut [25] (fun v25 wc=>∃ (kq : Nat) (x25_1 : Bool),v25=.bool x25_1∧Aside0 (hello_GetHello.j0 kq a0 x25_1=some (r1,r2,r3))∧Aside0 (kq ≤ k)∧Aside0 (wc.heap[gb134]? = some (.cells #[.string (⟨#[]⟩ : ByteArray),.string (⟨#[]⟩ : ByteArray)] 75 (0,0)))∧Aside0 (Below w.heap.size w wc))
 case first=>
  have H:=HC2.out
  clear HC2
  replace H:=Option.bind_eq_some_iff.mp H
  obtain ⟨t135,A40,H⟩:=H
  replace H : (if t135=1 then (if (a0.size : Int) < 2 then (hello_GetHello.j0 k a0 true) else (if 1 < (a0.size : Int) then (hello_GetHello.j0 k a0 ((a0.size : Int) != (wrap64 ((wrap64 (2 + (wrap64 (bt a0 1)))) + 16)))) else (none))) else (hello_GetHello.j0 k a0 true))=some (r1,r2,r3):=H
  have A4:=Aside0.mk A40
  clear A40
  by_cases c5 : t135=1
  ·rw [if_pos c5] at H
   have c5b0 : (t135 == 1)=true:=beq_iff_eq.mpr c5
   have c5b1 : (t135 != 1)=false:=bne_eq_false_iff_eq.mpr c5
   clear c5
   (first | rw [c5b0] | (simp only [i64_w,i32_w];rw [c5b0]) | skip)
   by_cases c6 : (a0.size : Int) < 2
   ·rw [if_pos c6] at H
    have c6b0 : decide ((a0.size : Int) < 2)=true:=decide_eq_true c6
    have c6b1 : decide (a0.size < 2)=true:=decide_eq_true (by omega)
    clear c6
    have H':=Aside0.mk H
    clear H
    go_wp2_with (first | ((with_reducible refine gate_callee (f:=249) rfl ?_);refine goesL_ (some 9) rfl rfl Tryz.func249 (by kernel_rfl) rfl #[.string a0] rfl q7_ ?_;(with_reducible refine (hello_Kind.calls a0 t135 _ A4.out).mono ?_);rintro e w' ⟨rfl,⟨nd,rfl⟩⟩;refine ⟨_,rfl,?_⟩))
    go_meet
    case rel=>exact ⟨_,(true),q6_,H',⟨q45_⟩,⟨q2_⟩,⟨q4_⟩⟩
   ·rw [if_neg c6] at H
    have c6b0 : decide ((a0.size : Int) < 2)=false:=decide_eq_false c6
    have c6b1 : decide (a0.size < 2)=false:=decide_eq_false (by omega)
    clear c6
    by_cases c7 : 1 < (a0.size : Int)
    ·rw [if_pos c7] at H
     have c7b0 : decide (1 < (a0.size : Int))=true:=decide_eq_true c7
     have c7b1 : decide (1 < a0.size)=true:=decide_eq_true (by omega)
     clear c7
     have H':=Aside0.mk H
     clear H
     go_wp2_with (first | ((with_reducible refine gate_callee (f:=249) rfl ?_);refine goesL_ (some 9) rfl rfl Tryz.func249 (by kernel_rfl) rfl #[.string a0] rfl q7_ ?_;(with_reducible refine (hello_Kind.calls a0 t135 _ A4.out).mono ?_);rintro e w' ⟨rfl,⟨nd,rfl⟩⟩;refine ⟨_,rfl,?_⟩;have p8 : 0 ≤ (1 : Int):=(by omega);have q8 : 1 < a0.size:=(by have : (1 : Int) < (a0.size : Int):=of_decide_eq_true q5_;omega);have hx8 : ∀ h : 1 < a0.size,((a0[1]'h).toNat : Int)=bt a0 1:=bt_at a0 1;clear p8;have qi8 : (1 < (a0.size : Int))=True:=eq_true (of_decide_eq_true q5_);replace q8:=eq_true q8))
     go_meet
     case rel=>exact ⟨_,(((a0.size : Int) != (wrap64 ((wrap64 (2 + (wrap64 (bt a0 1)))) + 16)))),q6_,H',⟨q45_⟩,⟨q2_⟩,⟨q4_⟩⟩
    ·rw [if_neg c7] at H
     exact absurd H (by simp)
  ·rw [if_neg c5] at H
   have c5b0 : (t135 == 1)=false:=beq_eq_false_iff_ne.mpr c5
   have c5b1 : (t135 != 1)=true:=bne_iff_ne.mpr c5
   (first | rw [c5b0] | (simp only [i64_w,i32_w];rw [c5b0]) | skip)
   have H':=Aside0.mk H
   clear H
   go_wp2_with (first | ((with_reducible refine gate_callee (f:=249) rfl ?_);refine goesL_ (some 9) rfl rfl Tryz.func249 (by kernel_rfl) rfl #[.string a0] rfl q7_ ?_;(with_reducible refine (hello_Kind.calls a0 t135 _ A4.out).mono ?_);rintro e w' ⟨rfl,⟨nd,rfl⟩⟩;refine ⟨_,rfl,?_⟩))
   go_meet
   case rel=>exact ⟨_,(true),q6_,H',⟨q45_⟩,⟨q2_⟩,⟨q4_⟩⟩
 case rest=>
  clear HC2
  try clear c1
  try clear c2
  try clear p2
  try clear c5
  try clear c5b0
  try clear c5b1
  try clear c6
  try clear c6b0
  try clear c6b1
  try clear p6
  try clear c7
  try clear c7b0
  try clear c7b1
  try clear p8
  try clear q8
  try clear hx8
  try clear qi8
  try clear p8
  try clear q8
  obtain ⟨kq,x25_1,rfl,HA,HJ1,BK134,HB⟩:=hcut
  cases kq with
  | zero=>exact absurd HA.out (by simp [hello_GetHello.j0])
  | succ kj1=>
   have H:=HA.out
   clear HA
   simp only [hello_GetHello.j0] at H
   by_cases c9 : x25_1=true
   ·subst c9
    have H1 : (some ((⟨#[]⟩ : ByteArray),(⟨#[]⟩ : ByteArray),false))=some (r1,r2,r3):=q44_
    clear H
    have H:=H1
    clear H1
    simp only [Option.some.injEq,Prod.mk.injEq] at H
    obtain ⟨rfl,rfl,rfl⟩:=H
    have hcz10_0 : wc.cell? ⟨gb134,0,none⟩=some (.string (⟨#[]⟩ : ByteArray)):=(blk_cell BK134.out 0).trans rfl
    have hcz10_1 : wc.cell? ⟨gb134,1,none⟩=some (.string (⟨#[]⟩ : ByteArray)):=(blk_cell BK134.out 1).trans rfl
    have hfz10_0:=blk_frozen BK134.out 0
    have hfz10_1:=blk_frozen BK134.out 1
    go_wp2
    refine bodyPost_ret (results_ct rfl _ _ gb134 75 #[.string (⟨#[]⟩ : ByteArray),.string (⟨#[]⟩ : ByteArray)] (0,0) _ rfl (by (with_reducible repeat (first | refine blk_drewN ?_ _ | refine blk_drew ?_ | refine blk_alloc ?_ _));refine blk_put (cs:=#[.string (⟨#[]⟩ : ByteArray),.string (⟨#[]⟩ : ByteArray)]) ?_ 1 _ rfl;(with_reducible repeat (first | refine blk_drewN ?_ _ | refine blk_drew ?_ | refine blk_alloc ?_ _));refine blk_put (cs:=#[.string (⟨#[]⟩ : ByteArray),.string (⟨#[]⟩ : ByteArray)]) ?_ 0 _ rfl;(with_reducible repeat (first | refine blk_drewN ?_ _ | refine blk_drew ?_ | refine blk_alloc ?_ _));exact BK134.out) Tryz.underlying75 rfl (by kernel_rfl)) rfl ?_
    exact ⟨q3_,q4_⟩
   ·replace c9:=Bool.eq_false_iff.mpr c9
    subst c9
    have H1 : (if 1 < (a0.size : Int) then (if 2 ≤ (wrap64 (2 + (wrap64 (bt a0 1)))) then (if (wrap64 (2 + (wrap64 (bt a0 1)))) ≤ (a0.size : Int) then ((strings_Clone.f (a0.extract 2 ((wrap64 (2 + (wrap64 (bt a0 1)))) : Int).toNat)).bind fun t136=>(if 0 ≤ (wrap64 (2 + (wrap64 (bt a0 1)))) then ((strings_Clone.f (a0.extract ((wrap64 (2 + (wrap64 (bt a0 1)))) : Int).toNat a0.size)).bind fun t137=>((hello_PutHello.f t136 t137).bind fun bt139=>(if bt139.2=true then (some (t136,t137,true)) else (some ((⟨#[]⟩ : ByteArray),(⟨#[]⟩ : ByteArray),false))))) else (none))) else (none)) else (none)) else (none))=some (r1,r2,r3):=q20_
    clear H
    have H:=H1
    clear H1
    by_cases c11 : 1 < (a0.size : Int)
    ·rw [if_pos c11] at H
     have c11b0 : decide (1 < (a0.size : Int))=true:=decide_eq_true c11
     have c11b1 : decide (1 < a0.size)=true:=decide_eq_true (by omega)
     clear c11
     by_cases c13 : 2 ≤ (wrap64 (2 + (wrap64 (bt a0 1))))
     ·rw [if_pos c13] at H
      have c13b0:=eq_true c13
      have c13b1 : decide (2 ≤ (wrap64 (2 + (wrap64 (bt a0 1)))))=true:=decide_eq_true c13
      by_cases c14 : (wrap64 (2 + (wrap64 (bt a0 1)))) ≤ (a0.size : Int)
      ·rw [if_pos c14] at H
       have c14b0:=eq_true c14
       have c14b1 : decide ((wrap64 (2 + (wrap64 (bt a0 1)))) ≤ (a0.size : Int))=true:=decide_eq_true c14
       replace H:=Option.bind_eq_some_iff.mp H
       obtain ⟨t136,A150,H⟩:=H
       replace H : (if 0 ≤ (wrap64 (2 + (wrap64 (bt a0 1)))) then ((strings_Clone.f (a0.extract ((wrap64 (2 + (wrap64 (bt a0 1)))) : Int).toNat a0.size)).bind fun t137=>((hello_PutHello.f t136 t137).bind fun bt139=>(if bt139.2=true then (some (t136,t137,true)) else (some ((⟨#[]⟩ : ByteArray),(⟨#[]⟩ : ByteArray),false))))) else (none))=some (r1,r2,r3):=H
       have A15:=Aside0.mk A150
       clear A150
       obtain ⟨ji16,hji16⟩ : ∃ j_ : Int,(wrap64 (2 + (wrap64 (bt a0 1))))=j_:=⟨_,rfl⟩
       replace H : (if 0 ≤ (ji16) then ((strings_Clone.f (a0.extract ((ji16) : Int).toNat a0.size)).bind fun t137=>((hello_PutHello.f t136 t137).bind fun bt139=>(if bt139.2=true then (some (t136,t137,true)) else (some ((⟨#[]⟩ : ByteArray),(⟨#[]⟩ : ByteArray),false))))) else (none))=some (r1,r2,r3):=by first | (rw [hji16] at H;exact H) | (simp only [hji16] at H ⊢;exact H)
       (try rw [hji16] at c13b0)
       (try rw [hji16] at c13b1)
       (try rw [hji16] at c13)
       (try rw [hji16] at c14b0)
       (try rw [hji16] at c14b1)
       (try rw [hji16] at c14)
       (try rw [hji16] at A15)
       have hji16w : (IntKind.i64.wrap (2 + (wrap64 (bt a0 1))))=ji16:=(i64_w _).trans hji16
       by_cases c17 : 0 ≤ (ji16)
       ·rw [if_pos c17] at H
        have c17b0:=eq_true c17
        have c17b1 : decide (0 ≤ (ji16))=true:=decide_eq_true c17
        clear c17
        have c18b0:=eq_true (of_decide_eq_true q5_ : (ji16) ≤ (a0.size : Int))
        replace H:=Option.bind_eq_some_iff.mp H
        obtain ⟨t137,A190,H⟩:=H
        replace H : ((hello_PutHello.f t136 t137).bind fun bt139=>(if bt139.2=true then (some (t136,t137,true)) else (some ((⟨#[]⟩ : ByteArray),(⟨#[]⟩ : ByteArray),false))))=some (r1,r2,r3):=H
        have A19:=Aside0.mk A190
        clear A190
        replace H:=Option.bind_eq_some_iff.mp H
        obtain ⟨⟨t139,t140⟩,A200,H⟩:=H
        replace H : (if t140=true then (some (t136,t137,true)) else (some ((⟨#[]⟩ : ByteArray),(⟨#[]⟩ : ByteArray),false)))=some (r1,r2,r3):=H
        have A20:=Aside0.mk A200
        clear A200
        by_cases c21 : t140=true
        ·subst c21
         have H1 : (some (t136,t137,true))=some (r1,r2,r3):=q44_
         clear H
         have H:=H1
         clear H1
         simp only [Option.some.injEq,Prod.mk.injEq] at H
         obtain ⟨rfl,rfl,rfl⟩:=H
         have p12 : 0 ≤ (1 : Int):=(by omega)
         have q12 : 1 < a0.size:=(by have : (1 : Int) < (a0.size : Int):=of_decide_eq_true q5_;omega)
         have hx12 : ∀ h : 1 < a0.size,((a0[1]'h).toNat : Int)=bt a0 1:=bt_at a0 1
         clear p12
         have qi12 : (1 < (a0.size : Int))=True:=eq_true (of_decide_eq_true q5_)
         replace q12:=eq_true q12
         try go_wp2
         have n0_:=Aside0.mk (blk_drew BK134.out)
         have n1_:=Aside0.mk (below_drew1 HB.out)
         clear BK134
         clear HB
         have BK134:=n0_
         have HB:=n1_
         clear n0_ n1_
         refine start_ (n:=11) (S:=fun w'=>True) (ds:=[]) _ (by kernel_rfl) rfl rfl trivial (fun hHeld=>?_);refine with_tabW hello_GetHello.tab4 hello_GetHello.bits4 (fun HT_ HW_=>?_)
         generalize wc.drew=w22 at BK134 HB hHeld ⊢
         refine pT_ 0 (some 31) ?_
         refine pT_ 1 (some 32) ?_
         refine pT_ 2 (some 33) ?_
         refine pT_ 4 (some 35) ?_
         refine pT_ 5 (some 36) ?_
         refine pT_ 6 (some 37) ?_
         refine join_ (σ:=Nat) 1 #[true,true,true,true,true,true,true,true,true,true,false] (fun s_=>[(34,.string t136),(38,.string t137),(5,.pointer (some ⟨s_,0,none⟩)),(39,.agg #[.string t136,.string t137])]) (fun s_ w'=>(w'.heap[gb134]? = some (.cells #[.string (⟨#[]⟩ : ByteArray),.string (⟨#[]⟩ : ByteArray)] 75 (0,0)))∧(w'.heap[s_]? = some (.cells #[.string (⟨#[]⟩ : ByteArray),.string (⟨#[]⟩ : ByteArray)] 75 (0,0)))∧(w.heap.size ≤ s_)∧(w.heap.size ≤ s_)∧(gb134 ≠ s_)∧(s_ ≠ gb134)∧(Below w.heap.size w w')) ?_ ?_
         rotate_left
         ·intro hCont
          refine two_ (i:=3) (j:=9) (Ni:=some 34) (Nj:=some 5) #[true,true,true,true,true,true,true,false,false,false,false] #[true,true,true,false,true,true,true,false,false,true,false] rfl rfl rfl rfl (two_of HT_.out (by kernel_rfl)) (by decide) (by decide) (fun K hK=>?_) (fun K hK=>?_)
          ·skip
           refine goes_ Tryz.func57 (by kernel_rfl) rfl #[.string (a0.extract 2 ((ji16) : Int).toNat)] (by rfl) rfl rfl q11_ ?_
           with_reducible refine (strings_Clone.calls (a0.extract 2 ((ji16) : Int).toNat) t136 _ A15.out).mono ?_
           rintro e w23 ⟨rfl,hb⟩
           refine ⟨_,rfl,?_⟩
           have n0_:=Aside0.mk (blk_below (g:=gb134) (o:=.cells #[.string (⟨#[]⟩ : ByteArray),.string (⟨#[]⟩ : ByteArray)] 75 (0,0)) q2_ hb)
           have n1_:=Aside0.mk (below_step q4_ hb)
           clear BK134
           clear HB
           have BK134:=n0_
           have HB:=n1_
           clear n0_ n1_
           (try clear hb)
           (try clear hb2)
           (try clear hk)
           (try clear hi)
           refine hK.out _ _ trivial (fun hHeld=>?_)
           clear hK K
           refine norm_ (a':=?_) ?_ ?_
           rotate_left
           ·show Act.put _ (some 34) _=_
            simp only [Act.put,List.setIfInBounds_toArray,List.set_cons_zero,List.set_cons_succ,i64_w,i32_w]
            rfl
           refine two_ (i:=7) (j:=9) (Ni:=some 38) (Nj:=some 5) #[true,true,true,true,true,true,true,true,false,false,false] #[true,true,true,true,true,true,true,false,false,true,false] rfl rfl rfl rfl (two_of HT_.out (by kernel_rfl)) (by decide) (by decide) (fun K hK=>?_) (fun K hK=>?_)
           ·skip
            refine goes_ Tryz.func57 (by kernel_rfl) rfl #[.string (a0.extract ((ji16) : Int).toNat a0.size)] (by rfl) rfl rfl q11_ ?_
            with_reducible refine (strings_Clone.calls (a0.extract ((ji16) : Int).toNat a0.size) t137 _ A19.out).mono ?_
            rintro e w24 ⟨rfl,hb⟩
            refine ⟨_,rfl,?_⟩
            have n0_:=Aside0.mk (blk_below (g:=gb134) (o:=.cells #[.string (⟨#[]⟩ : ByteArray),.string (⟨#[]⟩ : ByteArray)] 75 (0,0)) q2_ hb)
            have n1_:=Aside0.mk (below_step q4_ hb)
            clear BK134
            clear HB
            have BK134:=n0_
            have HB:=n1_
            clear n0_ n1_
            (try clear hb)
            (try clear hb2)
            (try clear hk)
            (try clear hi)
            refine hK.out _ _ trivial (fun hHeld=>?_)
            clear hK K
            refine norm_ (a':=?_) ?_ ?_
            rotate_left
            ·show Act.put _ (some 38) _=_
             simp only [Act.put,List.setIfInBounds_toArray,List.set_cons_zero,List.set_cons_succ,i64_w,i32_w]
             rfl
            refine pT_ 8 (some 39) ?_
            refine oT_ 9 (some 5) fun K hK=>?_
            refine box_step ?hg (N:=5) ?hd (cs:=#[.string (⟨#[]⟩ : ByteArray),.string (⟨#[]⟩ : ByteArray)]) (t:=75) ?hr ?_;(case hd=>rfl);(case hg=>rfl);(case hr=>first | (go_simp;done) | (go_simp;rfl))
            intro gb138 hg w25 hbox hb
            have n0_:=Aside0.mk (blk_below (g:=gb134) (o:=.cells #[.string (⟨#[]⟩ : ByteArray),.string (⟨#[]⟩ : ByteArray)] 75 (0,0)) q2_ hb)
            have n1_:=Aside0.mk (below_step q4_ hb)
            have n2_:=Aside0.mk (hbox)
            have n3_:=Aside0.mk ((by rw [hg];exact (below_size q4_) : w.heap.size ≤ gb138))
            have n4_:=Aside0.mk ((by rw [hg];exact (below_size q4_) : w.heap.size ≤ gb138))
            have n5_:=Aside0.mk ((by rw [hg];exact Nat.ne_of_lt (blk_lt (g:=gb134) (o:=.cells #[.string (⟨#[]⟩ : ByteArray),.string (⟨#[]⟩ : ByteArray)] 75 (0,0)) q2_) : gb134 ≠ gb138))
            have n6_:=Aside0.mk ((by rw [hg];exact Nat.ne_of_gt (blk_lt (g:=gb134) (o:=.cells #[.string (⟨#[]⟩ : ByteArray),.string (⟨#[]⟩ : ByteArray)] 75 (0,0)) q2_) : gb138 ≠ gb134))
            clear BK134
            clear HB
            have BK134:=n0_
            have HB:=n1_
            have BK138:=n2_
            have GW138:=n3_
            have GE138:=n4_
            have NB134_138:=n5_
            have NB138_134:=n6_
            clear n0_ n1_ n2_ n3_ n4_ n5_ n6_
            clear hb hbox hg
            refine hK.out _ _ trivial (fun hHeld=>?_)
            clear hK K
            refine norm_ (a':=?_) ?_ ?_
            rotate_left
            ·show Act.put _ (some 5) _=_
             simp only [Act.put,List.setIfInBounds_toArray,List.set_cons_zero,List.set_cons_succ,i64_w,i32_w]
             rfl
            exact norm_ q42_ (hCont (gb138) _ ⟨q2_,q15_,GW138.out,GE138.out,NB134_138.out,NB138_134.out,q8_⟩)
           ·skip
            refine box_step ?hg (N:=5) ?hd (cs:=#[.string (⟨#[]⟩ : ByteArray),.string (⟨#[]⟩ : ByteArray)]) (t:=75) ?hr ?_;(case hd=>rfl);(case hg=>rfl);(case hr=>first | (go_simp;done) | (go_simp;rfl))
            intro gb138 hg w24 hbox hb
            have n0_:=Aside0.mk (blk_below (g:=gb134) (o:=.cells #[.string (⟨#[]⟩ : ByteArray),.string (⟨#[]⟩ : ByteArray)] 75 (0,0)) q2_ hb)
            have n1_:=Aside0.mk (below_step q4_ hb)
            have n2_:=Aside0.mk (hbox)
            have n3_:=Aside0.mk ((by rw [hg];exact (below_size q4_) : w.heap.size ≤ gb138))
            have n4_:=Aside0.mk ((by rw [hg];exact (below_size q4_) : w.heap.size ≤ gb138))
            have n5_:=Aside0.mk ((by rw [hg];exact Nat.ne_of_lt (blk_lt (g:=gb134) (o:=.cells #[.string (⟨#[]⟩ : ByteArray),.string (⟨#[]⟩ : ByteArray)] 75 (0,0)) q2_) : gb134 ≠ gb138))
            have n6_:=Aside0.mk ((by rw [hg];exact Nat.ne_of_gt (blk_lt (g:=gb134) (o:=.cells #[.string (⟨#[]⟩ : ByteArray),.string (⟨#[]⟩ : ByteArray)] 75 (0,0)) q2_) : gb138 ≠ gb134))
            clear BK134
            clear HB
            have BK134:=n0_
            have HB:=n1_
            have BK138:=n2_
            have GW138:=n3_
            have GE138:=n4_
            have NB134_138:=n5_
            have NB138_134:=n6_
            clear n0_ n1_ n2_ n3_ n4_ n5_ n6_
            clear hb hbox hg
            refine hK.out _ _ trivial (fun hHeld=>?_)
            clear hK K
            refine norm_ (a':=?_) ?_ ?_
            rotate_left
            ·show Act.put _ (some 5) _=_
             simp only [Act.put,List.setIfInBounds_toArray,List.set_cons_zero,List.set_cons_succ,i64_w,i32_w]
             rfl
            refine oT_ 7 (some 38) fun K hK=>?_
            refine goes_ Tryz.func57 (by kernel_rfl) rfl #[.string (a0.extract ((ji16) : Int).toNat a0.size)] (by rfl) rfl rfl q11_ ?_
            with_reducible refine (strings_Clone.calls (a0.extract ((ji16) : Int).toNat a0.size) t137 _ A19.out).mono ?_
            rintro e w25 ⟨rfl,hb⟩
            refine ⟨_,rfl,?_⟩
            have n0_:=Aside0.mk (blk_below (g:=gb134) (o:=.cells #[.string (⟨#[]⟩ : ByteArray),.string (⟨#[]⟩ : ByteArray)] 75 (0,0)) q2_ hb)
            have n1_:=Aside0.mk (blk_below (g:=gb138) (o:=.cells #[.string (⟨#[]⟩ : ByteArray),.string (⟨#[]⟩ : ByteArray)] 75 (0,0)) q15_ hb)
            have n2_:=Aside0.mk (below_step q8_ hb)
            clear BK134
            clear BK138
            clear HB
            have BK134:=n0_
            have BK138:=n1_
            have HB:=n2_
            clear n0_ n1_ n2_
            (try clear hb)
            (try clear hb2)
            (try clear hk)
            (try clear hi)
            refine hK.out _ _ trivial (fun hHeld=>?_)
            clear hK K
            refine norm_ (a':=?_) ?_ ?_
            rotate_left
            ·show Act.put _ (some 38) _=_
             simp only [Act.put,List.setIfInBounds_toArray,List.set_cons_zero,List.set_cons_succ,i64_w,i32_w]
             rfl
            refine pT_ 8 (some 39) ?_
            exact norm_ q42_ (hCont (gb138) _ ⟨q2_,q15_,GW138.out,GE138.out,NB134_138.out,NB138_134.out,q8_⟩)
          ·skip
           refine box_step ?hg (N:=5) ?hd (cs:=#[.string (⟨#[]⟩ : ByteArray),.string (⟨#[]⟩ : ByteArray)]) (t:=75) ?hr ?_;(case hd=>rfl);(case hg=>rfl);(case hr=>first | (go_simp;done) | (go_simp;rfl))
           intro gb138 hg w23 hbox hb
           have n0_:=Aside0.mk (blk_below (g:=gb134) (o:=.cells #[.string (⟨#[]⟩ : ByteArray),.string (⟨#[]⟩ : ByteArray)] 75 (0,0)) q2_ hb)
           have n1_:=Aside0.mk (below_step q4_ hb)
           have n2_:=Aside0.mk (hbox)
           have n3_:=Aside0.mk ((by rw [hg];exact (below_size q4_) : w.heap.size ≤ gb138))
           have n4_:=Aside0.mk ((by rw [hg];exact (below_size q4_) : w.heap.size ≤ gb138))
           have n5_:=Aside0.mk ((by rw [hg];exact Nat.ne_of_lt (blk_lt (g:=gb134) (o:=.cells #[.string (⟨#[]⟩ : ByteArray),.string (⟨#[]⟩ : ByteArray)] 75 (0,0)) q2_) : gb134 ≠ gb138))
           have n6_:=Aside0.mk ((by rw [hg];exact Nat.ne_of_gt (blk_lt (g:=gb134) (o:=.cells #[.string (⟨#[]⟩ : ByteArray),.string (⟨#[]⟩ : ByteArray)] 75 (0,0)) q2_) : gb138 ≠ gb134))
           clear BK134
           clear HB
           have BK134:=n0_
           have HB:=n1_
           have BK138:=n2_
           have GW138:=n3_
           have GE138:=n4_
           have NB134_138:=n5_
           have NB138_134:=n6_
           clear n0_ n1_ n2_ n3_ n4_ n5_ n6_
           clear hb hbox hg
           refine hK.out _ _ trivial (fun hHeld=>?_)
           clear hK K
           refine norm_ (a':=?_) ?_ ?_
           rotate_left
           ·show Act.put _ (some 5) _=_
            simp only [Act.put,List.setIfInBounds_toArray,List.set_cons_zero,List.set_cons_succ,i64_w,i32_w]
            rfl
           refine oT_ 3 (some 34) fun K hK=>?_
           refine goes_ Tryz.func57 (by kernel_rfl) rfl #[.string (a0.extract 2 ((ji16) : Int).toNat)] (by rfl) rfl rfl q11_ ?_
           with_reducible refine (strings_Clone.calls (a0.extract 2 ((ji16) : Int).toNat) t136 _ A15.out).mono ?_
           rintro e w24 ⟨rfl,hb⟩
           refine ⟨_,rfl,?_⟩
           have n0_:=Aside0.mk (blk_below (g:=gb134) (o:=.cells #[.string (⟨#[]⟩ : ByteArray),.string (⟨#[]⟩ : ByteArray)] 75 (0,0)) q2_ hb)
           have n1_:=Aside0.mk (blk_below (g:=gb138) (o:=.cells #[.string (⟨#[]⟩ : ByteArray),.string (⟨#[]⟩ : ByteArray)] 75 (0,0)) q15_ hb)
           have n2_:=Aside0.mk (below_step q8_ hb)
           clear BK134
           clear BK138
           clear HB
           have BK134:=n0_
           have BK138:=n1_
           have HB:=n2_
           clear n0_ n1_ n2_
           (try clear hb)
           (try clear hb2)
           (try clear hk)
           (try clear hi)
           refine hK.out _ _ trivial (fun hHeld=>?_)
           clear hK K
           refine norm_ (a':=?_) ?_ ?_
           rotate_left
           ·show Act.put _ (some 34) _=_
            simp only [Act.put,List.setIfInBounds_toArray,List.set_cons_zero,List.set_cons_succ,i64_w,i32_w]
            rfl
           refine oT_ 7 (some 38) fun K hK=>?_
           refine goes_ Tryz.func57 (by kernel_rfl) rfl #[.string (a0.extract ((ji16) : Int).toNat a0.size)] (by rfl) rfl rfl q11_ ?_
           with_reducible refine (strings_Clone.calls (a0.extract ((ji16) : Int).toNat a0.size) t137 _ A19.out).mono ?_
           rintro e w25 ⟨rfl,hb⟩
           refine ⟨_,rfl,?_⟩
           have n0_:=Aside0.mk (blk_below (g:=gb134) (o:=.cells #[.string (⟨#[]⟩ : ByteArray),.string (⟨#[]⟩ : ByteArray)] 75 (0,0)) q2_ hb)
           have n1_:=Aside0.mk (blk_below (g:=gb138) (o:=.cells #[.string (⟨#[]⟩ : ByteArray),.string (⟨#[]⟩ : ByteArray)] 75 (0,0)) q15_ hb)
           have n2_:=Aside0.mk (below_step q8_ hb)
           clear BK134
           clear BK138
           clear HB
           have BK134:=n0_
           have BK138:=n1_
           have HB:=n2_
           clear n0_ n1_ n2_
           (try clear hb)
           (try clear hb2)
           (try clear hk)
           (try clear hi)
           refine hK.out _ _ trivial (fun hHeld=>?_)
           clear hK K
           refine norm_ (a':=?_) ?_ ?_
           rotate_left
           ·show Act.put _ (some 38) _=_
            simp only [Act.put,List.setIfInBounds_toArray,List.set_cons_zero,List.set_cons_succ,i64_w,i32_w]
            rfl
           refine pT_ 8 (some 39) ?_
           exact norm_ q42_ (hCont (gb138) _ ⟨q2_,q15_,GW138.out,GE138.out,NB134_138.out,NB138_134.out,q8_⟩)
         rintro gb138 w26 ⟨h0_,h1_,h2_,h3_,h4_,h5_,h6_⟩
         have n0_ : Aside0 (w26.heap[gb134]? = some (.cells #[.string (⟨#[]⟩ : ByteArray),.string (⟨#[]⟩ : ByteArray)] 75 (0,0))):=⟨h0_⟩
         have n1_ : Aside0 (w26.heap[gb138]? = some (.cells #[.string (⟨#[]⟩ : ByteArray),.string (⟨#[]⟩ : ByteArray)] 75 (0,0))):=⟨h1_⟩
         have n2_ : Aside0 (w.heap.size ≤ gb138):=⟨h2_⟩
         have n3_ : Aside0 (w.heap.size ≤ gb138):=⟨h3_⟩
         have n4_ : Aside0 (gb134 ≠ gb138):=⟨h4_⟩
         have n5_ : Aside0 (gb138 ≠ gb134):=⟨h5_⟩
         have n6_ : Aside0 (Below w.heap.size w w26):=⟨h6_⟩
         clear BK134
         clear HB
         clear h0_ h1_ h2_ h3_ h4_ h5_ h6_
         have BK134:=n0_
         have BK138:=n1_
         have GW138:=n2_
         have GE138:=n3_
         have NB134_138:=n4_
         have NB138_134:=n5_
         have HB:=n6_
         clear n0_ n1_ n2_ n3_ n4_ n5_ n6_
         have hHeld:=trivial
         refine norm_ (a':=?_) ?_ ?_
         rotate_left
         ·simp only [putAll,Act.put,List.setIfInBounds_toArray,List.set_cons_zero,List.set_cons_succ]
          rfl
         refine oT_ 10 none fun K hK=>?_
         have hs27 : w26.cell? ⟨gb138,0,none⟩=some (.string (⟨#[]⟩ : ByteArray)):=(blk_cell BK138.out 0).trans rfl
         have hfs27:=blk_frozen BK138.out 0
         have hns27_0:=NB134_138.out
         have hms27_0:=NB138_134.out
         have hs28 : w26.cell? ⟨gb138,1,none⟩=some (.string (⟨#[]⟩ : ByteArray)):=(blk_cell BK138.out 1).trans rfl
         have hfs28:=blk_frozen BK138.out 1
         have hns28_0:=NB134_138.out
         have hms28_0:=NB138_134.out
         refine skip_ (w1:=?_) (by rfl) rfl ?_ ?_
         rotate_left
         ·go_simp
          rfl
         refine hK.out _ _ trivial (fun hHeld=>?_)
         clear hK K
         refine done_ (done_of HT_.out (by kernel_rfl)) ?_
         have hnb29:=NB138_134.out
         have hnc29:=NB134_138.out
         have hcz30_0 : w26.cell? ⟨gb138,0,none⟩=some (.string (⟨#[]⟩ : ByteArray)):=(blk_cell BK138.out 0).trans rfl
         have hcz30_1 : w26.cell? ⟨gb138,1,none⟩=some (.string (⟨#[]⟩ : ByteArray)):=(blk_cell BK138.out 1).trans rfl
         have hfz30_0:=blk_frozen BK138.out 0
         have hfz30_1:=blk_frozen BK138.out 1
         try go_wp2_with (first | ((with_reducible refine gate_callee (f:=261) rfl ?_);refine goesL_ (some 42) rfl rfl Tryz.func261 (by kernel_rfl) rfl #[.agg #[.string t136,.string t137]] rfl q7_ ?_;(with_reducible refine (hello_PutHello.calls t136 t137 t139 true _ A20.out).mono ?_);rintro e w31 ⟨rfl,hb⟩;refine ⟨_,rfl,?_⟩;have n0_:=Aside0.mk (blk_below (g:=gb134) (o:=.cells #[.string (⟨#[]⟩ : ByteArray),.string (⟨#[]⟩ : ByteArray)] 75 (0,0)) (by (with_reducible repeat (first | refine blk_drewN ?_ _ | refine blk_drew ?_ | refine blk_alloc ?_ _));refine blk_far ?_ NB134_138.out _;(with_reducible repeat (first | refine blk_drewN ?_ _ | refine blk_drew ?_ | refine blk_alloc ?_ _));refine blk_far ?_ NB134_138.out _;(with_reducible repeat (first | refine blk_drewN ?_ _ | refine blk_drew ?_ | refine blk_alloc ?_ _));exact BK134.out) hb);have n1_:=Aside0.mk (blk_below (g:=gb138) (o:=.cells #[.string t136,.string t137] 75 (0,0)) (by (with_reducible repeat (first | refine blk_drewN ?_ _ | refine blk_drew ?_ | refine blk_alloc ?_ _));refine blk_put (cs:=#[.string t136,.string (⟨#[]⟩ : ByteArray)]) ?_ 1 _ rfl;(with_reducible repeat (first | refine blk_drewN ?_ _ | refine blk_drew ?_ | refine blk_alloc ?_ _));refine blk_put (cs:=#[.string (⟨#[]⟩ : ByteArray),.string (⟨#[]⟩ : ByteArray)]) ?_ 0 _ rfl;(with_reducible repeat (first | refine blk_drewN ?_ _ | refine blk_drew ?_ | refine blk_alloc ?_ _));exact BK138.out) hb);have n2_:=Aside0.mk (below_step q8_ hb);clear BK134;clear BK138;clear HB;have BK134:=n0_;have BK138:=n1_;have HB:=n2_;clear n0_ n1_ n2_;(try clear hb);(try clear hb2);(try clear hk);(try clear hi);have hcz32_0 : w31.cell? ⟨gb138,0,none⟩=some (.string t136):=(blk_cell BK138.out 0).trans rfl;have hcz32_1 : w31.cell? ⟨gb138,1,none⟩=some (.string t137):=(blk_cell BK138.out 1).trans rfl;have hfz32_0:=blk_frozen BK138.out 0;have hfz32_1:=blk_frozen BK138.out 1;have hcz33_0 : w31.cell? ⟨gb134,0,none⟩=some (.string (⟨#[]⟩ : ByteArray)):=(blk_cell BK134.out 0).trans rfl;have hcz33_1 : w31.cell? ⟨gb134,1,none⟩=some (.string (⟨#[]⟩ : ByteArray)):=(blk_cell BK134.out 1).trans rfl;have hfz33_0:=blk_frozen BK134.out 0;have hfz33_1:=blk_frozen BK134.out 1))
         refine bodyPost_ret (results_ct rfl _ _ gb134 75 #[.string t136,.string t137] (0,0) _ rfl (by (with_reducible repeat (first | refine blk_drewN ?_ _ | refine blk_drew ?_ | refine blk_alloc ?_ _));refine blk_put (cs:=#[.string t136,.string (⟨#[]⟩ : ByteArray)]) ?_ 1 _ rfl;(with_reducible repeat (first | refine blk_drewN ?_ _ | refine blk_drew ?_ | refine blk_alloc ?_ _));refine blk_put (cs:=#[.string (⟨#[]⟩ : ByteArray),.string (⟨#[]⟩ : ByteArray)]) ?_ 0 _ rfl;(with_reducible repeat (first | refine blk_drewN ?_ _ | refine blk_drew ?_ | refine blk_alloc ?_ _));exact BK134.out) Tryz.underlying75 rfl (by kernel_rfl)) rfl ?_
         exact ⟨by first | rfl | (simp [errW_none,errW_some] <;> rfl) | (simp only [← hji16];first | rfl | (simp [errW_none,errW_some] <;> rfl)) | (simp [*,errW_none,errW_some] <;> rfl),q8_⟩
        ·replace c21:=Bool.eq_false_iff.mpr c21
         subst c21
         have H1 : (some ((⟨#[]⟩ : ByteArray),(⟨#[]⟩ : ByteArray),false))=some (r1,r2,r3):=q20_
         clear H
         have H:=H1
         clear H1
         simp only [Option.some.injEq,Prod.mk.injEq] at H
         obtain ⟨rfl,rfl,rfl⟩:=H
         have p12 : 0 ≤ (1 : Int):=(by omega)
         have q12 : 1 < a0.size:=(by have : (1 : Int) < (a0.size : Int):=of_decide_eq_true q5_;omega)
         have hx12 : ∀ h : 1 < a0.size,((a0[1]'h).toNat : Int)=bt a0 1:=bt_at a0 1
         clear p12
         have qi12 : (1 < (a0.size : Int))=True:=eq_true (of_decide_eq_true q5_)
         replace q12:=eq_true q12
         try go_wp2
         have n0_:=Aside0.mk (blk_drew BK134.out)
         have n1_:=Aside0.mk (below_drew1 HB.out)
         clear BK134
         clear HB
         have BK134:=n0_
         have HB:=n1_
         clear n0_ n1_
         refine start_ (n:=11) (S:=fun w'=>True) (ds:=[]) _ (by kernel_rfl) rfl rfl trivial (fun hHeld=>?_);refine with_tabW hello_GetHello.tab4 hello_GetHello.bits4 (fun HT_ HW_=>?_)
         generalize wc.drew=w34 at BK134 HB hHeld ⊢
         refine pT_ 0 (some 31) ?_
         refine pT_ 1 (some 32) ?_
         refine pT_ 2 (some 33) ?_
         refine pT_ 4 (some 35) ?_
         refine pT_ 5 (some 36) ?_
         refine pT_ 6 (some 37) ?_
         refine join_ (σ:=Nat) 1 #[true,true,true,true,true,true,true,true,true,true,false] (fun s_=>[(34,.string t136),(38,.string t137),(5,.pointer (some ⟨s_,0,none⟩)),(39,.agg #[.string t136,.string t137])]) (fun s_ w'=>(w'.heap[gb134]? = some (.cells #[.string (⟨#[]⟩ : ByteArray),.string (⟨#[]⟩ : ByteArray)] 75 (0,0)))∧(w'.heap[s_]? = some (.cells #[.string (⟨#[]⟩ : ByteArray),.string (⟨#[]⟩ : ByteArray)] 75 (0,0)))∧(w.heap.size ≤ s_)∧(w.heap.size ≤ s_)∧(gb134 ≠ s_)∧(s_ ≠ gb134)∧(Below w.heap.size w w')) ?_ ?_
         rotate_left
         ·intro hCont
          refine two_ (i:=3) (j:=9) (Ni:=some 34) (Nj:=some 5) #[true,true,true,true,true,true,true,false,false,false,false] #[true,true,true,false,true,true,true,false,false,true,false] rfl rfl rfl rfl (two_of HT_.out (by kernel_rfl)) (by decide) (by decide) (fun K hK=>?_) (fun K hK=>?_)
          ·skip
           refine goes_ Tryz.func57 (by kernel_rfl) rfl #[.string (a0.extract 2 ((ji16) : Int).toNat)] (by rfl) rfl rfl q11_ ?_
           with_reducible refine (strings_Clone.calls (a0.extract 2 ((ji16) : Int).toNat) t136 _ A15.out).mono ?_
           rintro e w35 ⟨rfl,hb⟩
           refine ⟨_,rfl,?_⟩
           have n0_:=Aside0.mk (blk_below (g:=gb134) (o:=.cells #[.string (⟨#[]⟩ : ByteArray),.string (⟨#[]⟩ : ByteArray)] 75 (0,0)) q2_ hb)
           have n1_:=Aside0.mk (below_step q4_ hb)
           clear BK134
           clear HB
           have BK134:=n0_
           have HB:=n1_
           clear n0_ n1_
           (try clear hb)
           (try clear hb2)
           (try clear hk)
           (try clear hi)
           refine hK.out _ _ trivial (fun hHeld=>?_)
           clear hK K
           refine norm_ (a':=?_) ?_ ?_
           rotate_left
           ·show Act.put _ (some 34) _=_
            simp only [Act.put,List.setIfInBounds_toArray,List.set_cons_zero,List.set_cons_succ,i64_w,i32_w]
            rfl
           refine two_ (i:=7) (j:=9) (Ni:=some 38) (Nj:=some 5) #[true,true,true,true,true,true,true,true,false,false,false] #[true,true,true,true,true,true,true,false,false,true,false] rfl rfl rfl rfl (two_of HT_.out (by kernel_rfl)) (by decide) (by decide) (fun K hK=>?_) (fun K hK=>?_)
           ·skip
            refine goes_ Tryz.func57 (by kernel_rfl) rfl #[.string (a0.extract ((ji16) : Int).toNat a0.size)] (by rfl) rfl rfl q11_ ?_
            with_reducible refine (strings_Clone.calls (a0.extract ((ji16) : Int).toNat a0.size) t137 _ A19.out).mono ?_
            rintro e w36 ⟨rfl,hb⟩
            refine ⟨_,rfl,?_⟩
            have n0_:=Aside0.mk (blk_below (g:=gb134) (o:=.cells #[.string (⟨#[]⟩ : ByteArray),.string (⟨#[]⟩ : ByteArray)] 75 (0,0)) q2_ hb)
            have n1_:=Aside0.mk (below_step q4_ hb)
            clear BK134
            clear HB
            have BK134:=n0_
            have HB:=n1_
            clear n0_ n1_
            (try clear hb)
            (try clear hb2)
            (try clear hk)
            (try clear hi)
            refine hK.out _ _ trivial (fun hHeld=>?_)
            clear hK K
            refine norm_ (a':=?_) ?_ ?_
            rotate_left
            ·show Act.put _ (some 38) _=_
             simp only [Act.put,List.setIfInBounds_toArray,List.set_cons_zero,List.set_cons_succ,i64_w,i32_w]
             rfl
            refine pT_ 8 (some 39) ?_
            refine oT_ 9 (some 5) fun K hK=>?_
            refine box_step ?hg (N:=5) ?hd (cs:=#[.string (⟨#[]⟩ : ByteArray),.string (⟨#[]⟩ : ByteArray)]) (t:=75) ?hr ?_;(case hd=>rfl);(case hg=>rfl);(case hr=>first | (go_simp;done) | (go_simp;rfl))
            intro gb138 hg w37 hbox hb
            have n0_:=Aside0.mk (blk_below (g:=gb134) (o:=.cells #[.string (⟨#[]⟩ : ByteArray),.string (⟨#[]⟩ : ByteArray)] 75 (0,0)) q2_ hb)
            have n1_:=Aside0.mk (below_step q4_ hb)
            have n2_:=Aside0.mk (hbox)
            have n3_:=Aside0.mk ((by rw [hg];exact (below_size q4_) : w.heap.size ≤ gb138))
            have n4_:=Aside0.mk ((by rw [hg];exact (below_size q4_) : w.heap.size ≤ gb138))
            have n5_:=Aside0.mk ((by rw [hg];exact Nat.ne_of_lt (blk_lt (g:=gb134) (o:=.cells #[.string (⟨#[]⟩ : ByteArray),.string (⟨#[]⟩ : ByteArray)] 75 (0,0)) q2_) : gb134 ≠ gb138))
            have n6_:=Aside0.mk ((by rw [hg];exact Nat.ne_of_gt (blk_lt (g:=gb134) (o:=.cells #[.string (⟨#[]⟩ : ByteArray),.string (⟨#[]⟩ : ByteArray)] 75 (0,0)) q2_) : gb138 ≠ gb134))
            clear BK134
            clear HB
            have BK134:=n0_
            have HB:=n1_
            have BK138:=n2_
            have GW138:=n3_
            have GE138:=n4_
            have NB134_138:=n5_
            have NB138_134:=n6_
            clear n0_ n1_ n2_ n3_ n4_ n5_ n6_
            clear hb hbox hg
            refine hK.out _ _ trivial (fun hHeld=>?_)
            clear hK K
            refine norm_ (a':=?_) ?_ ?_
            rotate_left
            ·show Act.put _ (some 5) _=_
             simp only [Act.put,List.setIfInBounds_toArray,List.set_cons_zero,List.set_cons_succ,i64_w,i32_w]
             rfl
            exact norm_ q42_ (hCont (gb138) _ ⟨q2_,q15_,GW138.out,GE138.out,NB134_138.out,NB138_134.out,q8_⟩)
           ·skip
            refine box_step ?hg (N:=5) ?hd (cs:=#[.string (⟨#[]⟩ : ByteArray),.string (⟨#[]⟩ : ByteArray)]) (t:=75) ?hr ?_;(case hd=>rfl);(case hg=>rfl);(case hr=>first | (go_simp;done) | (go_simp;rfl))
            intro gb138 hg w36 hbox hb
            have n0_:=Aside0.mk (blk_below (g:=gb134) (o:=.cells #[.string (⟨#[]⟩ : ByteArray),.string (⟨#[]⟩ : ByteArray)] 75 (0,0)) q2_ hb)
            have n1_:=Aside0.mk (below_step q4_ hb)
            have n2_:=Aside0.mk (hbox)
            have n3_:=Aside0.mk ((by rw [hg];exact (below_size q4_) : w.heap.size ≤ gb138))
            have n4_:=Aside0.mk ((by rw [hg];exact (below_size q4_) : w.heap.size ≤ gb138))
            have n5_:=Aside0.mk ((by rw [hg];exact Nat.ne_of_lt (blk_lt (g:=gb134) (o:=.cells #[.string (⟨#[]⟩ : ByteArray),.string (⟨#[]⟩ : ByteArray)] 75 (0,0)) q2_) : gb134 ≠ gb138))
            have n6_:=Aside0.mk ((by rw [hg];exact Nat.ne_of_gt (blk_lt (g:=gb134) (o:=.cells #[.string (⟨#[]⟩ : ByteArray),.string (⟨#[]⟩ : ByteArray)] 75 (0,0)) q2_) : gb138 ≠ gb134))
            clear BK134
            clear HB
            have BK134:=n0_
            have HB:=n1_
            have BK138:=n2_
            have GW138:=n3_
            have GE138:=n4_
            have NB134_138:=n5_
            have NB138_134:=n6_
            clear n0_ n1_ n2_ n3_ n4_ n5_ n6_
            clear hb hbox hg
            refine hK.out _ _ trivial (fun hHeld=>?_)
            clear hK K
            refine norm_ (a':=?_) ?_ ?_
            rotate_left
            ·show Act.put _ (some 5) _=_
             simp only [Act.put,List.setIfInBounds_toArray,List.set_cons_zero,List.set_cons_succ,i64_w,i32_w]
             rfl
            refine oT_ 7 (some 38) fun K hK=>?_
            refine goes_ Tryz.func57 (by kernel_rfl) rfl #[.string (a0.extract ((ji16) : Int).toNat a0.size)] (by rfl) rfl rfl q11_ ?_
            with_reducible refine (strings_Clone.calls (a0.extract ((ji16) : Int).toNat a0.size) t137 _ A19.out).mono ?_
            rintro e w37 ⟨rfl,hb⟩
            refine ⟨_,rfl,?_⟩
            have n0_:=Aside0.mk (blk_below (g:=gb134) (o:=.cells #[.string (⟨#[]⟩ : ByteArray),.string (⟨#[]⟩ : ByteArray)] 75 (0,0)) q2_ hb)
            have n1_:=Aside0.mk (blk_below (g:=gb138) (o:=.cells #[.string (⟨#[]⟩ : ByteArray),.string (⟨#[]⟩ : ByteArray)] 75 (0,0)) q15_ hb)
            have n2_:=Aside0.mk (below_step q8_ hb)
            clear BK134
            clear BK138
            clear HB
            have BK134:=n0_
            have BK138:=n1_
            have HB:=n2_
            clear n0_ n1_ n2_
            (try clear hb)
            (try clear hb2)
            (try clear hk)
            (try clear hi)
            refine hK.out _ _ trivial (fun hHeld=>?_)
            clear hK K
            refine norm_ (a':=?_) ?_ ?_
            rotate_left
            ·show Act.put _ (some 38) _=_
             simp only [Act.put,List.setIfInBounds_toArray,List.set_cons_zero,List.set_cons_succ,i64_w,i32_w]
             rfl
            refine pT_ 8 (some 39) ?_
            exact norm_ q42_ (hCont (gb138) _ ⟨q2_,q15_,GW138.out,GE138.out,NB134_138.out,NB138_134.out,q8_⟩)
          ·skip
           refine box_step ?hg (N:=5) ?hd (cs:=#[.string (⟨#[]⟩ : ByteArray),.string (⟨#[]⟩ : ByteArray)]) (t:=75) ?hr ?_;(case hd=>rfl);(case hg=>rfl);(case hr=>first | (go_simp;done) | (go_simp;rfl))
           intro gb138 hg w35 hbox hb
           have n0_:=Aside0.mk (blk_below (g:=gb134) (o:=.cells #[.string (⟨#[]⟩ : ByteArray),.string (⟨#[]⟩ : ByteArray)] 75 (0,0)) q2_ hb)
           have n1_:=Aside0.mk (below_step q4_ hb)
           have n2_:=Aside0.mk (hbox)
           have n3_:=Aside0.mk ((by rw [hg];exact (below_size q4_) : w.heap.size ≤ gb138))
           have n4_:=Aside0.mk ((by rw [hg];exact (below_size q4_) : w.heap.size ≤ gb138))
           have n5_:=Aside0.mk ((by rw [hg];exact Nat.ne_of_lt (blk_lt (g:=gb134) (o:=.cells #[.string (⟨#[]⟩ : ByteArray),.string (⟨#[]⟩ : ByteArray)] 75 (0,0)) q2_) : gb134 ≠ gb138))
           have n6_:=Aside0.mk ((by rw [hg];exact Nat.ne_of_gt (blk_lt (g:=gb134) (o:=.cells #[.string (⟨#[]⟩ : ByteArray),.string (⟨#[]⟩ : ByteArray)] 75 (0,0)) q2_) : gb138 ≠ gb134))
           clear BK134
           clear HB
           have BK134:=n0_
           have HB:=n1_
           have BK138:=n2_
           have GW138:=n3_
           have GE138:=n4_
           have NB134_138:=n5_
           have NB138_134:=n6_
           clear n0_ n1_ n2_ n3_ n4_ n5_ n6_
           clear hb hbox hg
           refine hK.out _ _ trivial (fun hHeld=>?_)
           clear hK K
           refine norm_ (a':=?_) ?_ ?_
           rotate_left
           ·show Act.put _ (some 5) _=_
            simp only [Act.put,List.setIfInBounds_toArray,List.set_cons_zero,List.set_cons_succ,i64_w,i32_w]
            rfl
           refine oT_ 3 (some 34) fun K hK=>?_
           refine goes_ Tryz.func57 (by kernel_rfl) rfl #[.string (a0.extract 2 ((ji16) : Int).toNat)] (by rfl) rfl rfl q11_ ?_
           with_reducible refine (strings_Clone.calls (a0.extract 2 ((ji16) : Int).toNat) t136 _ A15.out).mono ?_
           rintro e w36 ⟨rfl,hb⟩
           refine ⟨_,rfl,?_⟩
           have n0_:=Aside0.mk (blk_below (g:=gb134) (o:=.cells #[.string (⟨#[]⟩ : ByteArray),.string (⟨#[]⟩ : ByteArray)] 75 (0,0)) q2_ hb)
           have n1_:=Aside0.mk (blk_below (g:=gb138) (o:=.cells #[.string (⟨#[]⟩ : ByteArray),.string (⟨#[]⟩ : ByteArray)] 75 (0,0)) q15_ hb)
           have n2_:=Aside0.mk (below_step q8_ hb)
           clear BK134
           clear BK138
           clear HB
           have BK134:=n0_
           have BK138:=n1_
           have HB:=n2_
           clear n0_ n1_ n2_
           (try clear hb)
           (try clear hb2)
           (try clear hk)
           (try clear hi)
           refine hK.out _ _ trivial (fun hHeld=>?_)
           clear hK K
           refine norm_ (a':=?_) ?_ ?_
           rotate_left
           ·show Act.put _ (some 34) _=_
            simp only [Act.put,List.setIfInBounds_toArray,List.set_cons_zero,List.set_cons_succ,i64_w,i32_w]
            rfl
           refine oT_ 7 (some 38) fun K hK=>?_
           refine goes_ Tryz.func57 (by kernel_rfl) rfl #[.string (a0.extract ((ji16) : Int).toNat a0.size)] (by rfl) rfl rfl q11_ ?_
           with_reducible refine (strings_Clone.calls (a0.extract ((ji16) : Int).toNat a0.size) t137 _ A19.out).mono ?_
           rintro e w37 ⟨rfl,hb⟩
           refine ⟨_,rfl,?_⟩
           have n0_:=Aside0.mk (blk_below (g:=gb134) (o:=.cells #[.string (⟨#[]⟩ : ByteArray),.string (⟨#[]⟩ : ByteArray)] 75 (0,0)) q2_ hb)
           have n1_:=Aside0.mk (blk_below (g:=gb138) (o:=.cells #[.string (⟨#[]⟩ : ByteArray),.string (⟨#[]⟩ : ByteArray)] 75 (0,0)) q15_ hb)
           have n2_:=Aside0.mk (below_step q8_ hb)
           clear BK134
           clear BK138
           clear HB
           have BK134:=n0_
           have BK138:=n1_
           have HB:=n2_
           clear n0_ n1_ n2_
           (try clear hb)
           (try clear hb2)
           (try clear hk)
           (try clear hi)
           refine hK.out _ _ trivial (fun hHeld=>?_)
           clear hK K
           refine norm_ (a':=?_) ?_ ?_
           rotate_left
           ·show Act.put _ (some 38) _=_
            simp only [Act.put,List.setIfInBounds_toArray,List.set_cons_zero,List.set_cons_succ,i64_w,i32_w]
            rfl
           refine pT_ 8 (some 39) ?_
           exact norm_ q42_ (hCont (gb138) _ ⟨q2_,q15_,GW138.out,GE138.out,NB134_138.out,NB138_134.out,q8_⟩)
         rintro gb138 w38 ⟨h0_,h1_,h2_,h3_,h4_,h5_,h6_⟩
         have n0_ : Aside0 (w38.heap[gb134]? = some (.cells #[.string (⟨#[]⟩ : ByteArray),.string (⟨#[]⟩ : ByteArray)] 75 (0,0))):=⟨h0_⟩
         have n1_ : Aside0 (w38.heap[gb138]? = some (.cells #[.string (⟨#[]⟩ : ByteArray),.string (⟨#[]⟩ : ByteArray)] 75 (0,0))):=⟨h1_⟩
         have n2_ : Aside0 (w.heap.size ≤ gb138):=⟨h2_⟩
         have n3_ : Aside0 (w.heap.size ≤ gb138):=⟨h3_⟩
         have n4_ : Aside0 (gb134 ≠ gb138):=⟨h4_⟩
         have n5_ : Aside0 (gb138 ≠ gb134):=⟨h5_⟩
         have n6_ : Aside0 (Below w.heap.size w w38):=⟨h6_⟩
         clear BK134
         clear HB
         clear h0_ h1_ h2_ h3_ h4_ h5_ h6_
         have BK134:=n0_
         have BK138:=n1_
         have GW138:=n2_
         have GE138:=n3_
         have NB134_138:=n4_
         have NB138_134:=n5_
         have HB:=n6_
         clear n0_ n1_ n2_ n3_ n4_ n5_ n6_
         have hHeld:=trivial
         refine norm_ (a':=?_) ?_ ?_
         rotate_left
         ·simp only [putAll,Act.put,List.setIfInBounds_toArray,List.set_cons_zero,List.set_cons_succ]
          rfl
         refine oT_ 10 none fun K hK=>?_
         have hs39 : w38.cell? ⟨gb138,0,none⟩=some (.string (⟨#[]⟩ : ByteArray)):=(blk_cell BK138.out 0).trans rfl
         have hfs39:=blk_frozen BK138.out 0
         have hns39_0:=NB134_138.out
         have hms39_0:=NB138_134.out
         have hs40 : w38.cell? ⟨gb138,1,none⟩=some (.string (⟨#[]⟩ : ByteArray)):=(blk_cell BK138.out 1).trans rfl
         have hfs40:=blk_frozen BK138.out 1
         have hns40_0:=NB134_138.out
         have hms40_0:=NB138_134.out
         refine skip_ (w1:=?_) (by rfl) rfl ?_ ?_
         rotate_left
         ·go_simp
          rfl
         refine hK.out _ _ trivial (fun hHeld=>?_)
         clear hK K
         refine done_ (done_of HT_.out (by kernel_rfl)) ?_
         have hnb41:=NB138_134.out
         have hnc41:=NB134_138.out
         have hcz42_0 : w38.cell? ⟨gb138,0,none⟩=some (.string (⟨#[]⟩ : ByteArray)):=(blk_cell BK138.out 0).trans rfl
         have hcz42_1 : w38.cell? ⟨gb138,1,none⟩=some (.string (⟨#[]⟩ : ByteArray)):=(blk_cell BK138.out 1).trans rfl
         have hfz42_0:=blk_frozen BK138.out 0
         have hfz42_1:=blk_frozen BK138.out 1
         try go_wp2_with (first | ((with_reducible refine gate_callee (f:=261) rfl ?_);refine goesL_ (some 42) rfl rfl Tryz.func261 (by kernel_rfl) rfl #[.agg #[.string t136,.string t137]] rfl q7_ ?_;(with_reducible refine (hello_PutHello.calls t136 t137 t139 false _ A20.out).mono ?_);rintro e w43 ⟨rfl,hb⟩;refine ⟨_,rfl,?_⟩;have n0_:=Aside0.mk (blk_below (g:=gb134) (o:=.cells #[.string (⟨#[]⟩ : ByteArray),.string (⟨#[]⟩ : ByteArray)] 75 (0,0)) (by (with_reducible repeat (first | refine blk_drewN ?_ _ | refine blk_drew ?_ | refine blk_alloc ?_ _));refine blk_far ?_ NB134_138.out _;(with_reducible repeat (first | refine blk_drewN ?_ _ | refine blk_drew ?_ | refine blk_alloc ?_ _));refine blk_far ?_ NB134_138.out _;(with_reducible repeat (first | refine blk_drewN ?_ _ | refine blk_drew ?_ | refine blk_alloc ?_ _));exact BK134.out) hb);have n1_:=Aside0.mk (blk_below (g:=gb138) (o:=.cells #[.string t136,.string t137] 75 (0,0)) (by (with_reducible repeat (first | refine blk_drewN ?_ _ | refine blk_drew ?_ | refine blk_alloc ?_ _));refine blk_put (cs:=#[.string t136,.string (⟨#[]⟩ : ByteArray)]) ?_ 1 _ rfl;(with_reducible repeat (first | refine blk_drewN ?_ _ | refine blk_drew ?_ | refine blk_alloc ?_ _));refine blk_put (cs:=#[.string (⟨#[]⟩ : ByteArray),.string (⟨#[]⟩ : ByteArray)]) ?_ 0 _ rfl;(with_reducible repeat (first | refine blk_drewN ?_ _ | refine blk_drew ?_ | refine blk_alloc ?_ _));exact BK138.out) hb);have n2_:=Aside0.mk (below_step q8_ hb);clear BK134;clear BK138;clear HB;have BK134:=n0_;have BK138:=n1_;have HB:=n2_;clear n0_ n1_ n2_;(try clear hb);(try clear hb2);(try clear hk);(try clear hi);have hcz44_0 : w43.cell? ⟨gb134,0,none⟩=some (.string (⟨#[]⟩ : ByteArray)):=(blk_cell BK134.out 0).trans rfl;have hcz44_1 : w43.cell? ⟨gb134,1,none⟩=some (.string (⟨#[]⟩ : ByteArray)):=(blk_cell BK134.out 1).trans rfl;have hfz44_0:=blk_frozen BK134.out 0;have hfz44_1:=blk_frozen BK134.out 1))
         refine bodyPost_ret (results_ct rfl _ _ gb134 75 #[.string (⟨#[]⟩ : ByteArray),.string (⟨#[]⟩ : ByteArray)] (0,0) _ rfl (by (with_reducible repeat (first | refine blk_drewN ?_ _ | refine blk_drew ?_ | refine blk_alloc ?_ _));refine blk_put (cs:=#[.string (⟨#[]⟩ : ByteArray),.string (⟨#[]⟩ : ByteArray)]) ?_ 1 _ rfl;(with_reducible repeat (first | refine blk_drewN ?_ _ | refine blk_drew ?_ | refine blk_alloc ?_ _));refine blk_put (cs:=#[.string (⟨#[]⟩ : ByteArray),.string (⟨#[]⟩ : ByteArray)]) ?_ 0 _ rfl;(with_reducible repeat (first | refine blk_drewN ?_ _ | refine blk_drew ?_ | refine blk_alloc ?_ _));exact BK134.out) Tryz.underlying75 rfl (by kernel_rfl)) rfl ?_
         exact ⟨by first | rfl | (simp [errW_none,errW_some] <;> rfl) | (simp only [← hji16];first | rfl | (simp [errW_none,errW_some] <;> rfl)) | (simp [*,errW_none,errW_some] <;> rfl),q8_⟩
       ·rw [if_neg c17] at H
        exact absurd H (by simp)
      ·rw [if_neg c14] at H
       exact absurd H (by simp)
     ·rw [if_neg c13] at H
      exact absurd H (by simp)
    ·rw [if_neg c11] at H
     exact absurd H (by simp)
end Go.Proofs.YtkekohmkaefdnaaGreatDoor.Pb
