
import Derived.Test.YtkekohmkaefdnaaGreatDoorPa0
set_option maxHeartbeats 8000000
set_option maxRecDepth 100000
namespace Go.Proofs.YtkekohmkaefdnaaGreatDoor.Pa
open Go.RowKit Go.Proofs.YtkekohmkaefdnaaGreatDoorW.PrintWords Go.Proofs.YtkekohmkaefdnaaGreatDoorW.PrintLast Go.Proofs.YtkekohmkaefdnaaGreatDoorW.PrintMore
attribute [local go_sem] max2_int min2_int max_two min_two max_three min_three max_four min_four
set_option linter.unusedVariables false
set_option linter.unusedSimpArgs false
/-! ### glob_pieces: function 215 -/
mutual
def glob_pieces.l0 : Nat→ByteArray→List (S294)→Int→Option ((List (S294)) × Bool)
 | 0,_,_,_=>none
 | k + 1,x0,x4,x5=>if x5 < (x0.size : Int) then (if 0 ≤ x5 then (if (bt x0 x5)=42 then (glob_pieces.j1 k x0 x4 x5 (bt x0 x5) (bt x0 x5) ((bt x0 x5) == 42)) else (glob_pieces.j1 k x0 x4 x5 (bt x0 x5) (bt x0 x5) ((bt x0 x5) == 63))) else (none)) else (some (x4,true))
def glob_pieces.j1 : Nat→ByteArray→List (S294)→Int→Int→Int→Bool→Option ((List (S294)) × Bool)
 | 0,_,_,_,_,_,_=>none
 | k + 1,x0,x4,x5,x6,x19,x20=>if x20=true then (if x4.length < 70368744177664 then (glob_pieces.l0 k x0 (x4 ++ [(⟨x6,0⟩ : S294)]) (wrap64 (x5 + 1))) else (none)) else (if x19=92 then (if (wrap64 (x5 + 1))=(x0.size : Int) then (some (([] : List (S294)),false)) else (if 0 ≤ (wrap64 (x5 + 1)) then (if (wrap64 (x5 + 1)) < (x0.size : Int) then (if x4.length < 70368744177664 then (glob_pieces.l0 k x0 (x4 ++ [(⟨92,bt x0 (wrap64 (x5 + 1))⟩ : S294)]) (wrap64 ((wrap64 (x5 + 1)) + 1))) else (none)) else (none)) else (none))) else (if 0 ≤ x5 then (if x5 < (x0.size : Int) then (if x4.length < 70368744177664 then (glob_pieces.l0 k x0 (x4 ++ [(⟨92,bt x0 x5⟩ : S294)]) (wrap64 (x5 + 1))) else (none)) else (none)) else (none)))
end
def glob_pieces.f (k : Nat) (a0 : ByteArray) : Option ((List (S294)) × Bool):=if (a0.size : Int) > 40 then (some (([] : List (S294)),false)) else (glob_pieces.l0 k a0 ([] : List (S294)) 0)
theorem glob_pieces.calls (k : Nat) (a0 : ByteArray) (r1 : List (S294)) (r2 : Bool) (w : World) (h : glob_pieces.f k a0=some (r1,r2)) :
  Calls Tryz.prog 215 #[.string a0] w fun e w'=>∃ v0_ : Value,e=.returned (.tuple #[v0_,.bool r2])∧Kd.R k294 294 w' w.heap.size (fun _=>True) v0_ r1∧Below w.heap.size w w':=by
 have hu294:=Tryz.underlying294
 have HB:=Aside0.mk (Below.refl w.heap.size w)
 have H : (if (a0.size : Int) > 40 then (some (([] : List (S294)),false)) else (glob_pieces.l0 k a0 ([] : List (S294)) 0))=some (r1,r2):=h
 clear h
 by_cases c2 : (a0.size : Int) > 40
 ·rw [if_pos c2] at H
  have c2b0 : decide (40 < (a0.size : Int))=true:=decide_eq_true c2
  have c2b1 : decide (40 < a0.size)=true:=decide_eq_true (by omega)
  clear c2
  simp only [Option.some.injEq,Prod.mk.injEq] at H
  obtain ⟨rfl,rfl⟩:=H
  go_enter Tryz.func215,Tryz.ntmps215
  go_wp2
  go_ret2
  exact ⟨_,q3_,q21_,q1_⟩
 ·rw [if_neg c2] at H
  have c2b0 : decide (40 < (a0.size : Int))=false:=decide_eq_false c2
  have c2b1 : decide (40 < a0.size)=false:=decide_eq_false (by omega)
  clear c2
  have H':=Aside0.mk H
  clear H
  go_enter Tryz.func215,Tryz.ntmps215
  go_wp2
  go_loopg [4,5] k (fun kq v4 v5 w'=>∃ (x4_1 : List (S294)) (x5_1 : Int),v5=.int .i64 x5_1∧Aside0 (glob_pieces.l0 kq a0 x4_1 x5_1=some (r1,r2))∧Aside0 (kq ≤ k)∧Aside0 (Kd.R k294 294 w' w.heap.size (fun _=>True) v4 x4_1)∧Aside0 (Below w.heap.size w w'))
  case atStart=>exact ⟨(([] : List (S294))),(0),q6_,H',⟨Nat.le_refl _⟩,⟨q21_⟩,⟨q1_⟩⟩
  case round=>
   clear H'
   try clear c2
   try clear c2b0
   try clear c2b1
   try clear p2
   obtain ⟨x4_1,x5_1,rfl,HA,HK1,HO_4,HB⟩:=hrel
   cases gk with
   | zero=>exact absurd HA.out (by simp [glob_pieces.l0])
   | succ k1=>
    have H:=HA.out
    clear HA
    simp only [glob_pieces.l0] at H
    by_cases c3 : x5_1 < (a0.size : Int)
    ·rw [if_pos c3] at H
     have c3b0 : decide (x5_1 < (a0.size : Int))=true:=decide_eq_true c3
     clear c3
     by_cases c4 : 0 ≤ x5_1
     ·rw [if_pos c4] at H
      have c4b0 : decide (0 ≤ x5_1)=true:=decide_eq_true c4
      clear c4
      have HC6:=Aside0.mk H
      clear H
      have p5 : 0 ≤ (x5_1 : Int):=of_decide_eq_true q5_
      have q5 : x5_1 < (a0.size : Int):=of_decide_eq_true q5_
      have hx5:=bt_at a0 x5_1
      replace p5:=eq_true p5
      replace q5:=eq_true q5
      go_upto_if 20 with (fail)
      go_cut [20] (fun v20 wc=>∃ (kq : Nat) (x20_5 : Bool),v20=.bool x20_5∧Aside0 (glob_pieces.j1 kq a0 x4_1 x5_1 (bt a0 x5_1) (bt a0 x5_1) x20_5=some (r1,r2))∧Aside0 (kq ≤ k1)∧Aside0 (Kd.R k294 294 wc w.heap.size (fun _=>True) u4 x4_1)∧Aside0 (Below w.heap.size w wc))
      case first=>
       have H:=HC6.out
       clear HC6
       by_cases c7 : (bt a0 x5_1)=42
       ·rw [if_pos c7] at H
        have c7b0 : ((bt a0 x5_1) == 42)=true:=beq_iff_eq.mpr c7
        have c7b1 : ((bt a0 x5_1) != 42)=false:=bne_eq_false_iff_eq.mpr c7
        clear c7
        (first | rw [c7b0] | (simp only [i64_w,i32_w];rw [c7b0]) | skip)
        have H':=Aside0.mk H
        clear H
        go_wp2
        go_meet
        case rel=>exact ⟨_,(((bt a0 x5_1) == 42)),q6_,H',⟨by have:=HK1.out;first | omega | exact Nat.le_refl _⟩,⟨q39_⟩,⟨q1_⟩⟩
       ·rw [if_neg c7] at H
        have c7b0 : ((bt a0 x5_1) == 42)=false:=beq_eq_false_iff_ne.mpr c7
        have c7b1 : ((bt a0 x5_1) != 42)=true:=bne_iff_ne.mpr c7
        (first | rw [c7b0] | (simp only [i64_w,i32_w];rw [c7b0]) | skip)
        have H':=Aside0.mk H
        clear H
        go_wp2
        go_meet
        case rel=>exact ⟨_,(((bt a0 x5_1) == 63)),q6_,H',⟨by have:=HK1.out;first | omega | exact Nat.le_refl _⟩,⟨q39_⟩,⟨q1_⟩⟩
      case rest=>
       clear HC6
       try clear c2
       try clear c2b0
       try clear c2b1
       try clear p2
       try clear c3
       try clear c3b0
       try clear c4
       try clear c4b0
       try clear p5
       try clear q5
       try clear hx5
       try clear c7
       try clear c7b0
       try clear c7b1
       try clear p2
       try clear p5
       try clear q5
       obtain ⟨kq,x20_5,rfl,HA,HJ5,HO_4,HB⟩:=hcut
       cases kq with
       | zero=>exact absurd HA.out (by simp [glob_pieces.j1])
       | succ kj5=>
        have H:=HA.out
        clear HA
        simp only [glob_pieces.j1] at H
        by_cases c8 : x20_5=true
        ·subst c8
         have H1 : (if x4_1.length < 70368744177664 then (glob_pieces.l0 kj5 a0 (x4_1 ++ [(⟨(bt a0 x5_1),0⟩ : S294)]) (wrap64 (x5_1 + 1))) else (none))=some (r1,r2):=q44_
         clear H
         have H:=H1
         clear H1
         by_cases c9 : x4_1.length < 70368744177664
         ·rw [if_pos c9] at H
          have LMc9:=Aside0.mk c9
          clear c9
          obtain ⟨y101,hy101⟩ : ∃ y_ : List (S294),y_=(x4_1 ++ [(⟨(bt a0 x5_1),0⟩ : S294)]):=⟨_,rfl⟩
          replace H : (glob_pieces.l0 kj5 a0 y101 (wrap64 (x5_1 + 1)))=some (r1,r2):=by first | (rw [hy101];with_reducible exact H) | (have H2_:=(Option.bind_some _ _).symm.trans H;rw [hy101];with_reducible exact H2_) | (have H2_:=(Option.bind_some _ _).symm.trans H;with_reducible exact H2_) | with_reducible exact H | (rw [hy101];exact H) | exact H
          have Ny101:=Aside0.mk hy101
          clear hy101
          have H':=Aside0.mk H
          clear H
          go_wp2_with (first | ((with_reducible refine gate_builtin (b:=.append) (xs:=#[.tmp 25,.tmp 28]) rfl ?_);at_builtin;refine Kd.R_append k294 (w0:=w) w.heap.size rfl (.tmp 25) (.tmp 28) 290 294 (.agg #[(.int .u8 0),(.int .u8 0)]) 2 rfl Tryz.underlying290 info294 rfl (by decide) (by omega) u4 x4_1 (⟨(bt a0 x5_1),0⟩ : S294) [.int .u8 (bt a0 x5_1),.int .u8 0] (fun _=>True) (fun _=>False) rfl rfl ?aP (fun _ hk=>hk.elim) ?aF ?aO ?aB ?aS ?aL ?_;(case aP=>exact k294_mkM _ _ _ (⟨(bt a0 x5_1),0⟩ : S294));(case aB=>exact q1_);(case aF=>exact (fun _ _=>trivial));(case aO=>exact q39_);(case aS=>exact (below_size q1_));(case aL=>have:=LMc9.out;omega);intro v102 w10 ho hb hg hat;rw [← Ny101.out] at ho;have n0_:=Aside0.mk (hb);have n1_:=Aside0.mk (ho);clear HB;clear HO_4;have HB:=n0_;have HO103:=n1_;clear n0_ n1_;clear ho hb hg hat))
          go_roundg kj5
          case measure=>have:=HK1.out;have:=HJ5.out;omega
          case rel=>exact ⟨(y101),(wrap64 (x5_1 + 1)),q6_,H',⟨by have:=HK1.out;have:=HJ5.out;omega⟩,⟨by (with_reducible repeat (first | apply Kd.R_alloc | apply Kd.R_drewN | apply Kd.R_drew));exact HO103.out⟩,⟨q1_⟩⟩
         ·rw [if_neg c9] at H
          exact absurd H (by simp)
        ·replace c8:=Bool.eq_false_iff.mpr c8
         subst c8
         have H1 : (if (bt a0 x5_1)=92 then (if (wrap64 (x5_1 + 1))=(a0.size : Int) then (some (([] : List (S294)),false)) else (if 0 ≤ (wrap64 (x5_1 + 1)) then (if (wrap64 (x5_1 + 1)) < (a0.size : Int) then (if x4_1.length < 70368744177664 then (glob_pieces.l0 kj5 a0 (x4_1 ++ [(⟨92,bt a0 (wrap64 (x5_1 + 1))⟩ : S294)]) (wrap64 ((wrap64 (x5_1 + 1)) + 1))) else (none)) else (none)) else (none))) else (if 0 ≤ x5_1 then (if x5_1 < (a0.size : Int) then (if x4_1.length < 70368744177664 then (glob_pieces.l0 kj5 a0 (x4_1 ++ [(⟨92,bt a0 x5_1⟩ : S294)]) (wrap64 (x5_1 + 1))) else (none)) else (none)) else (none)))=some (r1,r2):=q20_
         clear H
         have H:=H1
         clear H1
         by_cases c11 : (bt a0 x5_1)=92
         ·rw [if_pos c11] at H
          have c11b0 : ((bt a0 x5_1) == 92)=true:=beq_iff_eq.mpr c11
          have c11b1 : ((bt a0 x5_1) != 92)=false:=bne_eq_false_iff_eq.mpr c11
          clear c11
          by_cases c12 : (wrap64 (x5_1 + 1))=(a0.size : Int)
          ·rw [if_pos c12] at H
           have c12b0 : ((wrap64 (x5_1 + 1)) == (a0.size : Int))=true:=beq_iff_eq.mpr c12
           have c12b1 : ((wrap64 (x5_1 + 1)) != (a0.size : Int))=false:=bne_eq_false_iff_eq.mpr c12
           clear c12
           simp only [Option.some.injEq,Prod.mk.injEq] at H
           obtain ⟨rfl,rfl⟩:=H
           go_wp2
           go_ret2
           exact ⟨_,q3_,q21_,q1_⟩
          ·rw [if_neg c12] at H
           have c12b0 : ((wrap64 (x5_1 + 1)) == (a0.size : Int))=false:=beq_eq_false_iff_ne.mpr c12
           have c12b1 : ((wrap64 (x5_1 + 1)) != (a0.size : Int))=true:=bne_iff_ne.mpr c12
           obtain ⟨ji13,hji13⟩ : ∃ j_ : Int,(wrap64 (x5_1 + 1))=j_:=⟨_,rfl⟩
           replace H : (if 0 ≤ (ji13) then (if (ji13) < (a0.size : Int) then (if x4_1.length < 70368744177664 then (glob_pieces.l0 kj5 a0 (x4_1 ++ [(⟨92,bt a0 (ji13)⟩ : S294)]) (wrap64 ((ji13) + 1))) else (none)) else (none)) else (none))=some (r1,r2):=by first | (rw [hji13] at H;exact H) | (simp only [hji13] at H ⊢;exact H)
           (try rw [hji13] at c12b0)
           (try rw [hji13] at c12b1)
           have hji13w : (IntKind.i64.wrap (x5_1 + 1))=ji13:=(i64_w _).trans hji13
           by_cases c14 : 0 ≤ (ji13)
           ·rw [if_pos c14] at H
            have c14b0 : decide (0 ≤ (ji13))=true:=decide_eq_true c14
            clear c14
            by_cases c15 : (ji13) < (a0.size : Int)
            ·rw [if_pos c15] at H
             have c15b0 : decide ((ji13) < (a0.size : Int))=true:=decide_eq_true c15
             clear c15
             by_cases c17 : x4_1.length < 70368744177664
             ·rw [if_pos c17] at H
              have LMc17:=Aside0.mk c17
              clear c17
              obtain ⟨y104,hy104⟩ : ∃ y_ : List (S294),y_=(x4_1 ++ [(⟨92,bt a0 (ji13)⟩ : S294)]):=⟨_,rfl⟩
              replace H : (glob_pieces.l0 kj5 a0 y104 (wrap64 ((ji13) + 1)))=some (r1,r2):=by first | (rw [hy104];with_reducible exact H) | (have H2_:=(Option.bind_some _ _).symm.trans H;rw [hy104];with_reducible exact H2_) | (have H2_:=(Option.bind_some _ _).symm.trans H;with_reducible exact H2_) | with_reducible exact H | (rw [hy104];exact H) | exact H
              have Ny104:=Aside0.mk hy104
              clear hy104
              have H':=Aside0.mk H
              clear H
              have p16 : 0 ≤ ((ji13) : Int):=of_decide_eq_true q5_
              have q16 : (ji13) < (a0.size : Int):=of_decide_eq_true q5_
              have hx16:=bt_at a0 (ji13)
              replace p16:=eq_true p16
              replace q16:=eq_true q16
              go_wp2_with (first | ((with_reducible refine gate_builtin (b:=.append) (xs:=#[.tmp 36,.tmp 41]) rfl ?_);at_builtin;refine Kd.R_append k294 (w0:=w) w.heap.size rfl (.tmp 36) (.tmp 41) 290 294 (.agg #[(.int .u8 0),(.int .u8 0)]) 2 rfl Tryz.underlying290 info294 rfl (by decide) (by omega) u4 x4_1 (⟨92,bt a0 (ji13)⟩ : S294) [.int .u8 92,.int .u8 (bt a0 (ji13))] (fun _=>True) (fun _=>False) rfl rfl ?aP (fun _ hk=>hk.elim) ?aF ?aO ?aB ?aS ?aL ?_;(case aP=>exact k294_mkM _ _ _ (⟨92,bt a0 (ji13)⟩ : S294));(case aB=>exact q1_);(case aF=>exact (fun _ _=>trivial));(case aO=>exact q39_);(case aS=>exact (below_size q1_));(case aL=>have:=LMc17.out;omega);intro v105 w18 ho hb hg hat;rw [← Ny104.out] at ho;have n0_:=Aside0.mk (hb);have n1_:=Aside0.mk (ho);clear HB;clear HO_4;have HB:=n0_;have HO106:=n1_;clear n0_ n1_;clear ho hb hg hat))
              go_roundg kj5
              case measure=>have:=HK1.out;have:=HJ5.out;omega
              case rel=>exact ⟨(y104),(wrap64 ((ji13) + 1)),(by first | rfl | (simp;done) | (simp only [← hji13] <;> (first | rfl | simp)) | (simp [*];done)),H',⟨by have:=HK1.out;have:=HJ5.out;omega⟩,⟨by (with_reducible repeat (first | apply Kd.R_alloc | apply Kd.R_drewN | apply Kd.R_drew));exact HO106.out⟩,⟨q1_⟩⟩
             ·rw [if_neg c17] at H
              exact absurd H (by simp)
            ·rw [if_neg c15] at H
             exact absurd H (by simp)
           ·rw [if_neg c14] at H
            exact absurd H (by simp)
         ·rw [if_neg c11] at H
          have c11b0 : ((bt a0 x5_1) == 92)=false:=beq_eq_false_iff_ne.mpr c11
          have c11b1 : ((bt a0 x5_1) != 92)=true:=bne_iff_ne.mpr c11
          by_cases c19 : 0 ≤ x5_1
          ·rw [if_pos c19] at H
           have c19b0 : decide (0 ≤ x5_1)=true:=decide_eq_true c19
           clear c19
           by_cases c20 : x5_1 < (a0.size : Int)
           ·rw [if_pos c20] at H
            have c20b0 : decide (x5_1 < (a0.size : Int))=true:=decide_eq_true c20
            clear c20
            by_cases c22 : x4_1.length < 70368744177664
            ·rw [if_pos c22] at H
             have LMc22:=Aside0.mk c22
             clear c22
             obtain ⟨y107,hy107⟩ : ∃ y_ : List (S294),y_=(x4_1 ++ [(⟨92,bt a0 x5_1⟩ : S294)]):=⟨_,rfl⟩
             replace H : (glob_pieces.l0 kj5 a0 y107 (wrap64 (x5_1 + 1)))=some (r1,r2):=by first | (rw [hy107];with_reducible exact H) | (have H2_:=(Option.bind_some _ _).symm.trans H;rw [hy107];with_reducible exact H2_) | (have H2_:=(Option.bind_some _ _).symm.trans H;with_reducible exact H2_) | with_reducible exact H | (rw [hy107];exact H) | exact H
             have Ny107:=Aside0.mk hy107
             clear hy107
             have H':=Aside0.mk H
             clear H
             have p21 : 0 ≤ (x5_1 : Int):=of_decide_eq_true q5_
             have q21 : x5_1 < (a0.size : Int):=of_decide_eq_true q5_
             have hx21:=bt_at a0 x5_1
             replace p21:=eq_true p21
             replace q21:=eq_true q21
             go_wp2_with (first | ((with_reducible refine gate_builtin (b:=.append) (xs:=#[.tmp 36,.tmp 41]) rfl ?_);at_builtin;refine Kd.R_append k294 (w0:=w) w.heap.size rfl (.tmp 36) (.tmp 41) 290 294 (.agg #[(.int .u8 0),(.int .u8 0)]) 2 rfl Tryz.underlying290 info294 rfl (by decide) (by omega) u4 x4_1 (⟨92,bt a0 x5_1⟩ : S294) [.int .u8 92,.int .u8 (bt a0 x5_1)] (fun _=>True) (fun _=>False) rfl rfl ?aP (fun _ hk=>hk.elim) ?aF ?aO ?aB ?aS ?aL ?_;(case aP=>exact k294_mkM _ _ _ (⟨92,bt a0 x5_1⟩ : S294));(case aB=>exact q1_);(case aF=>exact (fun _ _=>trivial));(case aO=>exact q39_);(case aS=>exact (below_size q1_));(case aL=>have:=LMc22.out;omega);intro v108 w23 ho hb hg hat;rw [← Ny107.out] at ho;have n0_:=Aside0.mk (hb);have n1_:=Aside0.mk (ho);clear HB;clear HO_4;have HB:=n0_;have HO109:=n1_;clear n0_ n1_;clear ho hb hg hat))
             go_roundg kj5
             case measure=>have:=HK1.out;have:=HJ5.out;omega
             case rel=>exact ⟨(y107),(wrap64 (x5_1 + 1)),q6_,H',⟨by have:=HK1.out;have:=HJ5.out;omega⟩,⟨by (with_reducible repeat (first | apply Kd.R_alloc | apply Kd.R_drewN | apply Kd.R_drew));exact HO109.out⟩,⟨q1_⟩⟩
            ·rw [if_neg c22] at H
             exact absurd H (by simp)
           ·rw [if_neg c20] at H
            exact absurd H (by simp)
          ·rw [if_neg c19] at H
           exact absurd H (by simp)
     ·rw [if_neg c4] at H
      exact absurd H (by simp)
    ·rw [if_neg c3] at H
     have c3b0 : decide (x5_1 < (a0.size : Int))=false:=decide_eq_false c3
     clear c3
     simp only [Option.some.injEq,Prod.mk.injEq] at H
     obtain ⟨rfl,rfl⟩:=H
     go_wp2
     go_ret2
     exact ⟨_,q3_,q39_,q1_⟩
/-! ### glob_Right: function 144 -/
def glob_Right.f (k : Nat) (a0 : ByteArray) : Option (Bool):=(glob_pieces.f k a0).bind fun bt110=>(some bt110.2)
theorem glob_Right.calls (k : Nat) (a0 : ByteArray) (r : Bool) (w : World) (h : glob_Right.f k a0=some r) :
  Calls Tryz.prog 144 #[.string a0] w fun e w'=>e=.returned (.bool r)∧Below w.heap.size w w':=by
 have HB:=Aside0.mk (Below.refl w.heap.size w)
 have H : ((glob_pieces.f k a0).bind fun bt110=>(some bt110.2))=some r:=h
 clear h
 replace H:=Option.bind_eq_some_iff.mp H
 obtain ⟨⟨t110,t111⟩,A20,H⟩:=H
 replace H : (some t111)=some r:=H
 have A2:=Aside0.mk A20
 clear A20
 obtain rfl:=Option.some.inj H
 go_enter Tryz.func144,Tryz.ntmps144
 go_wp2_with (first | ((with_reducible refine gate_callee (f:=215) rfl ?_);refine goesL_ (some 7) rfl rfl Tryz.func215 (by kernel_rfl) rfl #[.string a0] rfl q7_ ?_;(with_reducible refine (glob_pieces.calls k a0 t110 t111 _ A2.out).mono ?_);rintro e w3 ⟨v112,rfl,ho0,hb⟩;refine ⟨_,rfl,?_⟩;have n0_:=Aside0.mk (Kd.R_lower ho0 (below_size q1_));have n1_:=Aside0.mk (below_step q1_ hb);clear HB;have HO113:=n0_;have HB:=n1_;clear n0_ n1_;(try clear hb);(try clear hb2);(try clear hk);(try clear hi);(try clear ho0)))
 go_ret
 exact ⟨q3_,q1_⟩
/-! ### acl_line: function 112 -/
def acl_line.f (a0_0 : Bool) (a0_1 : ByteArray) (a0_2 : Int) (a0_3 : ByteArray) : Option (ByteArray):=if a0_0=true then ((acl_class.f a0_2).bind fun t117=>((strings_Join.f (([(⟨#[97,108,108,111,119]⟩ : ByteArray),a0_1,t117,a0_3] : List ByteArray)) (⟨#[32]⟩ : ByteArray)).bind fun t121=>(some t121))) else ((acl_class.f a0_2).bind fun t122=>((strings_Join.f (([(⟨#[100,101,110,121]⟩ : ByteArray),a0_1,t122,a0_3] : List ByteArray)) (⟨#[32]⟩ : ByteArray)).bind fun t126=>(some t126)))
def acl_line.T4 : Bool × List (List Nat × List Nat):=(true,[([],[]),([],[]),([1],[1]),([],[]),([3],[3]),([4],[4]),([],[]),([6],[6]),([0,2,5,7],[0,2,5,7]),([8,5],[8]),([9,9,0,1,2,3,4,5,6,7,8,9],[9])])
def acl_line.B4 : List Nat:=[0,0,2,0,8,24,0,64,255,511,1023]
theorem acl_line.tab4 : rtab .any (opsOf Tryz.f112 4)=acl_line.T4:=by kernel_rfl
theorem acl_line.bits4 : waitsOk acl_line.T4.2 acl_line.B4=true:=by kernel_rfl
theorem acl_line.calls (a0_0 : Bool) (a0_1 : ByteArray) (a0_2 : Int) (a0_3 : ByteArray) (r : ByteArray) (w : World) (h : acl_line.f a0_0 a0_1 a0_2 a0_3=some r) (hLd : Laid w) :
  Calls Tryz.prog 112 #[.agg #[.bool a0_0,.string a0_1,.int .i64 a0_2,.string a0_3]] w fun e w'=>e=.returned (.string r)∧Below w.heap.size w w':=by
 have HLd:=Aside0.mk (fun (W : World) (hb_ : Below w.heap.size w W)=>Laid.below hLd rfl hb_)
 clear hLd
 have hu145:=Tryz.underlying145
 have HB:=Aside0.mk (Below.refl w.heap.size w)
 have H : (if a0_0=true then ((acl_class.f a0_2).bind fun t117=>((strings_Join.f (([(⟨#[97,108,108,111,119]⟩ : ByteArray),a0_1,t117,a0_3] : List ByteArray)) (⟨#[32]⟩ : ByteArray)).bind fun t121=>(some t121))) else ((acl_class.f a0_2).bind fun t122=>((strings_Join.f (([(⟨#[100,101,110,121]⟩ : ByteArray),a0_1,t122,a0_3] : List ByteArray)) (⟨#[32]⟩ : ByteArray)).bind fun t126=>(some t126))))=some r:=h
 clear h
 by_cases c2 : a0_0=true
 ·subst c2
  have H1 : ((acl_class.f a0_2).bind fun t117=>((strings_Join.f (([(⟨#[97,108,108,111,119]⟩ : ByteArray),a0_1,t117,a0_3] : List ByteArray)) (⟨#[32]⟩ : ByteArray)).bind fun t121=>(some t121)))=some r:=q44_
  clear H
  have H:=H1
  clear H1
  replace H:=Option.bind_eq_some_iff.mp H
  obtain ⟨t117,A30,H⟩:=H
  replace H : ((strings_Join.f (([(⟨#[97,108,108,111,119]⟩ : ByteArray),a0_1,t117,a0_3] : List ByteArray)) (⟨#[32]⟩ : ByteArray)).bind fun t121=>(some t121))=some r:=H
  have A3:=Aside0.mk A30
  clear A30
  obtain ⟨y118,hy118⟩ : ∃ y_ : List ByteArray,y_=(([(⟨#[97,108,108,111,119]⟩ : ByteArray),a0_1,t117,a0_3] : List ByteArray)):=⟨_,rfl⟩
  replace H : ((strings_Join.f y118 (⟨#[32]⟩ : ByteArray)).bind fun t121=>(some t121))=some r:=by first | (rw [hy118];with_reducible exact H) | (have H2_:=(Option.bind_some _ _).symm.trans H;rw [hy118];with_reducible exact H2_) | (have H2_:=(Option.bind_some _ _).symm.trans H;with_reducible exact H2_) | with_reducible exact H | (rw [hy118];exact H) | exact H
  have Ny118:=Aside0.mk hy118
  clear hy118
  replace H:=Option.bind_eq_some_iff.mp H
  obtain ⟨t121,A40,H⟩:=H
  replace H : (some t121)=some r:=H
  have A4:=Aside0.mk A40
  clear A40
  obtain rfl:=Option.some.inj H
  go_enter Tryz.func112,Tryz.ntmps112
  try go_wp2_with (first | ((with_reducible refine gate_dst (N:=1) rfl ?_);refine box_event ?hg (N:=1) ?hd (cs:=#[.bool true,.string a0_1,.int .i64 a0_2,.string a0_3]) (t:=145) ?hr ?_;(case hd=>rfl);(case hg=>rfl);(case hr=>first | (go_simp;done) | (go_simp;rfl));intro gb116 hg w5 hbox hb;have n0_:=Aside0.mk (below_step q1_ hb);have n1_:=Aside0.mk (hbox);have n2_:=Aside0.mk ((by rw [hg];exact (below_size q1_) : w.heap.size ≤ gb116));have n3_:=Aside0.mk ((by rw [hg];exact (below_size q1_) : w.heap.size ≤ gb116));clear HB;have HB:=n0_;have BK116:=n1_;have GW116:=n2_;have GE116:=n3_;clear n0_ n1_ n2_ n3_;clear hb hbox hg;have hcz6_0 : w5.cell? ⟨gb116,0,none⟩=some (.bool true):=(blk_cell BK116.out 0).trans rfl;have hcz6_1 : w5.cell? ⟨gb116,1,none⟩=some (.string a0_1):=(blk_cell BK116.out 1).trans rfl;have hcz6_2 : w5.cell? ⟨gb116,2,none⟩=some (.int .i64 a0_2):=(blk_cell BK116.out 2).trans rfl;have hcz6_3 : w5.cell? ⟨gb116,3,none⟩=some (.string a0_3):=(blk_cell BK116.out 3).trans rfl;have hfz6_0:=blk_frozen BK116.out 0;have hfz6_1:=blk_frozen BK116.out 1;have hfz6_2:=blk_frozen BK116.out 2;have hfz6_3:=blk_frozen BK116.out 3))
  have n0_:=Aside0.mk (blk_drew BK116.out)
  have n1_:=Aside0.mk (below_drew1 HB.out)
  clear BK116
  clear HB
  have BK116:=n0_
  have HB:=n1_
  clear n0_ n1_
  refine start_ (n:=11) (S:=fun w'=>w'.cell? ⟨gb116,0,none⟩=some (.bool true)∧w'.cell? ⟨gb116,1,none⟩=some (.string a0_1)∧w'.cell? ⟨gb116,2,none⟩=some (.int .i64 a0_2)∧w'.cell? ⟨gb116,3,none⟩=some (.string a0_3)) (ds:=[]) _ (by kernel_rfl) rfl rfl ⟨(blk_cell BK116.out 0).trans rfl,(blk_cell BK116.out 1).trans rfl,(blk_cell BK116.out 2).trans rfl,(blk_cell BK116.out 3).trans rfl⟩ (fun hHeld=>?_);refine with_tabW acl_line.tab4 acl_line.bits4 (fun HT_ HW_=>?_)
  generalize w5.drew=w7 at BK116 HB hHeld ⊢
  refine pT_ 0 (some 6) ?_
  refine pT_ 1 (some 7) ?_
  refine pT_ 3 (some 9) ?_
  refine pT_ 6 (some 12) ?_
  refine take_ (i:=2) (N:=some 8) (v:=?_) (a':=?_) #[true,true,true,true,false,false,true,false,false,false,false] rfl rfl (take_ofW HT_.out HW_.out (by kernel_rfl)) (fun _ _ _ h=>h) (Or.inl ⟨by rfl,?_⟩) hHeld ?_ ?_
  rotate_left
  ·rintro w' ⟨s0,s1,s2,s3⟩
   go_simp
   with_reducible rfl
  rotate_left
  ·simp only [Act.put,List.setIfInBounds_toArray,List.set_cons_zero,List.set_cons_succ,i64_w,i32_w]
   rfl
  refine take_ (i:=4) (N:=some 10) (v:=?_) (a':=?_) #[true,true,true,true,true,false,true,false,false,false,false] rfl rfl (take_ofW HT_.out HW_.out (by kernel_rfl)) (fun _ _ _ h=>h) (Or.inl ⟨by rfl,?_⟩) hHeld ?_ ?_
  rotate_left
  ·rintro w' ⟨s0,s1,s2,s3⟩
   go_simp
   with_reducible rfl
  rotate_left
  ·simp only [Act.put,List.setIfInBounds_toArray,List.set_cons_zero,List.set_cons_succ,i64_w,i32_w]
   rfl
  refine take_ (i:=7) (N:=some 13) (v:=?_) (a':=?_) #[true,true,true,true,true,false,true,true,false,false,false] rfl rfl (take_ofW HT_.out HW_.out (by kernel_rfl)) (fun _ _ _ h=>h) (Or.inl ⟨by rfl,?_⟩) hHeld ?_ ?_
  rotate_left
  ·rintro w' ⟨s0,s1,s2,s3⟩
   go_simp
   with_reducible rfl
  rotate_left
  ·simp only [Act.put,List.setIfInBounds_toArray,List.set_cons_zero,List.set_cons_succ,i64_w,i32_w]
   rfl
  refine oT_ 5 (some 11) fun K hK=>?_
  refine goes_ Tryz.func146 (by kernel_rfl) rfl #[.int .i64 a0_2] (by rfl) rfl rfl q7_ ?_
  ((with_reducible refine (acl_class.calls a0_2 t117 _ A3.out ?sideL).mono ?_);(case sideL=>exact HLd.out _ q1_))
  rintro e w8 ⟨rfl,hb⟩
  refine ⟨_,rfl,?_⟩
  have n0_:=Aside0.mk (blk_below (g:=gb116) (o:=.cells #[.bool true,.string a0_1,.int .i64 a0_2,.string a0_3] 145 (0,0)) q32_ hb)
  have n1_:=Aside0.mk (below_step q12_ hb)
  clear BK116
  clear HB
  have BK116:=n0_
  have HB:=n1_
  clear n0_ n1_
  (try clear hb)
  (try clear hb2)
  (try clear hk)
  (try clear hi)
  refine hK.out _ _ ⟨(blk_cell BK116.out 0).trans rfl,(blk_cell BK116.out 1).trans rfl,(blk_cell BK116.out 2).trans rfl,(blk_cell BK116.out 3).trans rfl⟩ (fun hHeld=>?_)
  clear hK K
  refine norm_ (a':=?_) ?_ ?_
  rotate_left
  ·show Act.put _ (some 11) _=_
   simp only [Act.put,List.setIfInBounds_toArray,List.set_cons_zero,List.set_cons_succ,i64_w,i32_w]
   rfl
  refine oT_ 8 (some 14) fun K hK=>?_
  refine Kd.R_lit_step Kd.string _ 9 ?hg (N:=14) ?hd (xs:=([(⟨#[97,108,108,111,119]⟩ : ByteArray),a0_1,t117,a0_3] : List ByteArray)) (inner:=[.string (⟨#[97,108,108,111,119]⟩ : ByteArray),.string a0_1,.string t117,.string a0_3]) (ok:=fun _=>True) (okp:=fun _=>True) ?hr ?hp (fun _ hk=>hk) trivial (Below.refl _ _) (Nat.le_refl _) (by simp) ?_;(case hd=>rfl);(case hg=>rfl);(case hr=>first | (go_simp;done) | (go_simp;rfl));(case hp=>exact (Reps.one (show Kd.M Kd.string _ _ _ (⟨#[97,108,108,111,119]⟩ : ByteArray) [.string (⟨#[97,108,108,111,119]⟩ : ByteArray)] from rfl) (Reps.one (show Kd.M Kd.string _ _ _ a0_1 [.string a0_1] from rfl) (Reps.one (show Kd.M Kd.string _ _ _ t117 [.string t117] from rfl) (Reps.one (show Kd.M Kd.string _ _ _ a0_3 [.string a0_3] from rfl) (Reps.none _ _))))))
  intro v119 w9 ho10 hb hg_ hnew_
  clear hg_ hnew_
  (first | rw [← Ny118.out] at ho10 | (simp only [Int.reduceToNat] at ho10;rw [← Ny118.out] at ho10))
  have n0_:=Aside0.mk (Kd.R_lower ho10 (below_size q12_))
  have n1_:=Aside0.mk (blk_below (g:=gb116) (o:=.cells #[.bool true,.string a0_1,.int .i64 a0_2,.string a0_3] 145 (0,0)) q32_ hb)
  have n2_:=Aside0.mk (below_step q12_ hb)
  clear BK116
  clear HB
  have HO120:=n0_
  have BK116:=n1_
  have HB:=n2_
  clear n0_ n1_ n2_
  clear hb ho10
  obtain ⟨Ao11,co11,eo11⟩:=Kd.R_slice HO120.out
  (first | subst eo11 | (injection eo11 with f1_ f2_ f3_;have f4_:=f1_.symm;have f5_:=f3_.symm;clear f1_ f2_ f3_;subst f4_;subst f5_))
  refine hK.out _ _ ⟨(blk_cell BK116.out 0).trans rfl,(blk_cell BK116.out 1).trans rfl,(blk_cell BK116.out 2).trans rfl,(blk_cell BK116.out 3).trans rfl⟩ (fun hHeld=>?_)
  clear hK K
  refine norm_ (a':=?_) ?_ ?_
  rotate_left
  ·show Act.put _ (some 14) _=_
   simp only [Act.put,List.setIfInBounds_toArray,List.set_cons_zero,List.set_cons_succ,i64_w,i32_w]
   rfl
  refine oT_ 9 (some 15) fun K hK=>?_
  refine goes_ Tryz.func145 (by kernel_rfl) rfl #[.slice Ao11 y118.length co11,.string (⟨#[32]⟩ : ByteArray)] (by rfl) rfl rfl q7_ ?_
  with_reducible refine (strings_Join.calls _ _ y118 (⟨#[32]⟩ : ByteArray) t121 _ ?side1 ?side2 A4.out).mono ?_
  (case side1=>repeat (first | exact (Kd.R_reads' HO120.out).2.2 | (with_reducible refine Kd.C_alloc ?_ _) | (with_reducible refine Kd.C_drewN ?_ _) | (with_reducible refine Kd.C_drew ?_)))
  (case side2=>exact (Kd.R_reads' HO120.out).2.1)
  rintro e w12 ⟨rfl,hb⟩
  refine ⟨_,rfl,?_⟩
  have n0_:=Aside0.mk (Kd.R_below (by (with_reducible repeat (first | apply Kd.R_alloc | apply Kd.R_drewN | apply Kd.R_drew));exact HO120.out) hb)
  have n1_:=Aside0.mk (blk_below (g:=gb116) (o:=.cells #[.bool true,.string a0_1,.int .i64 a0_2,.string a0_3] 145 (0,0)) q32_ hb)
  have n2_:=Aside0.mk (below_step q12_ hb)
  clear HO120
  clear BK116
  clear HB
  have HO120:=n0_
  have BK116:=n1_
  have HB:=n2_
  clear n0_ n1_ n2_
  (try clear hb)
  (try clear hb2)
  (try clear hk)
  (try clear hi)
  refine hK.out _ _ ⟨(blk_cell BK116.out 0).trans rfl,(blk_cell BK116.out 1).trans rfl,(blk_cell BK116.out 2).trans rfl,(blk_cell BK116.out 3).trans rfl⟩ (fun hHeld=>?_)
  clear hK K
  refine norm_ (a':=?_) ?_ ?_
  rotate_left
  ·show Act.put _ (some 15) _=_
   simp only [Act.put,List.setIfInBounds_toArray,List.set_cons_zero,List.set_cons_succ,i64_w,i32_w]
   rfl
  refine pT_ 10 (some 2) ?_
  refine done_ (done_of HT_.out (by kernel_rfl)) ?_
  try go_wp2
  go_ret
  exact ⟨q3_,q12_⟩
 ·replace c2:=Bool.eq_false_iff.mpr c2
  subst c2
  have H1 : ((acl_class.f a0_2).bind fun t122=>((strings_Join.f (([(⟨#[100,101,110,121]⟩ : ByteArray),a0_1,t122,a0_3] : List ByteArray)) (⟨#[32]⟩ : ByteArray)).bind fun t126=>(some t126)))=some r:=q20_
  clear H
  have H:=H1
  clear H1
  replace H:=Option.bind_eq_some_iff.mp H
  obtain ⟨t122,A130,H⟩:=H
  replace H : ((strings_Join.f (([(⟨#[100,101,110,121]⟩ : ByteArray),a0_1,t122,a0_3] : List ByteArray)) (⟨#[32]⟩ : ByteArray)).bind fun t126=>(some t126))=some r:=H
  have A13:=Aside0.mk A130
  clear A130
  obtain ⟨y123,hy123⟩ : ∃ y_ : List ByteArray,y_=(([(⟨#[100,101,110,121]⟩ : ByteArray),a0_1,t122,a0_3] : List ByteArray)):=⟨_,rfl⟩
  replace H : ((strings_Join.f y123 (⟨#[32]⟩ : ByteArray)).bind fun t126=>(some t126))=some r:=by first | (rw [hy123];with_reducible exact H) | (have H2_:=(Option.bind_some _ _).symm.trans H;rw [hy123];with_reducible exact H2_) | (have H2_:=(Option.bind_some _ _).symm.trans H;with_reducible exact H2_) | with_reducible exact H | (rw [hy123];exact H) | exact H
  have Ny123:=Aside0.mk hy123
  clear hy123
  replace H:=Option.bind_eq_some_iff.mp H
  obtain ⟨t126,A140,H⟩:=H
  replace H : (some t126)=some r:=H
  have A14:=Aside0.mk A140
  clear A140
  obtain rfl:=Option.some.inj H
  go_enter Tryz.func112,Tryz.ntmps112
  try go_wp2_with (first | ((with_reducible refine gate_dst (N:=1) rfl ?_);refine box_event ?hg (N:=1) ?hd (cs:=#[.bool false,.string a0_1,.int .i64 a0_2,.string a0_3]) (t:=145) ?hr ?_;(case hd=>rfl);(case hg=>rfl);(case hr=>first | (go_simp;done) | (go_simp;rfl));intro gb116 hg w15 hbox hb;have n0_:=Aside0.mk (below_step q1_ hb);have n1_:=Aside0.mk (hbox);have n2_:=Aside0.mk ((by rw [hg];exact (below_size q1_) : w.heap.size ≤ gb116));have n3_:=Aside0.mk ((by rw [hg];exact (below_size q1_) : w.heap.size ≤ gb116));clear HB;have HB:=n0_;have BK116:=n1_;have GW116:=n2_;have GE116:=n3_;clear n0_ n1_ n2_ n3_;clear hb hbox hg;have hcz16_0 : w15.cell? ⟨gb116,0,none⟩=some (.bool false):=(blk_cell BK116.out 0).trans rfl;have hcz16_1 : w15.cell? ⟨gb116,1,none⟩=some (.string a0_1):=(blk_cell BK116.out 1).trans rfl;have hcz16_2 : w15.cell? ⟨gb116,2,none⟩=some (.int .i64 a0_2):=(blk_cell BK116.out 2).trans rfl;have hcz16_3 : w15.cell? ⟨gb116,3,none⟩=some (.string a0_3):=(blk_cell BK116.out 3).trans rfl;have hfz16_0:=blk_frozen BK116.out 0;have hfz16_1:=blk_frozen BK116.out 1;have hfz16_2:=blk_frozen BK116.out 2;have hfz16_3:=blk_frozen BK116.out 3))
  have n0_:=Aside0.mk (blk_drew BK116.out)
  have n1_:=Aside0.mk (below_drew1 HB.out)
  clear BK116
  clear HB
  have BK116:=n0_
  have HB:=n1_
  clear n0_ n1_
  refine start_ (n:=11) (S:=fun w'=>w'.cell? ⟨gb116,0,none⟩=some (.bool false)∧w'.cell? ⟨gb116,1,none⟩=some (.string a0_1)∧w'.cell? ⟨gb116,2,none⟩=some (.int .i64 a0_2)∧w'.cell? ⟨gb116,3,none⟩=some (.string a0_3)) (ds:=[]) _ (by kernel_rfl) rfl rfl ⟨(blk_cell BK116.out 0).trans rfl,(blk_cell BK116.out 1).trans rfl,(blk_cell BK116.out 2).trans rfl,(blk_cell BK116.out 3).trans rfl⟩ (fun hHeld=>?_);refine with_tabW acl_line.tab4 acl_line.bits4 (fun HT_ HW_=>?_)
  generalize w15.drew=w17 at BK116 HB hHeld ⊢
  refine pT_ 0 (some 6) ?_
  refine pT_ 1 (some 7) ?_
  refine pT_ 3 (some 9) ?_
  refine pT_ 6 (some 12) ?_
  refine take_ (i:=2) (N:=some 8) (v:=?_) (a':=?_) #[true,true,true,true,false,false,true,false,false,false,false] rfl rfl (take_ofW HT_.out HW_.out (by kernel_rfl)) (fun _ _ _ h=>h) (Or.inl ⟨by rfl,?_⟩) hHeld ?_ ?_
  rotate_left
  ·rintro w' ⟨s0,s1,s2,s3⟩
   go_simp
   with_reducible rfl
  rotate_left
  ·simp only [Act.put,List.setIfInBounds_toArray,List.set_cons_zero,List.set_cons_succ,i64_w,i32_w]
   rfl
  refine take_ (i:=4) (N:=some 10) (v:=?_) (a':=?_) #[true,true,true,true,true,false,true,false,false,false,false] rfl rfl (take_ofW HT_.out HW_.out (by kernel_rfl)) (fun _ _ _ h=>h) (Or.inl ⟨by rfl,?_⟩) hHeld ?_ ?_
  rotate_left
  ·rintro w' ⟨s0,s1,s2,s3⟩
   go_simp
   with_reducible rfl
  rotate_left
  ·simp only [Act.put,List.setIfInBounds_toArray,List.set_cons_zero,List.set_cons_succ,i64_w,i32_w]
   rfl
  refine take_ (i:=7) (N:=some 13) (v:=?_) (a':=?_) #[true,true,true,true,true,false,true,true,false,false,false] rfl rfl (take_ofW HT_.out HW_.out (by kernel_rfl)) (fun _ _ _ h=>h) (Or.inl ⟨by rfl,?_⟩) hHeld ?_ ?_
  rotate_left
  ·rintro w' ⟨s0,s1,s2,s3⟩
   go_simp
   with_reducible rfl
  rotate_left
  ·simp only [Act.put,List.setIfInBounds_toArray,List.set_cons_zero,List.set_cons_succ,i64_w,i32_w]
   rfl
  refine oT_ 5 (some 11) fun K hK=>?_
  refine goes_ Tryz.func146 (by kernel_rfl) rfl #[.int .i64 a0_2] (by rfl) rfl rfl q7_ ?_
  ((with_reducible refine (acl_class.calls a0_2 t122 _ A13.out ?sideL).mono ?_);(case sideL=>exact HLd.out _ q1_))
  rintro e w18 ⟨rfl,hb⟩
  refine ⟨_,rfl,?_⟩
  have n0_:=Aside0.mk (blk_below (g:=gb116) (o:=.cells #[.bool false,.string a0_1,.int .i64 a0_2,.string a0_3] 145 (0,0)) q32_ hb)
  have n1_:=Aside0.mk (below_step q12_ hb)
  clear BK116
  clear HB
  have BK116:=n0_
  have HB:=n1_
  clear n0_ n1_
  (try clear hb)
  (try clear hb2)
  (try clear hk)
  (try clear hi)
  refine hK.out _ _ ⟨(blk_cell BK116.out 0).trans rfl,(blk_cell BK116.out 1).trans rfl,(blk_cell BK116.out 2).trans rfl,(blk_cell BK116.out 3).trans rfl⟩ (fun hHeld=>?_)
  clear hK K
  refine norm_ (a':=?_) ?_ ?_
  rotate_left
  ·show Act.put _ (some 11) _=_
   simp only [Act.put,List.setIfInBounds_toArray,List.set_cons_zero,List.set_cons_succ,i64_w,i32_w]
   rfl
  refine oT_ 8 (some 14) fun K hK=>?_
  refine Kd.R_lit_step Kd.string _ 9 ?hg (N:=14) ?hd (xs:=([(⟨#[100,101,110,121]⟩ : ByteArray),a0_1,t122,a0_3] : List ByteArray)) (inner:=[.string (⟨#[100,101,110,121]⟩ : ByteArray),.string a0_1,.string t122,.string a0_3]) (ok:=fun _=>True) (okp:=fun _=>True) ?hr ?hp (fun _ hk=>hk) trivial (Below.refl _ _) (Nat.le_refl _) (by simp) ?_;(case hd=>rfl);(case hg=>rfl);(case hr=>first | (go_simp;done) | (go_simp;rfl));(case hp=>exact (Reps.one (show Kd.M Kd.string _ _ _ (⟨#[100,101,110,121]⟩ : ByteArray) [.string (⟨#[100,101,110,121]⟩ : ByteArray)] from rfl) (Reps.one (show Kd.M Kd.string _ _ _ a0_1 [.string a0_1] from rfl) (Reps.one (show Kd.M Kd.string _ _ _ t122 [.string t122] from rfl) (Reps.one (show Kd.M Kd.string _ _ _ a0_3 [.string a0_3] from rfl) (Reps.none _ _))))))
  intro v124 w19 ho20 hb hg_ hnew_
  clear hg_ hnew_
  (first | rw [← Ny123.out] at ho20 | (simp only [Int.reduceToNat] at ho20;rw [← Ny123.out] at ho20))
  have n0_:=Aside0.mk (Kd.R_lower ho20 (below_size q12_))
  have n1_:=Aside0.mk (blk_below (g:=gb116) (o:=.cells #[.bool false,.string a0_1,.int .i64 a0_2,.string a0_3] 145 (0,0)) q32_ hb)
  have n2_:=Aside0.mk (below_step q12_ hb)
  clear BK116
  clear HB
  have HO125:=n0_
  have BK116:=n1_
  have HB:=n2_
  clear n0_ n1_ n2_
  clear hb ho20
  obtain ⟨Ao21,co21,eo21⟩:=Kd.R_slice HO125.out
  (first | subst eo21 | (injection eo21 with f1_ f2_ f3_;have f4_:=f1_.symm;have f5_:=f3_.symm;clear f1_ f2_ f3_;subst f4_;subst f5_))
  refine hK.out _ _ ⟨(blk_cell BK116.out 0).trans rfl,(blk_cell BK116.out 1).trans rfl,(blk_cell BK116.out 2).trans rfl,(blk_cell BK116.out 3).trans rfl⟩ (fun hHeld=>?_)
  clear hK K
  refine norm_ (a':=?_) ?_ ?_
  rotate_left
  ·show Act.put _ (some 14) _=_
   simp only [Act.put,List.setIfInBounds_toArray,List.set_cons_zero,List.set_cons_succ,i64_w,i32_w]
   rfl
  refine oT_ 9 (some 15) fun K hK=>?_
  refine goes_ Tryz.func145 (by kernel_rfl) rfl #[.slice Ao21 y123.length co21,.string (⟨#[32]⟩ : ByteArray)] (by rfl) rfl rfl q7_ ?_
  with_reducible refine (strings_Join.calls _ _ y123 (⟨#[32]⟩ : ByteArray) t126 _ ?side1 ?side2 A14.out).mono ?_
  (case side1=>repeat (first | exact (Kd.R_reads' HO125.out).2.2 | (with_reducible refine Kd.C_alloc ?_ _) | (with_reducible refine Kd.C_drewN ?_ _) | (with_reducible refine Kd.C_drew ?_)))
  (case side2=>exact (Kd.R_reads' HO125.out).2.1)
  rintro e w22 ⟨rfl,hb⟩
  refine ⟨_,rfl,?_⟩
  have n0_:=Aside0.mk (Kd.R_below (by (with_reducible repeat (first | apply Kd.R_alloc | apply Kd.R_drewN | apply Kd.R_drew));exact HO125.out) hb)
  have n1_:=Aside0.mk (blk_below (g:=gb116) (o:=.cells #[.bool false,.string a0_1,.int .i64 a0_2,.string a0_3] 145 (0,0)) q32_ hb)
  have n2_:=Aside0.mk (below_step q12_ hb)
  clear HO125
  clear BK116
  clear HB
  have HO125:=n0_
  have BK116:=n1_
  have HB:=n2_
  clear n0_ n1_ n2_
  (try clear hb)
  (try clear hb2)
  (try clear hk)
  (try clear hi)
  refine hK.out _ _ ⟨(blk_cell BK116.out 0).trans rfl,(blk_cell BK116.out 1).trans rfl,(blk_cell BK116.out 2).trans rfl,(blk_cell BK116.out 3).trans rfl⟩ (fun hHeld=>?_)
  clear hK K
  refine norm_ (a':=?_) ?_ ?_
  rotate_left
  ·show Act.put _ (some 15) _=_
   simp only [Act.put,List.setIfInBounds_toArray,List.set_cons_zero,List.set_cons_succ,i64_w,i32_w]
   rfl
  refine pT_ 10 (some 2) ?_
  refine done_ (done_of HT_.out (by kernel_rfl)) ?_
  try go_wp2
  go_ret
  exact ⟨q3_,q12_⟩
end Go.Proofs.YtkekohmkaefdnaaGreatDoor.Pa
