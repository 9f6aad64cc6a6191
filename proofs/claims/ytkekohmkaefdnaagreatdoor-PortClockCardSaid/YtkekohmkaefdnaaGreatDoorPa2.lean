
import Derived.Test.YtkekohmkaefdnaaGreatDoorPa0
import Derived.Test.YtkekohmkaefdnaaGreatDoorPa1
namespace Go.Proofs.YtkekohmkaefdnaaGreatDoor.Pa
open Go.RowKit Go.Proofs.YtkekohmkaefdnaaGreatDoorW.PrintWords Go.Proofs.YtkekohmkaefdnaaGreatDoorW.PrintLast Go.Proofs.YtkekohmkaefdnaaGreatDoorW.PrintMore
attribute [local go_sem] max2_int min2_int max_two min_two max_three min_three max_four min_four
set_option linter.unusedVariables false
set_option linter.unusedSimpArgs false
/-! ### glob_Match: function 147 -/
mutual
def glob_Match.l0 : Nat→ByteArray→List Bool→List (S294)→Int→Int→Option (Bool)
 | 0,_,_,_,_,_=>none
 | k + 1,x1,x7,x25,x26,x27=>if x27 < x26 then (if 0 ≤ x27 then (if x27 < (x25.length : Int) then (if 0 ≤ (wrap64 ((x1.size : Int) + 1)) then (if (wrap64 ((x1.size : Int) + 1) : Int).toNat ≤ 281474976710656 then ((some (List.replicate (wrap64 ((x1.size : Int) + 1) : Int).toNat false : List Bool)).bind fun y138=>(glob_Match.l1 k x1 x7 y138 x25 x26 x27 (y138.length : Int) 0 ((rd_T294 x25 x27).f0) ((rd_T294 x25 x27).f1))) else (none)) else (none)) else (none)) else (none)) else (if 0 ≤ (x1.size : Int) then (if (x1.size : Int) < (x7.length : Int) then (some (rdOf false x7 (x1.size : Int))) else (none)) else (none))
def glob_Match.l1 : Nat→ByteArray→List Bool→List Bool→List (S294)→Int→Int→Int→Int→Int→Int→Option (Bool)
 | 0,_,_,_,_,_,_,_,_,_,_=>none
 | k + 1,x1,x7,x10,x25,x26,x27,x36,x37,x138000,x138001=>if x37 < x36 then (if x138000=42 then (if 0 ≤ x37 then (if x37 < (x7.length : Int) then (if rdOf false x7 x37=true then (if x37 < (x10.length : Int) then (glob_Match.l1 k x1 x7 (x10.set (x37 : Int).toNat true) x25 x26 x27 x36 (wrap64 (x37 + 1)) x138000 x138001) else (none)) else (if x37 > 0 then (if 0 ≤ (wrap64 (x37 - 1)) then (if (wrap64 (x37 - 1)) < (x10.length : Int) then (if x37 < (x10.length : Int) then (glob_Match.l1 k x1 x7 (x10.set (x37 : Int).toNat (rdOf false x10 (wrap64 (x37 - 1)))) x25 x26 x27 x36 (wrap64 (x37 + 1)) x138000 x138001) else (none)) else (none)) else (none)) else (if x37 < (x10.length : Int) then (glob_Match.l1 k x1 x7 (x10.set (x37 : Int).toNat false) x25 x26 x27 x36 (wrap64 (x37 + 1)) x138000 x138001) else (none)))) else (none)) else (none)) else (if x138000=63 then (if x37 > 0 then (if 0 ≤ (wrap64 (x37 - 1)) then (if (wrap64 (x37 - 1)) < (x7.length : Int) then (if 0 ≤ x37 then (if x37 < (x10.length : Int) then (glob_Match.l1 k x1 x7 (x10.set (x37 : Int).toNat (rdOf false x7 (wrap64 (x37 - 1)))) x25 x26 x27 x36 (wrap64 (x37 + 1)) x138000 x138001) else (none)) else (none)) else (none)) else (none)) else (if 0 ≤ x37 then (if x37 < (x10.length : Int) then (glob_Match.l1 k x1 x7 (x10.set (x37 : Int).toNat false) x25 x26 x27 x36 (wrap64 (x37 + 1)) x138000 x138001) else (none)) else (none))) else (if x37 > 0 then (if 0 ≤ (wrap64 (x37 - 1)) then (if (wrap64 (x37 - 1)) < (x7.length : Int) then (if rdOf false x7 (wrap64 (x37 - 1))=true then (if (wrap64 (x37 - 1)) < (x1.size : Int) then (if 0 ≤ x37 then (if x37 < (x10.length : Int) then (glob_Match.l1 k x1 x7 (x10.set (x37 : Int).toNat ((bt x1 (wrap64 (x37 - 1))) == x138001)) x25 x26 x27 x36 (wrap64 (x37 + 1)) x138000 x138001) else (none)) else (none)) else (none)) else (if 0 ≤ x37 then (if x37 < (x10.length : Int) then (glob_Match.l1 k x1 x7 (x10.set (x37 : Int).toNat false) x25 x26 x27 x36 (wrap64 (x37 + 1)) x138000 x138001) else (none)) else (none))) else (none)) else (none)) else (if 0 ≤ x37 then (if x37 < (x10.length : Int) then (glob_Match.l1 k x1 x7 (x10.set (x37 : Int).toNat false) x25 x26 x27 x36 (wrap64 (x37 + 1)) x138000 x138001) else (none)) else (none))))) else (glob_Match.l0 k x1 x10 x25 x26 (wrap64 (x27 + 1)))
end
def glob_Match.f (k : Nat) (a0 : ByteArray) (a1 : ByteArray) : Option (Bool):=(glob_pieces.f k a0).bind fun bt127=>(if bt127.2=true then (if 0 ≤ (wrap64 ((a1.size : Int) + 1)) then (if (wrap64 ((a1.size : Int) + 1) : Int).toNat ≤ 281474976710656 then ((some (List.replicate (wrap64 ((a1.size : Int) + 1) : Int).toNat false : List Bool)).bind fun y131=>(if 0 < (y131.length : Int) then (glob_Match.l0 k a1 (y131.set (0 : Int).toNat true) bt127.1 (bt127.1.length : Int) 0) else (none))) else (none)) else (none)) else (some false))
def glob_Match.T14 : Bool × List (List Nat × List Nat):=(true,[([],[]),([],[]),([],[]),([2],[2]),([3],[3]),([4],[4]),([4],[4]),([6,4],[4,6]),([5,7,4],[4,5,7]),([8,4],[4,8]),([4,9],[4,9]),([10,4],[10]),([11],[11]),([11],[11]),([13,11],[11,13]),([12,14,11],[11,12,14]),([11],[11]),([16,11],[11,16]),([15,17,11],[11,15,17]),([11,18],[11,18]),([0,1,0,1,2,3,4,5,6,7,8,9,10,11,12,13,14,15,16,17,18,19],[0,1]),([20,19,11,0,1,2,3,4,5,6,7,8,9,10,11,12,13,14,15,16,17,18,19],[19,20])])
def glob_Match.B14 : List Nat:=[0,0,0,4,12,28,28,92,252,508,1020,2044,4092,4092,12284,32764,4092,69628,262140,524284,1048575,2097151]
theorem glob_Match.tab14 : rtab .any (opsOf Tryz.f147 14)=glob_Match.T14:=by kernel_rfl
theorem glob_Match.bits14 : waitsOk glob_Match.T14.2 glob_Match.B14=true:=by kernel_rfl
set_option maxHeartbeats 8000000 in
set_option maxRecDepth 100000 in
theorem glob_Match.calls (k : Nat) (a0 : ByteArray) (a1 : ByteArray) (r : Bool) (w : World) (h : glob_Match.f k a0 a1=some r) :
  Calls Tryz.prog 147 #[.string a0,.string a1] w fun e w'=>e=.returned (.bool r)∧Below w.heap.size w w':=by
 have hu294:=Tryz.underlying294
 have HB:=Aside0.mk (Below.refl w.heap.size w)
 have H : ((glob_pieces.f k a0).bind fun bt127=>(if bt127.2=true then (if 0 ≤ (wrap64 ((a1.size : Int) + 1)) then (if (wrap64 ((a1.size : Int) + 1) : Int).toNat ≤ 281474976710656 then ((some (List.replicate (wrap64 ((a1.size : Int) + 1) : Int).toNat false : List Bool)).bind fun y131=>(if 0 < (y131.length : Int) then (glob_Match.l0 k a1 (y131.set (0 : Int).toNat true) bt127.1 (bt127.1.length : Int) 0) else (none))) else (none)) else (none)) else (some false)))=some r:=h
 clear h
 replace H:=Option.bind_eq_some_iff.mp H
 obtain ⟨⟨t127,t128⟩,A30,H⟩:=H
 replace H : (if t128=true then (if 0 ≤ (wrap64 ((a1.size : Int) + 1)) then (if (wrap64 ((a1.size : Int) + 1) : Int).toNat ≤ 281474976710656 then ((some (List.replicate (wrap64 ((a1.size : Int) + 1) : Int).toNat false : List Bool)).bind fun y131=>(if 0 < (y131.length : Int) then (glob_Match.l0 k a1 (y131.set (0 : Int).toNat true) t127 (t127.length : Int) 0) else (none))) else (none)) else (none)) else (some false))=some r:=H
 have A3:=Aside0.mk A30
 clear A30
 by_cases c4 : t128=true
 ·subst c4
  have H1 : (if 0 ≤ (wrap64 ((a1.size : Int) + 1)) then (if (wrap64 ((a1.size : Int) + 1) : Int).toNat ≤ 281474976710656 then ((some (List.replicate (wrap64 ((a1.size : Int) + 1) : Int).toNat false : List Bool)).bind fun y131=>(if 0 < (y131.length : Int) then (glob_Match.l0 k a1 (y131.set (0 : Int).toNat true) t127 (t127.length : Int) 0) else (none))) else (none)) else (none))=some r:=q44_
  clear H
  have H:=H1
  clear H1
  obtain ⟨ji5,hji5⟩ : ∃ j_ : Int,(wrap64 ((a1.size : Int) + 1))=j_:=⟨_,rfl⟩
  replace H : (if 0 ≤ (ji5) then (if (ji5 : Int).toNat ≤ 281474976710656 then ((some (List.replicate (ji5 : Int).toNat false : List Bool)).bind fun y131=>(if 0 < (y131.length : Int) then (glob_Match.l0 k a1 (y131.set (0 : Int).toNat true) t127 (t127.length : Int) 0) else (none))) else (none)) else (none))=some r:=by first | (rw [hji5] at H;exact H) | (simp only [hji5] at H ⊢;exact H)
  (try rw [hji5] at A3)
  have hji5w : (IntKind.i64.wrap ((a1.size : Int) + 1))=ji5:=(i64_w _).trans hji5
  by_cases c6 : 0 ≤ (ji5)
  ·rw [if_pos c6] at H
   have c6b0:=eq_true c6
   have c6b1 : decide (0 ≤ (ji5))=true:=decide_eq_true c6
   clear c6
   by_cases c7 : (ji5 : Int).toNat ≤ 281474976710656
   ·rw [if_pos c7] at H
    have c7b0:=eq_true c7
    have c7b1 : decide ((ji5 : Int).toNat ≤ 281474976710656)=true:=decide_eq_true c7
    clear c7
    obtain ⟨y131,hy131⟩ : ∃ y_ : List Bool,y_=(List.replicate (ji5 : Int).toNat false):=⟨_,rfl⟩
    replace H : (if 0 < (y131.length : Int) then (glob_Match.l0 k a1 (y131.set (0 : Int).toNat true) t127 (t127.length : Int) 0) else (none))=some r:=by first | (rw [hy131];with_reducible exact H) | (have H2_:=(Option.bind_some _ _).symm.trans H;rw [hy131];with_reducible exact H2_) | (have H2_:=(Option.bind_some _ _).symm.trans H;with_reducible exact H2_) | with_reducible exact H | (rw [hy131];exact H) | exact H
    have Ny131:=Aside0.mk hy131
    clear hy131
    by_cases c8 : 0 < (y131.length : Int)
    ·rw [if_pos c8] at H
     have c8b0 : decide (0 < (y131.length : Int))=true:=decide_eq_true c8
     have c8b1 : decide (0 < y131.length)=true:=decide_eq_true (by omega)
     clear c8
     obtain ⟨y134,hy134⟩ : ∃ y_ : List Bool,y_=(y131.set (0 : Int).toNat true):=⟨_,rfl⟩
     replace H : (glob_Match.l0 k a1 y134 t127 (t127.length : Int) 0)=some r:=by first | (rw [hy134];with_reducible exact H) | (have H2_:=(Option.bind_some _ _).symm.trans H;rw [hy134];with_reducible exact H2_) | (have H2_:=(Option.bind_some _ _).symm.trans H;with_reducible exact H2_) | with_reducible exact H | (rw [hy134];exact H) | exact H
     have Ny134:=Aside0.mk hy134
     clear hy134
     have H':=Aside0.mk H
     clear H
     go_enter Tryz.func147,Tryz.ntmps147
     go_wp2_with (first | ((with_reducible refine gate_callee (f:=215) rfl ?_);refine goesL_ (some 14) rfl rfl Tryz.func215 (by kernel_rfl) rfl #[.string a0] rfl q7_ ?_;(with_reducible refine (glob_pieces.calls k a0 t127 true _ A3.out).mono ?_);rintro e w10 ⟨v129,rfl,ho0,hb⟩;refine ⟨_,rfl,?_⟩;have n0_:=Aside0.mk (Kd.R_lower ho0 (below_size q1_));have n1_:=Aside0.mk (below_step q1_ hb);clear HB;have HO130:=n0_;have HB:=n1_;clear n0_ n1_;(try clear hb);(try clear hb2);(try clear hk);(try clear hi);(try clear ho0)) | ((with_reducible refine gate_dst (N:=22) rfl ?_);refine Kd.R_make Kd.bool _ 4 rfl (N:=22) rfl 212 _ _ rfl ji5 rfl rfl Tryz.underlying212 (.bool false) 1 info4 rfl (by decide) (by omega) false (ok:=fun _=>True) (okp:=fun _=>True) rfl (fun _ hk=>hk) trivial (of_decide_eq_true q5_) (Nat.le_trans (Nat.mul_le_mul_right _ (of_decide_eq_true q5_ : ji5.toNat ≤ 281474976710656)) (by omega)) (Below.refl _ _) (Nat.le_refl _) ?_;intro v132 w11 ho12 hb hg_ hnew_;clear hg_ hnew_;(first | rw [← Ny131.out] at ho12 | (simp only [Int.reduceToNat] at ho12;rw [← Ny131.out] at ho12));have n0_:=Aside0.mk (Kd.R_below (by (with_reducible repeat (first | apply Kd.R_alloc | apply Kd.R_drewN | apply Kd.R_drew));exact HO130.out) hb);have n1_:=Aside0.mk (Kd.R_lower ho12 (below_size q1_));have n2_:=Aside0.mk (below_step q1_ hb);clear HO130;clear HB;have HO130:=n0_;have HO133:=n1_;have HB:=n2_;clear n0_ n1_ n2_;clear hb ho12;have p9 : 0 ≤ (0 : Int):=(by omega);have q9 : (0 : Int) < ((y131.length : Int) : Int):=of_decide_eq_true q5_;have qi9 : (0 < y131.length)=True:=eq_true (by omega);obtain ⟨go9,co9,eo9,gb9,gl9,cl9,HG9⟩:=Kd.R_form HO133.out (by omega);(first | cases eo9 | (injection eo9 with ea_ en_ ec_;(first | subst ea_ | (injection ea_ with ea_;subst ea_));subst ec_;clear en_));have GB9:=Aside0.mk gb9;have GG9:=Aside0.mk HG9;clear gb9 gl9 HG9;obtain ⟨hx9_0,hf9_0⟩:=Kd.R_celln false HO133.out (0 : Int) p9 q9;(try rw [show ((0 : Int)).toNat=0 from rfl] at hx9_0);(try simp only [Nat.reduceMul,Nat.zero_mul,Nat.zero_add,Nat.reduceAdd] at hx9_0);(try rw [show ((0 : Int)).toNat=0 from rfl] at hf9_0);(try simp only [Nat.reduceMul,Nat.zero_mul,Nat.zero_add,Nat.reduceAdd] at hf9_0);replace p9:=eq_true p9;replace q9:=eq_true q9;obtain ⟨hy13_,hz13_⟩:=Kd.R_celln false HO133.out (0 : Int) (by omega) (of_decide_eq_true q5_);(try simp only [Int.reduceToNat,Int.toNat_zero,Int.toNat_ofNat,Nat.reduceMul,Nat.zero_mul,Nat.zero_add] at hy13_ hz13_);(try rw [show ((0 : Int)).toNat=0 from rfl] at hy13_);(try rw [show ((0 : Int)).toNat=0 from rfl] at hz13_);have HP13:=Kd.R_putg HO133.out (0 : Int) true) | ((with_reducible refine gate_store (t:=4) (p:=24) rfl ?_);refine store_event (t:=4) (p:=24) (v:=?vo_w14) (w1:=(w11.setCell ⟨go9,(0 : Int).toNat,none⟩ (.bool true))) ?hg ?ho ?hn ?hr ?_;(case ho=>rfl);(case hg=>rfl);(case hn=>rfl);(case hr=>first | (go_simp;done) | (go_simp;rfl));intro w14 hw;have hg : w11.grownBy w14 (some go9):=(by rw [hw];exact HP13.2);have hp_ : Kd.R Kd.bool 4 w14 w.heap.size (fun _=>True) (.slice (some ⟨go9,0,none⟩) y131.length co9) y134:=(by rw [hw,Ny134.out];exact HP13.1);clear HP13;have n0_:=Aside0.mk (Kd.R_over' (v:=(.slice (some ⟨go9,0,none⟩) y131.length co9)) (by (with_reducible repeat (first | apply Kd.R_alloc | apply Kd.R_drewN | apply Kd.R_drew));exact HO130.out) (Kd.R_typed HO133.out) (by decide) hg);have n1_:=Aside0.mk (hp_);have n2_:=Aside0.mk ((by rw [hw];exact below_set (HB.out) GB9.out : Below w.heap.size w w14));clear HO130;clear HO133;clear HB;have HO130:=n0_;have HO133:=n1_;have HB:=n2_;clear n0_ n1_ n2_;clear hg hw hp_;obtain ⟨Ao15,co15,eo15⟩:=Kd.R_slice HO130.out;subst eo15))
     go_loopg [7,27] k (fun kq v7 v27 w'=>∃ (x7_1 : List Bool) (x27_1 : Int),v27=.int .i64 x27_1∧Aside0 (glob_Match.l0 kq a1 x7_1 t127 (t127.length : Int) x27_1=some r)∧Aside0 (kq ≤ k)∧Aside0 (Kd.R Kd.bool 4 w' w.heap.size (fun _=>True) v7 x7_1)∧Aside0 (Kd.R k294 294 w' w.heap.size (fun _=>True) (.slice Ao15 t127.length co15) t127)∧Aside0 (Below w.heap.size w w'))
     case atStart=>exact ⟨(y134),(0),q6_,H',⟨Nat.le_refl _⟩,⟨by (with_reducible repeat (first | apply Kd.R_alloc | apply Kd.R_drewN | apply Kd.R_drew));exact HO133.out⟩,⟨by (with_reducible repeat (first | apply Kd.R_alloc | apply Kd.R_drewN | apply Kd.R_drew));exact HO130.out⟩,⟨q1_⟩⟩
     case round=>
      clear H'
      try clear c1
      try clear c2
      try clear p2
      try clear c4
      try clear c6
      try clear c6b0
      try clear c6b1
      try clear p6
      try clear c7
      try clear c7b0
      try clear c7b1
      try clear c8
      try clear c8b0
      try clear c8b1
      try clear p9
      try clear q9
      try clear hx9
      try clear qi9
      try clear hf9
      try clear c14
      try clear hx9_0
      try clear p9
      try clear q9
      obtain ⟨x7_1,x27_1,rfl,HA,HK1,HO_7,HO_25,HB⟩:=hrel
      cases gk with
      | zero=>exact absurd HA.out (by simp [glob_Match.l0])
      | succ k1=>
       have H:=HA.out
       clear HA
       simp only [glob_Match.l0] at H
       by_cases c16 : x27_1 < (t127.length : Int)
       ·rw [if_pos c16] at H
        have c16b0 : decide (x27_1 < (t127.length : Int))=true:=decide_eq_true c16
        clear c16
        by_cases c17 : 0 ≤ x27_1
        ·rw [if_pos c17] at H
         have c17b0 : decide (0 ≤ x27_1)=true:=decide_eq_true c17
         clear c17
         by_cases c18 : x27_1 < (t127.length : Int)
         ·rw [if_pos c18] at H
          have c18b0 : decide (x27_1 < (t127.length : Int))=true:=decide_eq_true c18
          clear c18
          try clear hji5w
          obtain ⟨ji19,hji19⟩ : ∃ j_ : Int,(wrap64 ((a1.size : Int) + 1))=j_:=⟨_,rfl⟩
          replace H : (if 0 ≤ (ji19) then (if (ji19 : Int).toNat ≤ 281474976710656 then ((some (List.replicate (ji19 : Int).toNat false : List Bool)).bind fun y138=>(glob_Match.l1 k1 a1 x7_1 y138 t127 (t127.length : Int) x27_1 (y138.length : Int) 0 ((rd_T294 t127 x27_1).f0) ((rd_T294 t127 x27_1).f1))) else (none)) else (none))=some r:=by first | (rw [hji19] at H;exact H) | (simp only [hji19] at H ⊢;exact H)
          have hji19w : (IntKind.i64.wrap ((a1.size : Int) + 1))=ji19:=(i64_w _).trans hji19
          by_cases c20 : 0 ≤ (ji19)
          ·rw [if_pos c20] at H
           have c20b0:=eq_true c20
           have c20b1 : decide (0 ≤ (ji19))=true:=decide_eq_true c20
           clear c20
           by_cases c21 : (ji19 : Int).toNat ≤ 281474976710656
           ·rw [if_pos c21] at H
            have c21b0:=eq_true c21
            have c21b1 : decide ((ji19 : Int).toNat ≤ 281474976710656)=true:=decide_eq_true c21
            clear c21
            obtain ⟨y138,hy138⟩ : ∃ y_ : List Bool,y_=(List.replicate (ji19 : Int).toNat false):=⟨_,rfl⟩
            replace H : (glob_Match.l1 k1 a1 x7_1 y138 t127 (t127.length : Int) x27_1 (y138.length : Int) 0 ((rd_T294 t127 x27_1).f0) ((rd_T294 t127 x27_1).f1))=some r:=by first | (rw [hy138];with_reducible exact H) | (have H2_:=(Option.bind_some _ _).symm.trans H;rw [hy138];with_reducible exact H2_) | (have H2_:=(Option.bind_some _ _).symm.trans H;with_reducible exact H2_) | with_reducible exact H | (rw [hy138];exact H) | exact H
            have Ny138:=Aside0.mk hy138
            clear hy138
            have H':=Aside0.mk H
            clear H
            have p136 : 0 ≤ (x27_1 : Int):=of_decide_eq_true q5_
            have q136 : x27_1 < (t127.length : Int):=of_decide_eq_true q5_
            obtain ⟨ad136,e136,hx136_0,hx136_1⟩:=at_T294 (Kd.R_reads' HO_25.out).2.2 x27_1 p136 q136
            cases e136
            replace p136:=eq_true p136
            replace q136:=eq_true q136
            go_wp2_with (first | ((with_reducible refine gate_dst (N:=9) rfl ?_);refine box_event ?hg (N:=9) ?hd (cs:=#[.int .u8 0,.int .u8 0]) (t:=294) ?hr ?_;(case hd=>rfl);(case hg=>rfl);(case hr=>first | (go_simp;done) | (go_simp;rfl));intro gb137 hg w22 hbox hb;have n0_:=Aside0.mk (Kd.R_below (by (with_reducible repeat (first | apply Kd.R_alloc | apply Kd.R_drewN | apply Kd.R_drew));exact HO_7.out) hb);have n1_:=Aside0.mk (Kd.R_below (Kd.R_elderB q36_ gb137 (Nat.le_of_eq hg.symm)) hb);have n2_:=Aside0.mk (below_step q1_ hb);have n3_:=Aside0.mk (hbox);have n4_:=Aside0.mk ((by rw [hg];exact (below_size q1_) : w.heap.size ≤ gb137));have n5_:=Aside0.mk ((by rw [hg];exact (below_size q1_) : w.heap.size ≤ gb137));clear HO_7;clear HO_25;clear HB;have HO_7:=n0_;have HO_25:=n1_;have HB:=n2_;have BK137:=n3_;have GW137:=n4_;have GE137:=n5_;clear n0_ n1_ n2_ n3_ n4_ n5_;clear hb hbox hg;have hcz23_0 : w22.cell? ⟨gb137,0,none⟩=some (.int .u8 0):=(blk_cell BK137.out 0).trans rfl;have hcz23_1 : w22.cell? ⟨gb137,1,none⟩=some (.int .u8 0):=(blk_cell BK137.out 1).trans rfl;have hfz23_0:=blk_frozen BK137.out 0;have hfz23_1:=blk_frozen BK137.out 1) | ((with_reducible refine gate_dst (N:=34) rfl ?_);refine Kd.R_make Kd.bool _ 4 rfl (N:=34) rfl 212 _ _ rfl ji19 rfl rfl Tryz.underlying212 (.bool false) 1 info4 rfl (by decide) (by omega) false (ok:=fun _=>True) (okp:=fun _=>True) rfl (fun _ hk=>hk) trivial (of_decide_eq_true q5_) (Nat.le_trans (Nat.mul_le_mul_right _ (of_decide_eq_true q5_ : ji19.toNat ≤ 281474976710656)) (by omega)) (Below.refl _ _) (Nat.le_refl _) ?_;intro v139 w24 ho25 hb hg_ hnew_;clear hg_ hnew_;(first | rw [← Ny138.out] at ho25 | (simp only [Int.reduceToNat] at ho25;rw [← Ny138.out] at ho25));have n0_:=Aside0.mk (Kd.R_elder' (by (with_reducible repeat (first | apply Kd.R_alloc | apply Kd.R_drewN | apply Kd.R_drew));exact (Kd.R_mono (Kd.R_far (p:=⟨gb137,1,none⟩) (Kd.R_far (p:=⟨gb137,0,none⟩) (Kd.R_types HO_7.out BK137.out (by decide)) (fun _ hk=>hk.2) (.int .u8 ((rd_T294 t127 x27_1).f0))) (fun _ hk=>hk.2) (.int .u8 ((rd_T294 t127 x27_1).f1))) (fun _ h_=>h_.1))) (Kd.R_base ho25) hb);have n1_:=Aside0.mk (Kd.R_below (by (with_reducible repeat (first | apply Kd.R_alloc | apply Kd.R_drewN | apply Kd.R_drew));exact (Kd.R_mono (Kd.R_far (p:=⟨gb137,1,none⟩) (Kd.R_far (p:=⟨gb137,0,none⟩) (Kd.R_mono HO_25.out (fun k_ hk=>(⟨hk,hk.2⟩ : _∧k_ ≠ gb137))) (fun _ hk=>hk.2) (.int .u8 ((rd_T294 t127 x27_1).f0))) (fun _ hk=>hk.2) (.int .u8 ((rd_T294 t127 x27_1).f1))) (fun _ h_=>h_.1))) hb);have n2_:=Aside0.mk (Kd.R_lower (Kd.R_new' ho25 (Kd.R_lt (by (with_reducible repeat (first | apply Kd.R_alloc | apply Kd.R_drewN | apply Kd.R_drew));exact (Kd.R_mono (Kd.R_far (p:=⟨gb137,1,none⟩) (Kd.R_far (p:=⟨gb137,0,none⟩) (Kd.R_types HO_7.out BK137.out (by decide)) (fun _ hk=>hk.2) (.int .u8 ((rd_T294 t127 x27_1).f0))) (fun _ hk=>hk.2) (.int .u8 ((rd_T294 t127 x27_1).f1))) (fun _ h_=>h_.1))))) (below_size q14_));have n3_:=Aside0.mk (blk_below (g:=gb137) (o:=.cells #[.int .u8 ((rd_T294 t127 x27_1).f0),.int .u8 ((rd_T294 t127 x27_1).f1)] 294 (0,0)) (by (with_reducible repeat (first | refine blk_drewN ?_ _ | refine blk_drew ?_ | refine blk_alloc ?_ _));refine blk_put (cs:=#[.int .u8 ((rd_T294 t127 x27_1).f0),.int .u8 0]) ?_ 1 _ rfl;(with_reducible repeat (first | refine blk_drewN ?_ _ | refine blk_drew ?_ | refine blk_alloc ?_ _));refine blk_put (cs:=#[.int .u8 0,.int .u8 0]) ?_ 0 _ rfl;(with_reducible repeat (first | refine blk_drewN ?_ _ | refine blk_drew ?_ | refine blk_alloc ?_ _));exact BK137.out) hb);have n4_:=Aside0.mk (below_step q14_ hb);clear HO_7;clear HO_25;clear BK137;clear HB;have HO_7:=n0_;have HO_25:=n1_;have HO140:=n2_;have BK137:=n3_;have HB:=n4_;clear n0_ n1_ n2_ n3_ n4_;clear hb ho25;obtain ⟨Ao26,co26,eo26⟩:=Kd.R_slice HO140.out;subst eo26))
            go_loopg [37] k1 (fun kq v37 w'=>∃ (x10_2 : List Bool) (x37_2 : Int),v37=.int .i64 x37_2∧Aside0 (glob_Match.l1 kq a1 x7_1 x10_2 t127 (t127.length : Int) x27_1 (y138.length : Int) x37_2 ((rd_T294 t127 x27_1).f0) ((rd_T294 t127 x27_1).f1)=some r)∧Aside0 (kq ≤ k1)∧Aside0 (Kd.R Kd.bool 4 w' w.heap.size (fun k_=>some k_ ≠ ((.slice Ao26 y138.length co26) : Value).ownBlock) u7 x7_1)∧Aside0 (Kd.R Kd.bool 4 w' w.heap.size (fun k_=>some k_ ≠ (u7 : Value).ownBlock) (.slice Ao26 y138.length co26) x10_2)∧Aside0 (Kd.R k294 294 w' w.heap.size (fun k_=>k_ ≠ gb137) (.slice (some ad136) t127.length co15) t127)∧Aside0 (w'.heap[gb137]? = some (.cells #[.int .u8 ((rd_T294 t127 x27_1).f0),.int .u8 ((rd_T294 t127 x27_1).f1)] 294 (0,0)))∧Aside0 (Below w.heap.size w w'))
            case atStart=>exact ⟨(y138),(0),q6_,H',⟨Nat.le_refl _⟩,⟨by (with_reducible repeat (first | apply Kd.R_alloc | apply Kd.R_drewN | apply Kd.R_drew));exact Kd.R_mono HO_7.out (fun _ hk=>hk.2)⟩,⟨by (with_reducible repeat (first | apply Kd.R_alloc | apply Kd.R_drewN | apply Kd.R_drew));exact Kd.R_mono HO140.out (fun _ hk=>hk.2)⟩,⟨by (with_reducible repeat (first | apply Kd.R_alloc | apply Kd.R_drewN | apply Kd.R_drew));exact Kd.R_mono HO_25.out (fun _ hk=>hk.2)⟩,⟨q31_⟩,⟨q14_⟩⟩
            case round=>
             clear H'
             try clear c1
             try clear p1
             try clear q1
             try clear hx1
             try clear c2
             try clear p2
             try clear c4
             try clear c6
             try clear c6b0
             try clear c6b1
             try clear p6
             try clear c7
             try clear c7b0
             try clear c7b1
             try clear c8
             try clear c8b0
             try clear c8b1
             try clear p9
             try clear q9
             try clear hx9
             try clear qi9
             try clear hf9
             try clear p13
             try clear q13
             try clear hx13
             try clear c14
             try clear c16
             try clear c16b0
             try clear c17
             try clear c17b0
             try clear c18
             try clear c18b0
             try clear c20
             try clear c20b0
             try clear c20b1
             try clear c21
             try clear c21b0
             try clear c21b1
             try clear hcz23_0
             try clear hcz23_1
             try clear hfz23_0
             try clear hfz23_1
             try clear hx136_0
             try clear hx136_1
             try clear hx9_0
             try clear p136
             try clear p2
             try clear p6
             try clear p9
             try clear q136
             try clear q9
             obtain ⟨x10_2,x37_2,rfl,HA,HK2,HO_7,HO_10,HO_25,BK137,HB⟩:=hrel
             have hl10_2:=(Kd.R_reads' HO_10.out).1
             rw [hl10_2] at HO_10
             (try simp only [hl10_2])
             (try simp only [hl10_2] at BK137)
             (try simp only [hl10_2] at HO_7)
             (try simp only [hl10_2] at HO_25)
             cases gk with
             | zero=>exact absurd HA.out (by simp [glob_Match.l1])
             | succ k2=>
              have H:=HA.out
              clear HA
              simp only [glob_Match.l1] at H
              by_cases c27 : x37_2 < (y138.length : Int)
              ·rw [if_pos c27] at H
               have c27b0 : decide (x37_2 < (y138.length : Int))=true:=decide_eq_true c27
               clear c27
               by_cases c28 : ((rd_T294 t127 x27_1).f0)=42
               ·rw [if_pos c28] at H
                have c28b0 : (((rd_T294 t127 x27_1).f0) == 42)=true:=beq_iff_eq.mpr c28
                have c28b1 : (((rd_T294 t127 x27_1).f0) != 42)=false:=bne_eq_false_iff_eq.mpr c28
                clear c28
                by_cases c29 : 0 ≤ x37_2
                ·rw [if_pos c29] at H
                 have c29b0 : decide (0 ≤ x37_2)=true:=decide_eq_true c29
                 clear c29
                 by_cases c30 : x37_2 < (x7_1.length : Int)
                 ·rw [if_pos c30] at H
                  have c30b0 : decide (x37_2 < (x7_1.length : Int))=true:=decide_eq_true c30
                  clear c30
                  obtain ⟨bq31,hbq31⟩ : ∃ b_ : Bool,b_=(rdOf false x7_1 x37_2):=⟨_,rfl⟩
                  replace H : (if bq31=true then (if x37_2 < (x10_2.length : Int) then (glob_Match.l1 k2 a1 x7_1 (x10_2.set (x37_2 : Int).toNat true) t127 (t127.length : Int) x27_1 (y138.length : Int) (wrap64 (x37_2 + 1)) ((rd_T294 t127 x27_1).f0) ((rd_T294 t127 x27_1).f1)) else (none)) else (if x37_2 > 0 then (if 0 ≤ (wrap64 (x37_2 - 1)) then (if (wrap64 (x37_2 - 1)) < (x10_2.length : Int) then (if x37_2 < (x10_2.length : Int) then (glob_Match.l1 k2 a1 x7_1 (x10_2.set (x37_2 : Int).toNat (rdOf false x10_2 (wrap64 (x37_2 - 1)))) t127 (t127.length : Int) x27_1 (y138.length : Int) (wrap64 (x37_2 + 1)) ((rd_T294 t127 x27_1).f0) ((rd_T294 t127 x27_1).f1)) else (none)) else (none)) else (none)) else (if x37_2 < (x10_2.length : Int) then (glob_Match.l1 k2 a1 x7_1 (x10_2.set (x37_2 : Int).toNat false) t127 (t127.length : Int) x27_1 (y138.length : Int) (wrap64 (x37_2 + 1)) ((rd_T294 t127 x27_1).f0) ((rd_T294 t127 x27_1).f1)) else (none))))=some r:=by rw [← hbq31] at H;exact H
                  have Nbq31:=Aside0.mk hbq31
                  clear hbq31
                  by_cases c32 : bq31=true
                  ·subst c32
                   have H1 : (if x37_2 < (x10_2.length : Int) then (glob_Match.l1 k2 a1 x7_1 (x10_2.set (x37_2 : Int).toNat true) t127 (t127.length : Int) x27_1 (y138.length : Int) (wrap64 (x37_2 + 1)) ((rd_T294 t127 x27_1).f0) ((rd_T294 t127 x27_1).f1)) else (none))=some r:=q44_
                   clear H
                   have H:=H1
                   clear H1
                   by_cases c33 : x37_2 < (x10_2.length : Int)
                   ·rw [if_pos c33] at H
                    have c33b0 : decide (x37_2 < (x10_2.length : Int))=true:=decide_eq_true c33
                    clear c33
                    obtain ⟨y142,hy142⟩ : ∃ y_ : List Bool,y_=(x10_2.set (x37_2 : Int).toNat true):=⟨_,rfl⟩
                    replace H : (glob_Match.l1 k2 a1 x7_1 y142 t127 (t127.length : Int) x27_1 (y138.length : Int) (wrap64 (x37_2 + 1)) ((rd_T294 t127 x27_1).f0) ((rd_T294 t127 x27_1).f1))=some r:=by first | (rw [hy142];with_reducible exact H) | (have H2_:=(Option.bind_some _ _).symm.trans H;rw [hy142];with_reducible exact H2_) | (have H2_:=(Option.bind_some _ _).symm.trans H;with_reducible exact H2_) | with_reducible exact H | (rw [hy142];exact H) | exact H
                    have Ny142:=Aside0.mk hy142
                    clear hy142
                    have H':=Aside0.mk H
                    clear H
                    have hcz35_0 : wr.cell? ⟨gb137,0,none⟩=some (.int .u8 ((rd_T294 t127 x27_1).f0)):=(blk_cell BK137.out 0).trans rfl
                    have hcz35_1 : wr.cell? ⟨gb137,1,none⟩=some (.int .u8 ((rd_T294 t127 x27_1).f1)):=(blk_cell BK137.out 1).trans rfl
                    have hfz35_0:=blk_frozen BK137.out 0
                    have hfz35_1:=blk_frozen BK137.out 1
                    obtain ⟨Ao36,co36,eo36⟩:=Kd.R_slice HO_7.out
                    subst eo36
                    have p141 : 0 ≤ (x37_2 : Int):=of_decide_eq_true q5_
                    have q141 : x37_2 < (x7_1.length : Int):=of_decide_eq_true q5_
                    obtain ⟨ad141,e141,hx141_0⟩:=Kd.at_bool (Kd.R_reads' HO_7.out).2.2 x37_2 p141 q141
                    (try rw [← Nbq31.out] at hx141_0)
                    cases e141
                    replace p141:=eq_true p141
                    replace q141:=eq_true q141
                    have p34 : 0 ≤ (x37_2 : Int):=of_decide_eq_true q5_
                    have q34 : (x37_2 : Int) < ((x10_2.length : Int) : Int):=of_decide_eq_true q5_
                    obtain ⟨go34,co34,eo34,gb34,gl34,cl34,HG34⟩:=Kd.R_form HO_10.out (by omega)
                    (first | cases eo34 | (injection eo34 with ea_ en_ ec_;(first | subst ea_ | (injection ea_ with ea_;subst ea_));subst ec_;clear en_))
                    have GB34:=Aside0.mk gb34
                    have GG34:=Aside0.mk HG34
                    clear gb34 gl34 HG34
                    obtain ⟨hx34_0,hf34_0⟩:=Kd.R_celln false HO_10.out (x37_2 : Int) p34 q34
                    replace p34:=eq_true p34
                    replace q34:=eq_true q34
                    have HP37:=Kd.R_putg HO_10.out (x37_2 : Int) true
                    go_wp2_with (first | ((with_reducible refine gate_store (t:=4) (p:=82) rfl ?_);refine store_event (t:=4) (p:=82) (v:=?vo_w38) (w1:=(wr.setCell ⟨go34,(x37_2 : Int).toNat,none⟩ (.bool true))) ?hg ?ho ?hn ?hr ?_;(case ho=>rfl);(case hg=>rfl);(case hn=>rfl);(case hr=>first | (go_simp;done) | (go_simp;rfl));intro w38 hw;have hg : wr.grownBy w38 (some go34):=(by rw [hw];exact HP37.2);have hp_ : Kd.R Kd.bool 4 w38 w.heap.size (fun k_=>some k_ ≠ (.slice (some ad141) x7_1.length co36 : Value).ownBlock) (.slice (some ⟨go34,0,none⟩) x10_2.length co26) y142:=(by rw [hw,Ny142.out];exact HP37.1);clear HP37;have n0_:=Aside0.mk (Kd.R_after (v:=(.slice (some ⟨go34,0,none⟩) x10_2.length co26)) (v1:=(.slice (some ⟨go34,0,none⟩) x10_2.length co26)) (ok:=(fun _=>True)) q34_ hg (.inl rfl));have n1_:=Aside0.mk (hp_);have n2_:=Aside0.mk (Kd.R_over' (v:=(.slice (some ⟨go34,0,none⟩) x10_2.length co26)) q36_ (Kd.R_typed HO_10.out) (by decide) hg);have n3_:=Aside0.mk (blk_grown (g:=gb137) (o:=.cells #[.int .u8 ((rd_T294 t127 x27_1).f0),.int .u8 ((rd_T294 t127 x27_1).f1)] 294 (0,0)) q31_ hg (Kd.R_ne HO_10.out BK137.out (by decide)));have n4_:=Aside0.mk ((by rw [hw];exact below_set (HB.out) GB34.out : Below w.heap.size w w38));clear HO_7;clear HO_10;clear HO_25;clear BK137;clear HB;have HO_7:=n0_;have HO_10:=n1_;have HO_25:=n2_;have BK137:=n3_;have HB:=n4_;clear n0_ n1_ n2_ n3_ n4_;clear hg hw hp_))
                    (try simp only [← hl10_2])
                    go_roundg k2
                    case measure=>have:=HK1.out;have:=HK2.out;omega
                    case rel=>exact ⟨(y142),(wrap64 (x37_2 + 1)),q6_,H',⟨q48_⟩,⟨q29_⟩,⟨q38_⟩,⟨q37_⟩,⟨q35_⟩,⟨q14_⟩⟩
                   ·rw [if_neg c33] at H
                    exact absurd H (by simp)
                  ·replace c32:=Bool.eq_false_iff.mpr c32
                   subst c32
                   have H1 : (if x37_2 > 0 then (if 0 ≤ (wrap64 (x37_2 - 1)) then (if (wrap64 (x37_2 - 1)) < (x10_2.length : Int) then (if x37_2 < (x10_2.length : Int) then (glob_Match.l1 k2 a1 x7_1 (x10_2.set (x37_2 : Int).toNat (rdOf false x10_2 (wrap64 (x37_2 - 1)))) t127 (t127.length : Int) x27_1 (y138.length : Int) (wrap64 (x37_2 + 1)) ((rd_T294 t127 x27_1).f0) ((rd_T294 t127 x27_1).f1)) else (none)) else (none)) else (none)) else (if x37_2 < (x10_2.length : Int) then (glob_Match.l1 k2 a1 x7_1 (x10_2.set (x37_2 : Int).toNat false) t127 (t127.length : Int) x27_1 (y138.length : Int) (wrap64 (x37_2 + 1)) ((rd_T294 t127 x27_1).f0) ((rd_T294 t127 x27_1).f1)) else (none)))=some r:=q20_
                   clear H
                   have H:=H1
                   clear H1
                   by_cases c39 : x37_2 > 0
                   ·rw [if_pos c39] at H
                    have c39b0 : decide (0 < x37_2)=true:=decide_eq_true c39
                    clear c39
                    obtain ⟨ji40,hji40⟩ : ∃ j_ : Int,(wrap64 (x37_2 - 1))=j_:=⟨_,rfl⟩
                    replace H : (if 0 ≤ (ji40) then (if (ji40) < (x10_2.length : Int) then (if x37_2 < (x10_2.length : Int) then (glob_Match.l1 k2 a1 x7_1 (x10_2.set (x37_2 : Int).toNat (rdOf false x10_2 (ji40))) t127 (t127.length : Int) x27_1 (y138.length : Int) (wrap64 (x37_2 + 1)) ((rd_T294 t127 x27_1).f0) ((rd_T294 t127 x27_1).f1)) else (none)) else (none)) else (none))=some r:=by first | (rw [hji40] at H;exact H) | (simp only [hji40] at H ⊢;exact H)
                    have hji40w : (IntKind.i64.wrap (x37_2 - 1))=ji40:=(i64_w _).trans hji40
                    by_cases c41 : 0 ≤ (ji40)
                    ·rw [if_pos c41] at H
                     have c41b0 : decide (0 ≤ (ji40))=true:=decide_eq_true c41
                     clear c41
                     by_cases c42 : (ji40) < (x10_2.length : Int)
                     ·rw [if_pos c42] at H
                      have c42b0 : decide ((ji40) < (x10_2.length : Int))=true:=decide_eq_true c42
                      clear c42
                      by_cases c43 : x37_2 < (x10_2.length : Int)
                      ·rw [if_pos c43] at H
                       have c43b0 : decide (x37_2 < (x10_2.length : Int))=true:=decide_eq_true c43
                       clear c43
                       obtain ⟨y144,hy144⟩ : ∃ y_ : List Bool,y_=(x10_2.set (x37_2 : Int).toNat (rdOf false x10_2 (ji40))):=⟨_,rfl⟩
                       replace H : (glob_Match.l1 k2 a1 x7_1 y144 t127 (t127.length : Int) x27_1 (y138.length : Int) (wrap64 (x37_2 + 1)) ((rd_T294 t127 x27_1).f0) ((rd_T294 t127 x27_1).f1))=some r:=by first | (rw [hy144];with_reducible exact H) | (have H2_:=(Option.bind_some _ _).symm.trans H;rw [hy144];with_reducible exact H2_) | (have H2_:=(Option.bind_some _ _).symm.trans H;with_reducible exact H2_) | with_reducible exact H | (rw [hy144];exact H) | exact H
                       have Ny144:=Aside0.mk hy144
                       clear hy144
                       have H':=Aside0.mk H
                       clear H
                       have hcz45_0 : wr.cell? ⟨gb137,0,none⟩=some (.int .u8 ((rd_T294 t127 x27_1).f0)):=(blk_cell BK137.out 0).trans rfl
                       have hcz45_1 : wr.cell? ⟨gb137,1,none⟩=some (.int .u8 ((rd_T294 t127 x27_1).f1)):=(blk_cell BK137.out 1).trans rfl
                       have hfz45_0:=blk_frozen BK137.out 0
                       have hfz45_1:=blk_frozen BK137.out 1
                       obtain ⟨Ao46,co46,eo46⟩:=Kd.R_slice HO_7.out
                       subst eo46
                       have p141 : 0 ≤ (x37_2 : Int):=of_decide_eq_true q5_
                       have q141 : x37_2 < (x7_1.length : Int):=of_decide_eq_true q5_
                       obtain ⟨ad141,e141,hx141_0⟩:=Kd.at_bool (Kd.R_reads' HO_7.out).2.2 x37_2 p141 q141
                       (try rw [← Nbq31.out] at hx141_0)
                       cases e141
                       replace p141:=eq_true p141
                       replace q141:=eq_true q141
                       have p143 : 0 ≤ ((ji40) : Int):=of_decide_eq_true q5_
                       have q143 : (ji40) < (x10_2.length : Int):=of_decide_eq_true q5_
                       obtain ⟨ad143,e143,hx143_0⟩:=Kd.at_bool (Kd.R_reads' HO_10.out).2.2 (ji40) p143 q143
                       (try rw [← Nbq31.out] at hx143_0)
                       cases e143
                       replace p143:=eq_true p143
                       replace q143:=eq_true q143
                       have p44 : 0 ≤ (x37_2 : Int):=of_decide_eq_true q5_
                       have q44 : (x37_2 : Int) < ((x10_2.length : Int) : Int):=of_decide_eq_true q5_
                       obtain ⟨go44,co44,eo44,gb44,gl44,cl44,HG44⟩:=Kd.R_form HO_10.out (by omega)
                       (first | cases eo44 | (injection eo44 with ea_ en_ ec_;(first | subst ea_ | (injection ea_ with ea_;subst ea_));subst ec_;clear en_))
                       have GB44:=Aside0.mk gb44
                       have GG44:=Aside0.mk HG44
                       clear gb44 gl44 HG44
                       (first | simp only [add_plain] at hx143_0 | skip)
                       obtain ⟨hx44_0,hf44_0⟩:=Kd.R_celln false HO_10.out (x37_2 : Int) p44 q44
                       replace p44:=eq_true p44
                       replace q44:=eq_true q44
                       have HP47:=Kd.R_putg HO_10.out (x37_2 : Int) (rdOf false x10_2 (ji40))
                       go_wp2_with (first | ((with_reducible refine gate_store (t:=4) (p:=82) rfl ?_);refine store_event (t:=4) (p:=82) (v:=?vo_w48) (w1:=(wr.setCell ⟨go44,(x37_2 : Int).toNat,none⟩ (.bool (rdOf false x10_2 (ji40))))) ?hg ?ho ?hn ?hr ?_;(case ho=>rfl);(case hg=>rfl);(case hn=>rfl);(case hr=>first | (go_simp;done) | (go_simp;rfl));intro w48 hw;have hg : wr.grownBy w48 (some go44):=(by rw [hw];exact HP47.2);have hp_ : Kd.R Kd.bool 4 w48 w.heap.size (fun k_=>some k_ ≠ (.slice (some ad141) x7_1.length co46 : Value).ownBlock) (.slice (some ⟨go44,0,none⟩) x10_2.length co26) y144:=(by rw [hw,Ny144.out];exact HP47.1);clear HP47;have n0_:=Aside0.mk (Kd.R_after (v:=(.slice (some ⟨go44,0,none⟩) x10_2.length co26)) (v1:=(.slice (some ⟨go44,0,none⟩) x10_2.length co26)) (ok:=(fun _=>True)) q34_ hg (.inl rfl));have n1_:=Aside0.mk (hp_);have n2_:=Aside0.mk (Kd.R_over' (v:=(.slice (some ⟨go44,0,none⟩) x10_2.length co26)) q36_ (Kd.R_typed HO_10.out) (by decide) hg);have n3_:=Aside0.mk (blk_grown (g:=gb137) (o:=.cells #[.int .u8 ((rd_T294 t127 x27_1).f0),.int .u8 ((rd_T294 t127 x27_1).f1)] 294 (0,0)) q31_ hg (Kd.R_ne HO_10.out BK137.out (by decide)));have n4_:=Aside0.mk ((by rw [hw];exact below_set (HB.out) GB44.out : Below w.heap.size w w48));clear HO_7;clear HO_10;clear HO_25;clear BK137;clear HB;have HO_7:=n0_;have HO_10:=n1_;have HO_25:=n2_;have BK137:=n3_;have HB:=n4_;clear n0_ n1_ n2_ n3_ n4_;clear hg hw hp_))
                       (try simp only [← hl10_2])
                       go_roundg k2
                       case measure=>have:=HK1.out;have:=HK2.out;omega
                       case rel=>exact ⟨(y144),(wrap64 (x37_2 + 1)),q6_,H',⟨q48_⟩,⟨q29_⟩,⟨q38_⟩,⟨q37_⟩,⟨q35_⟩,⟨q14_⟩⟩
                      ·rw [if_neg c43] at H
                       exact absurd H (by simp)
                     ·rw [if_neg c42] at H
                      exact absurd H (by simp)
                    ·rw [if_neg c41] at H
                     exact absurd H (by simp)
                   ·rw [if_neg c39] at H
                    have c39b0 : decide (0 < x37_2)=false:=decide_eq_false c39
                    clear c39
                    by_cases c49 : x37_2 < (x10_2.length : Int)
                    ·rw [if_pos c49] at H
                     have c49b0 : decide (x37_2 < (x10_2.length : Int))=true:=decide_eq_true c49
                     clear c49
                     obtain ⟨y145,hy145⟩ : ∃ y_ : List Bool,y_=(x10_2.set (x37_2 : Int).toNat false):=⟨_,rfl⟩
                     replace H : (glob_Match.l1 k2 a1 x7_1 y145 t127 (t127.length : Int) x27_1 (y138.length : Int) (wrap64 (x37_2 + 1)) ((rd_T294 t127 x27_1).f0) ((rd_T294 t127 x27_1).f1))=some r:=by first | (rw [hy145];with_reducible exact H) | (have H2_:=(Option.bind_some _ _).symm.trans H;rw [hy145];with_reducible exact H2_) | (have H2_:=(Option.bind_some _ _).symm.trans H;with_reducible exact H2_) | with_reducible exact H | (rw [hy145];exact H) | exact H
                     have Ny145:=Aside0.mk hy145
                     clear hy145
                     have H':=Aside0.mk H
                     clear H
                     have hcz51_0 : wr.cell? ⟨gb137,0,none⟩=some (.int .u8 ((rd_T294 t127 x27_1).f0)):=(blk_cell BK137.out 0).trans rfl
                     have hcz51_1 : wr.cell? ⟨gb137,1,none⟩=some (.int .u8 ((rd_T294 t127 x27_1).f1)):=(blk_cell BK137.out 1).trans rfl
                     have hfz51_0:=blk_frozen BK137.out 0
                     have hfz51_1:=blk_frozen BK137.out 1
                     obtain ⟨Ao52,co52,eo52⟩:=Kd.R_slice HO_7.out
                     subst eo52
                     have p141 : 0 ≤ (x37_2 : Int):=of_decide_eq_true q5_
                     have q141 : x37_2 < (x7_1.length : Int):=of_decide_eq_true q5_
                     obtain ⟨ad141,e141,hx141_0⟩:=Kd.at_bool (Kd.R_reads' HO_7.out).2.2 x37_2 p141 q141
                     (try rw [← Nbq31.out] at hx141_0)
                     cases e141
                     replace p141:=eq_true p141
                     replace q141:=eq_true q141
                     have p50 : 0 ≤ (x37_2 : Int):=of_decide_eq_true q5_
                     have q50 : (x37_2 : Int) < ((x10_2.length : Int) : Int):=of_decide_eq_true q5_
                     obtain ⟨go50,co50,eo50,gb50,gl50,cl50,HG50⟩:=Kd.R_form HO_10.out (by omega)
                     (first | cases eo50 | (injection eo50 with ea_ en_ ec_;(first | subst ea_ | (injection ea_ with ea_;subst ea_));subst ec_;clear en_))
                     have GB50:=Aside0.mk gb50
                     have GG50:=Aside0.mk HG50
                     clear gb50 gl50 HG50
                     obtain ⟨hx50_0,hf50_0⟩:=Kd.R_celln false HO_10.out (x37_2 : Int) p50 q50
                     replace p50:=eq_true p50
                     replace q50:=eq_true q50
                     have HP53:=Kd.R_putg HO_10.out (x37_2 : Int) false
                     go_wp2_with (first | ((with_reducible refine gate_store (t:=4) (p:=82) rfl ?_);refine store_event (t:=4) (p:=82) (v:=?vo_w54) (w1:=(wr.setCell ⟨go50,(x37_2 : Int).toNat,none⟩ (.bool false))) ?hg ?ho ?hn ?hr ?_;(case ho=>rfl);(case hg=>rfl);(case hn=>rfl);(case hr=>first | (go_simp;done) | (go_simp;rfl));intro w54 hw;have hg : wr.grownBy w54 (some go50):=(by rw [hw];exact HP53.2);have hp_ : Kd.R Kd.bool 4 w54 w.heap.size (fun k_=>some k_ ≠ (.slice (some ad141) x7_1.length co52 : Value).ownBlock) (.slice (some ⟨go50,0,none⟩) x10_2.length co26) y145:=(by rw [hw,Ny145.out];exact HP53.1);clear HP53;have n0_:=Aside0.mk (Kd.R_after (v:=(.slice (some ⟨go50,0,none⟩) x10_2.length co26)) (v1:=(.slice (some ⟨go50,0,none⟩) x10_2.length co26)) (ok:=(fun _=>True)) q34_ hg (.inl rfl));have n1_:=Aside0.mk (hp_);have n2_:=Aside0.mk (Kd.R_over' (v:=(.slice (some ⟨go50,0,none⟩) x10_2.length co26)) q36_ (Kd.R_typed HO_10.out) (by decide) hg);have n3_:=Aside0.mk (blk_grown (g:=gb137) (o:=.cells #[.int .u8 ((rd_T294 t127 x27_1).f0),.int .u8 ((rd_T294 t127 x27_1).f1)] 294 (0,0)) q31_ hg (Kd.R_ne HO_10.out BK137.out (by decide)));have n4_:=Aside0.mk ((by rw [hw];exact below_set (HB.out) GB50.out : Below w.heap.size w w54));clear HO_7;clear HO_10;clear HO_25;clear BK137;clear HB;have HO_7:=n0_;have HO_10:=n1_;have HO_25:=n2_;have BK137:=n3_;have HB:=n4_;clear n0_ n1_ n2_ n3_ n4_;clear hg hw hp_))
                     (try simp only [← hl10_2])
                     go_roundg k2
                     case measure=>have:=HK1.out;have:=HK2.out;omega
                     case rel=>exact ⟨(y145),(wrap64 (x37_2 + 1)),q6_,H',⟨q48_⟩,⟨q29_⟩,⟨q38_⟩,⟨q37_⟩,⟨q35_⟩,⟨q14_⟩⟩
                    ·rw [if_neg c49] at H
                     exact absurd H (by simp)
                 ·rw [if_neg c30] at H
                  exact absurd H (by simp)
                ·rw [if_neg c29] at H
                 exact absurd H (by simp)
               ·rw [if_neg c28] at H
                have c28b0 : (((rd_T294 t127 x27_1).f0) == 42)=false:=beq_eq_false_iff_ne.mpr c28
                have c28b1 : (((rd_T294 t127 x27_1).f0) != 42)=true:=bne_iff_ne.mpr c28
                by_cases c55 : ((rd_T294 t127 x27_1).f0)=63
                ·rw [if_pos c55] at H
                 have c55b0 : (((rd_T294 t127 x27_1).f0) == 63)=true:=beq_iff_eq.mpr c55
                 have c55b1 : (((rd_T294 t127 x27_1).f0) != 63)=false:=bne_eq_false_iff_eq.mpr c55
                 clear c55
                 by_cases c56 : x37_2 > 0
                 ·rw [if_pos c56] at H
                  have c56b0 : decide (0 < x37_2)=true:=decide_eq_true c56
                  clear c56
                  try clear hji40w
                  obtain ⟨ji57,hji57⟩ : ∃ j_ : Int,(wrap64 (x37_2 - 1))=j_:=⟨_,rfl⟩
                  replace H : (if 0 ≤ (ji57) then (if (ji57) < (x7_1.length : Int) then (if 0 ≤ x37_2 then (if x37_2 < (x10_2.length : Int) then (glob_Match.l1 k2 a1 x7_1 (x10_2.set (x37_2 : Int).toNat (rdOf false x7_1 (ji57))) t127 (t127.length : Int) x27_1 (y138.length : Int) (wrap64 (x37_2 + 1)) ((rd_T294 t127 x27_1).f0) ((rd_T294 t127 x27_1).f1)) else (none)) else (none)) else (none)) else (none))=some r:=by first | (rw [hji57] at H;exact H) | (simp only [hji57] at H ⊢;exact H)
                  have hji57w : (IntKind.i64.wrap (x37_2 - 1))=ji57:=(i64_w _).trans hji57
                  by_cases c58 : 0 ≤ (ji57)
                  ·rw [if_pos c58] at H
                   have c58b0 : decide (0 ≤ (ji57))=true:=decide_eq_true c58
                   clear c58
                   by_cases c59 : (ji57) < (x7_1.length : Int)
                   ·rw [if_pos c59] at H
                    have c59b0 : decide ((ji57) < (x7_1.length : Int))=true:=decide_eq_true c59
                    clear c59
                    by_cases c60 : 0 ≤ x37_2
                    ·rw [if_pos c60] at H
                     have c60b0 : decide (0 ≤ x37_2)=true:=decide_eq_true c60
                     clear c60
                     by_cases c61 : x37_2 < (x10_2.length : Int)
                     ·rw [if_pos c61] at H
                      have c61b0 : decide (x37_2 < (x10_2.length : Int))=true:=decide_eq_true c61
                      clear c61
                      obtain ⟨y147,hy147⟩ : ∃ y_ : List Bool,y_=(x10_2.set (x37_2 : Int).toNat (rdOf false x7_1 (ji57))):=⟨_,rfl⟩
                      replace H : (glob_Match.l1 k2 a1 x7_1 y147 t127 (t127.length : Int) x27_1 (y138.length : Int) (wrap64 (x37_2 + 1)) ((rd_T294 t127 x27_1).f0) ((rd_T294 t127 x27_1).f1))=some r:=by first | (rw [hy147];with_reducible exact H) | (have H2_:=(Option.bind_some _ _).symm.trans H;rw [hy147];with_reducible exact H2_) | (have H2_:=(Option.bind_some _ _).symm.trans H;with_reducible exact H2_) | with_reducible exact H | (rw [hy147];exact H) | exact H
                      have Ny147:=Aside0.mk hy147
                      clear hy147
                      have H':=Aside0.mk H
                      clear H
                      have hcz63_0 : wr.cell? ⟨gb137,0,none⟩=some (.int .u8 ((rd_T294 t127 x27_1).f0)):=(blk_cell BK137.out 0).trans rfl
                      have hcz63_1 : wr.cell? ⟨gb137,1,none⟩=some (.int .u8 ((rd_T294 t127 x27_1).f1)):=(blk_cell BK137.out 1).trans rfl
                      have hfz63_0:=blk_frozen BK137.out 0
                      have hfz63_1:=blk_frozen BK137.out 1
                      obtain ⟨Ao64,co64,eo64⟩:=Kd.R_slice HO_7.out
                      subst eo64
                      have p146 : 0 ≤ ((ji57) : Int):=of_decide_eq_true q5_
                      have q146 : (ji57) < (x7_1.length : Int):=of_decide_eq_true q5_
                      obtain ⟨ad146,e146,hx146_0⟩:=Kd.at_bool (Kd.R_reads' HO_7.out).2.2 (ji57) p146 q146
                      cases e146
                      replace p146:=eq_true p146
                      replace q146:=eq_true q146
                      have p62 : 0 ≤ (x37_2 : Int):=of_decide_eq_true q5_
                      have q62 : (x37_2 : Int) < ((x10_2.length : Int) : Int):=of_decide_eq_true q5_
                      obtain ⟨go62,co62,eo62,gb62,gl62,cl62,HG62⟩:=Kd.R_form HO_10.out (by omega)
                      (first | cases eo62 | (injection eo62 with ea_ en_ ec_;(first | subst ea_ | (injection ea_ with ea_;subst ea_));subst ec_;clear en_))
                      have GB62:=Aside0.mk gb62
                      have GG62:=Aside0.mk HG62
                      clear gb62 gl62 HG62
                      obtain ⟨hx62_0,hf62_0⟩:=Kd.R_celln false HO_10.out (x37_2 : Int) p62 q62
                      replace p62:=eq_true p62
                      replace q62:=eq_true q62
                      have HP65:=Kd.R_putg HO_10.out (x37_2 : Int) (rdOf false x7_1 (ji57))
                      go_wp2_with (first | ((with_reducible refine gate_store (t:=4) (p:=96) rfl ?_);refine store_event (t:=4) (p:=96) (v:=?vo_w66) (w1:=(wr.setCell ⟨go62,(x37_2 : Int).toNat,none⟩ (.bool (rdOf false x7_1 (ji57))))) ?hg ?ho ?hn ?hr ?_;(case ho=>rfl);(case hg=>rfl);(case hn=>rfl);(case hr=>first | (go_simp;done) | (go_simp;rfl));intro w66 hw;have hg : wr.grownBy w66 (some go62):=(by rw [hw];exact HP65.2);have hp_ : Kd.R Kd.bool 4 w66 w.heap.size (fun k_=>some k_ ≠ (.slice (some ad146) x7_1.length co64 : Value).ownBlock) (.slice (some ⟨go62,0,none⟩) x10_2.length co26) y147:=(by rw [hw,Ny147.out];exact HP65.1);clear HP65;have n0_:=Aside0.mk (Kd.R_after (v:=(.slice (some ⟨go62,0,none⟩) x10_2.length co26)) (v1:=(.slice (some ⟨go62,0,none⟩) x10_2.length co26)) (ok:=(fun _=>True)) q34_ hg (.inl rfl));have n1_:=Aside0.mk (hp_);have n2_:=Aside0.mk (Kd.R_over' (v:=(.slice (some ⟨go62,0,none⟩) x10_2.length co26)) q36_ (Kd.R_typed HO_10.out) (by decide) hg);have n3_:=Aside0.mk (blk_grown (g:=gb137) (o:=.cells #[.int .u8 ((rd_T294 t127 x27_1).f0),.int .u8 ((rd_T294 t127 x27_1).f1)] 294 (0,0)) q31_ hg (Kd.R_ne HO_10.out BK137.out (by decide)));have n4_:=Aside0.mk ((by rw [hw];exact below_set (HB.out) GB62.out : Below w.heap.size w w66));clear HO_7;clear HO_10;clear HO_25;clear BK137;clear HB;have HO_7:=n0_;have HO_10:=n1_;have HO_25:=n2_;have BK137:=n3_;have HB:=n4_;clear n0_ n1_ n2_ n3_ n4_;clear hg hw hp_))
                      (try simp only [← hl10_2])
                      go_roundg k2
                      case measure=>have:=HK1.out;have:=HK2.out;omega
                      case rel=>exact ⟨(y147),(wrap64 (x37_2 + 1)),q6_,H',⟨q48_⟩,⟨q29_⟩,⟨q38_⟩,⟨q37_⟩,⟨q35_⟩,⟨q14_⟩⟩
                     ·rw [if_neg c61] at H
                      exact absurd H (by simp)
                    ·rw [if_neg c60] at H
                     exact absurd H (by simp)
                   ·rw [if_neg c59] at H
                    exact absurd H (by simp)
                  ·rw [if_neg c58] at H
                   exact absurd H (by simp)
                 ·rw [if_neg c56] at H
                  have c56b0 : decide (0 < x37_2)=false:=decide_eq_false c56
                  clear c56
                  by_cases c67 : 0 ≤ x37_2
                  ·rw [if_pos c67] at H
                   have c67b0 : decide (0 ≤ x37_2)=true:=decide_eq_true c67
                   clear c67
                   by_cases c68 : x37_2 < (x10_2.length : Int)
                   ·rw [if_pos c68] at H
                    have c68b0 : decide (x37_2 < (x10_2.length : Int))=true:=decide_eq_true c68
                    clear c68
                    obtain ⟨y148,hy148⟩ : ∃ y_ : List Bool,y_=(x10_2.set (x37_2 : Int).toNat false):=⟨_,rfl⟩
                    replace H : (glob_Match.l1 k2 a1 x7_1 y148 t127 (t127.length : Int) x27_1 (y138.length : Int) (wrap64 (x37_2 + 1)) ((rd_T294 t127 x27_1).f0) ((rd_T294 t127 x27_1).f1))=some r:=by first | (rw [hy148];with_reducible exact H) | (have H2_:=(Option.bind_some _ _).symm.trans H;rw [hy148];with_reducible exact H2_) | (have H2_:=(Option.bind_some _ _).symm.trans H;with_reducible exact H2_) | with_reducible exact H | (rw [hy148];exact H) | exact H
                    have Ny148:=Aside0.mk hy148
                    clear hy148
                    have H':=Aside0.mk H
                    clear H
                    have hcz70_0 : wr.cell? ⟨gb137,0,none⟩=some (.int .u8 ((rd_T294 t127 x27_1).f0)):=(blk_cell BK137.out 0).trans rfl
                    have hcz70_1 : wr.cell? ⟨gb137,1,none⟩=some (.int .u8 ((rd_T294 t127 x27_1).f1)):=(blk_cell BK137.out 1).trans rfl
                    have hfz70_0:=blk_frozen BK137.out 0
                    have hfz70_1:=blk_frozen BK137.out 1
                    have p69 : 0 ≤ (x37_2 : Int):=of_decide_eq_true q5_
                    have q69 : (x37_2 : Int) < ((x10_2.length : Int) : Int):=of_decide_eq_true q5_
                    obtain ⟨go69,co69,eo69,gb69,gl69,cl69,HG69⟩:=Kd.R_form HO_10.out (by omega)
                    (first | cases eo69 | (injection eo69 with ea_ en_ ec_;(first | subst ea_ | (injection ea_ with ea_;subst ea_));subst ec_;clear en_))
                    have GB69:=Aside0.mk gb69
                    have GG69:=Aside0.mk HG69
                    clear gb69 gl69 HG69
                    obtain ⟨hx69_0,hf69_0⟩:=Kd.R_celln false HO_10.out (x37_2 : Int) p69 q69
                    replace p69:=eq_true p69
                    replace q69:=eq_true q69
                    have HP71:=Kd.R_putg HO_10.out (x37_2 : Int) false
                    go_wp2_with (first | ((with_reducible refine gate_store (t:=4) (p:=96) rfl ?_);refine store_event (t:=4) (p:=96) (v:=?vo_w72) (w1:=(wr.setCell ⟨go69,(x37_2 : Int).toNat,none⟩ (.bool false))) ?hg ?ho ?hn ?hr ?_;(case ho=>rfl);(case hg=>rfl);(case hn=>rfl);(case hr=>first | (go_simp;done) | (go_simp;rfl));intro w72 hw;have hg : wr.grownBy w72 (some go69):=(by rw [hw];exact HP71.2);have hp_ : Kd.R Kd.bool 4 w72 w.heap.size (fun k_=>some k_ ≠ (u7 : Value).ownBlock) (.slice (some ⟨go69,0,none⟩) x10_2.length co26) y148:=(by rw [hw,Ny148.out];exact HP71.1);clear HP71;have n0_:=Aside0.mk (Kd.R_after (v:=(.slice (some ⟨go69,0,none⟩) x10_2.length co26)) (v1:=(.slice (some ⟨go69,0,none⟩) x10_2.length co26)) (ok:=(fun _=>True)) q34_ hg (.inl rfl));have n1_:=Aside0.mk (hp_);have n2_:=Aside0.mk (Kd.R_over' (v:=(.slice (some ⟨go69,0,none⟩) x10_2.length co26)) q36_ (Kd.R_typed HO_10.out) (by decide) hg);have n3_:=Aside0.mk (blk_grown (g:=gb137) (o:=.cells #[.int .u8 ((rd_T294 t127 x27_1).f0),.int .u8 ((rd_T294 t127 x27_1).f1)] 294 (0,0)) q31_ hg (Kd.R_ne HO_10.out BK137.out (by decide)));have n4_:=Aside0.mk ((by rw [hw];exact below_set (HB.out) GB69.out : Below w.heap.size w w72));clear HO_7;clear HO_10;clear HO_25;clear BK137;clear HB;have HO_7:=n0_;have HO_10:=n1_;have HO_25:=n2_;have BK137:=n3_;have HB:=n4_;clear n0_ n1_ n2_ n3_ n4_;clear hg hw hp_))
                    (try simp only [← hl10_2])
                    go_roundg k2
                    case measure=>have:=HK1.out;have:=HK2.out;omega
                    case rel=>exact ⟨(y148),(wrap64 (x37_2 + 1)),q6_,H',⟨q48_⟩,⟨q29_⟩,⟨q38_⟩,⟨q37_⟩,⟨q35_⟩,⟨q14_⟩⟩
                   ·rw [if_neg c68] at H
                    exact absurd H (by simp)
                  ·rw [if_neg c67] at H
                   exact absurd H (by simp)
                ·rw [if_neg c55] at H
                 have c55b0 : (((rd_T294 t127 x27_1).f0) == 63)=false:=beq_eq_false_iff_ne.mpr c55
                 have c55b1 : (((rd_T294 t127 x27_1).f0) != 63)=true:=bne_iff_ne.mpr c55
                 by_cases c73 : x37_2 > 0
                 ·rw [if_pos c73] at H
                  have c73b0 : decide (0 < x37_2)=true:=decide_eq_true c73
                  clear c73
                  try clear hji40w
                  try clear hji57w
                  obtain ⟨ji74,hji74⟩ : ∃ j_ : Int,(wrap64 (x37_2 - 1))=j_:=⟨_,rfl⟩
                  replace H : (if 0 ≤ (ji74) then (if (ji74) < (x7_1.length : Int) then (if rdOf false x7_1 (ji74)=true then (if (ji74) < (a1.size : Int) then (if 0 ≤ x37_2 then (if x37_2 < (x10_2.length : Int) then (glob_Match.l1 k2 a1 x7_1 (x10_2.set (x37_2 : Int).toNat ((bt a1 (ji74)) == ((rd_T294 t127 x27_1).f1))) t127 (t127.length : Int) x27_1 (y138.length : Int) (wrap64 (x37_2 + 1)) ((rd_T294 t127 x27_1).f0) ((rd_T294 t127 x27_1).f1)) else (none)) else (none)) else (none)) else (if 0 ≤ x37_2 then (if x37_2 < (x10_2.length : Int) then (glob_Match.l1 k2 a1 x7_1 (x10_2.set (x37_2 : Int).toNat false) t127 (t127.length : Int) x27_1 (y138.length : Int) (wrap64 (x37_2 + 1)) ((rd_T294 t127 x27_1).f0) ((rd_T294 t127 x27_1).f1)) else (none)) else (none))) else (none)) else (none))=some r:=by first | (rw [hji74] at H;exact H) | (simp only [hji74] at H ⊢;exact H)
                  have hji74w : (IntKind.i64.wrap (x37_2 - 1))=ji74:=(i64_w _).trans hji74
                  by_cases c75 : 0 ≤ (ji74)
                  ·rw [if_pos c75] at H
                   have c75b0 : decide (0 ≤ (ji74))=true:=decide_eq_true c75
                   clear c75
                   by_cases c76 : (ji74) < (x7_1.length : Int)
                   ·rw [if_pos c76] at H
                    have c76b0 : decide ((ji74) < (x7_1.length : Int))=true:=decide_eq_true c76
                    clear c76
                    obtain ⟨bq77,hbq77⟩ : ∃ b_ : Bool,b_=(rdOf false x7_1 (ji74)):=⟨_,rfl⟩
                    replace H : (if bq77=true then (if (ji74) < (a1.size : Int) then (if 0 ≤ x37_2 then (if x37_2 < (x10_2.length : Int) then (glob_Match.l1 k2 a1 x7_1 (x10_2.set (x37_2 : Int).toNat ((bt a1 (ji74)) == ((rd_T294 t127 x27_1).f1))) t127 (t127.length : Int) x27_1 (y138.length : Int) (wrap64 (x37_2 + 1)) ((rd_T294 t127 x27_1).f0) ((rd_T294 t127 x27_1).f1)) else (none)) else (none)) else (none)) else (if 0 ≤ x37_2 then (if x37_2 < (x10_2.length : Int) then (glob_Match.l1 k2 a1 x7_1 (x10_2.set (x37_2 : Int).toNat false) t127 (t127.length : Int) x27_1 (y138.length : Int) (wrap64 (x37_2 + 1)) ((rd_T294 t127 x27_1).f0) ((rd_T294 t127 x27_1).f1)) else (none)) else (none)))=some r:=by rw [← hbq77] at H;exact H
                    have Nbq77:=Aside0.mk hbq77
                    clear hbq77
                    by_cases c78 : bq77=true
                    ·subst c78
                     have H1 : (if (ji74) < (a1.size : Int) then (if 0 ≤ x37_2 then (if x37_2 < (x10_2.length : Int) then (glob_Match.l1 k2 a1 x7_1 (x10_2.set (x37_2 : Int).toNat ((bt a1 (ji74)) == ((rd_T294 t127 x27_1).f1))) t127 (t127.length : Int) x27_1 (y138.length : Int) (wrap64 (x37_2 + 1)) ((rd_T294 t127 x27_1).f0) ((rd_T294 t127 x27_1).f1)) else (none)) else (none)) else (none))=some r:=q44_
                     clear H
                     have H:=H1
                     clear H1
                     by_cases c79 : (ji74) < (a1.size : Int)
                     ·rw [if_pos c79] at H
                      have c79b0 : decide ((ji74) < (a1.size : Int))=true:=decide_eq_true c79
                      clear c79
                      by_cases c81 : 0 ≤ x37_2
                      ·rw [if_pos c81] at H
                       have c81b0 : decide (0 ≤ x37_2)=true:=decide_eq_true c81
                       clear c81
                       by_cases c82 : x37_2 < (x10_2.length : Int)
                       ·rw [if_pos c82] at H
                        have c82b0 : decide (x37_2 < (x10_2.length : Int))=true:=decide_eq_true c82
                        clear c82
                        obtain ⟨y150,hy150⟩ : ∃ y_ : List Bool,y_=(x10_2.set (x37_2 : Int).toNat ((bt a1 (ji74)) == ((rd_T294 t127 x27_1).f1))):=⟨_,rfl⟩
                        replace H : (glob_Match.l1 k2 a1 x7_1 y150 t127 (t127.length : Int) x27_1 (y138.length : Int) (wrap64 (x37_2 + 1)) ((rd_T294 t127 x27_1).f0) ((rd_T294 t127 x27_1).f1))=some r:=by first | (rw [hy150];with_reducible exact H) | (have H2_:=(Option.bind_some _ _).symm.trans H;rw [hy150];with_reducible exact H2_) | (have H2_:=(Option.bind_some _ _).symm.trans H;with_reducible exact H2_) | with_reducible exact H | (rw [hy150];exact H) | exact H
                        have Ny150:=Aside0.mk hy150
                        clear hy150
                        have H':=Aside0.mk H
                        clear H
                        have hcz84_0 : wr.cell? ⟨gb137,0,none⟩=some (.int .u8 ((rd_T294 t127 x27_1).f0)):=(blk_cell BK137.out 0).trans rfl
                        have hcz84_1 : wr.cell? ⟨gb137,1,none⟩=some (.int .u8 ((rd_T294 t127 x27_1).f1)):=(blk_cell BK137.out 1).trans rfl
                        have hfz84_0:=blk_frozen BK137.out 0
                        have hfz84_1:=blk_frozen BK137.out 1
                        try go_wp2
                        have n0_:=Aside0.mk (Kd.R_drew HO_7.out)
                        have n1_:=Aside0.mk (Kd.R_drew HO_10.out)
                        have n2_:=Aside0.mk (Kd.R_drew HO_25.out)
                        have n3_:=Aside0.mk (blk_drew BK137.out)
                        have n4_:=Aside0.mk (below_drew1 HB.out)
                        clear HO_7
                        clear HO_10
                        clear HO_25
                        clear BK137
                        clear HB
                        have HO_7:=n0_
                        have HO_10:=n1_
                        have HO_25:=n2_
                        have BK137:=n3_
                        have HB:=n4_
                        clear n0_ n1_ n2_ n3_ n4_
                        obtain ⟨Ao86,co86,eo86⟩:=Kd.R_slice HO_7.out
                        (first | subst eo86 | (injection eo86 with f1_ f2_ f3_;have f4_:=f1_.symm;have f5_:=f3_.symm;clear f1_ f2_ f3_;subst f4_;subst f5_))
                        have p149 : 0 ≤ ((ji74) : Int):=of_decide_eq_true q5_
                        have q149 : (ji74) < (x7_1.length : Int):=of_decide_eq_true q5_
                        obtain ⟨ad149,e149,hx149_0⟩:=Kd.at_bool (Kd.R_reads' HO_7.out).2.2 (ji74) p149 q149
                        (try rw [← Nbq77.out] at hx149_0)
                        cases e149
                        replace p149:=eq_true p149
                        replace q149:=eq_true q149
                        have p80 : 0 ≤ ((ji74) : Int):=of_decide_eq_true q5_
                        have q80 : (ji74) < (a1.size : Int):=of_decide_eq_true q5_
                        have hx80:=bt_at a1 (ji74)
                        replace p80:=eq_true p80
                        replace q80:=eq_true q80
                        have p83 : 0 ≤ (x37_2 : Int):=of_decide_eq_true q5_
                        have q83 : (x37_2 : Int) < ((x10_2.length : Int) : Int):=of_decide_eq_true q5_
                        obtain ⟨go83,co83,eo83,gb83,gl83,cl83,HG83⟩:=Kd.R_form HO_10.out (by omega)
                        (first | cases eo83 | (injection eo83 with ea_ en_ ec_;(first | subst ea_ | (injection ea_ with ea_;subst ea_));subst ec_;clear en_))
                        have GB83:=Aside0.mk gb83
                        have GG83:=Aside0.mk HG83
                        clear gb83 gl83 HG83
                        obtain ⟨hx83_0,hf83_0⟩:=Kd.R_celln false HO_10.out (x37_2 : Int) p83 q83
                        replace p83:=eq_true p83
                        replace q83:=eq_true q83
                        have HP87:=Kd.R_putn HO_10.out (x37_2 : Int) ((bt a1 (ji74)) == ((rd_T294 t127 x27_1).f1))
                        rw [← Ny150.out] at HP87
                        have HQ87:=Aside0.mk HP87
                        clear HP87
                        refine start_ (n:=22) (S:=fun w'=>w'.cell? ⟨gb137,0,none⟩=some (.int .u8 ((rd_T294 t127 x27_1).f0))∧w'.cell? ⟨gb137,1,none⟩=some (.int .u8 ((rd_T294 t127 x27_1).f1))∧w'.cell? (ad149.add ((ji74)).toNat)=some (.bool true)) (ds:=[21]) _ (by kernel_rfl) rfl rfl ⟨(blk_cell BK137.out 0).trans rfl,(blk_cell BK137.out 1).trans rfl,hx149_0⟩ (fun hHeld=>?_);refine with_tabW glob_Match.tab14 glob_Match.bits14 (fun HT_ HW_=>?_)
                        generalize wr.drew=w85 at HO_7 HO_10 HO_25 BK137 HB GG83 HQ87 hf83_0 hx149_0 hx83_0 hHeld ⊢
                        refine pT_ 0 (some 42) ?_
                        refine pT_ 1 (some 43) ?_
                        refine pT_ 2 (some 44) ?_
                        refine pT_ 3 (some 45) ?_
                        refine pT_ 4 (some 46) ?_
                        refine pT_ 5 (some 47) ?_
                        refine pT_ 6 (some 48) ?_
                        refine pT_ 7 (some 49) ?_
                        refine pT_ 8 (some 50) ?_
                        refine take_ (i:=9) (N:=some 51) (v:=?_) (a':=?_) #[true,true,true,true,true,true,true,true,true,true,false,false,false,false,false,false,false,false,false,false,false,false] rfl rfl (take_ofW HT_.out HW_.out (by kernel_rfl)) (fun _ _ _ h=>h) (Or.inl ⟨by rfl,?_⟩) hHeld ?_ ?_
                        rotate_left
                        ·rintro w' ⟨s0,s1,s2⟩
                         go_simp
                         with_reducible rfl
                        rotate_left
                        ·simp only [Act.put,List.setIfInBounds_toArray,List.set_cons_zero,List.set_cons_succ,i64_w,i32_w]
                         rfl
                        refine pT_ 10 (some 52) ?_
                        refine pT_ 11 (some 53) ?_
                        refine pT_ 12 (some 54) ?_
                        refine pT_ 13 (some 55) ?_
                        refine pT_ 14 (some 56) ?_
                        refine pT_ 16 (some 58) ?_
                        refine take_ (i:=15) (N:=some 57) (v:=?_) (a':=?_) #[true,true,true,true,true,true,true,true,true,true,true,true,true,true,true,true,true,false,false,false,false,false] rfl rfl (take_ofW HT_.out HW_.out (by kernel_rfl)) (fun _ _ _ h=>h) (Or.inl ⟨by rfl,?_⟩) hHeld ?_ ?_
                        rotate_left
                        ·rintro w' ⟨s0,s1,s2⟩
                         go_simp
                         with_reducible rfl
                        rotate_left
                        ·simp only [Act.put,List.setIfInBounds_toArray,List.set_cons_zero,List.set_cons_succ,i64_w,i32_w]
                         rfl
                        refine take_ (i:=17) (N:=some 59) (v:=?_) (a':=?_) #[true,true,true,true,true,true,true,true,true,true,true,true,true,true,true,true,true,true,false,false,false,false] rfl rfl (take_ofW HT_.out HW_.out (by kernel_rfl)) (fun _ _ _ h=>h) (Or.inl ⟨by rfl,?_⟩) hHeld ?_ ?_
                        rotate_left
                        ·rintro w' ⟨s0,s1,s2⟩
                         go_simp
                         with_reducible rfl
                        rotate_left
                        ·simp only [Act.put,List.setIfInBounds_toArray,List.set_cons_zero,List.set_cons_succ,i64_w,i32_w]
                         rfl
                        refine pT_ 18 (some 60) ?_
                        refine pT_ 19 (some 61) ?_
                        refine pT_ 20 (some 62) ?_
                        refine lT_ 21 none fun K hK=>?_
                        refine skip_ (w1:=?_) (by rfl) rfl ?_ ?_
                        rotate_left
                        ·go_simp
                         rfl
                        refine hK.out _ _ ?_
                        clear hK K
                        refine done_ (done_of HT_.out (by kernel_rfl)) ?_
                        try go_wp2
                        (try simp only [← hl10_2])
                        go_roundg k2
                        case measure=>have:=HK1.out;have:=HK2.out;omega
                        case rel=>exact ⟨(y150),(wrap64 (x37_2 + 1)),q6_,H',⟨q48_⟩,⟨by (try simp only [hl10_2]);(with_reducible repeat (first | apply Kd.R_alloc | apply Kd.R_drewN | apply Kd.R_drew));exact Kd.R_mono (Kd.R_far (p:=⟨go83,(x37_2 : Int).toNat,none⟩) (Kd.R_mono HO_7.out (fun k_ hk=>(⟨hk,fun e_=>hk (by rw [e_];rfl)⟩ : _∧k_ ≠ go83))) (fun _ hk=>hk.2) (.bool ((bt a1 (ji74)) == ((rd_T294 t127 x27_1).f1)))) (fun _ hk=>hk.1)⟩,⟨by (try simp only [hl10_2]);(with_reducible repeat (first | apply Kd.R_alloc | apply Kd.R_drewN | apply Kd.R_drew));exact HQ87.out⟩,⟨by (try simp only [hl10_2]);(with_reducible repeat (first | apply Kd.R_alloc | apply Kd.R_drewN | apply Kd.R_drew));exact Kd.R_mono (Kd.R_far (p:=⟨go83,(x37_2 : Int).toNat,none⟩) (Kd.R_types HO_25.out GG83.out (by decide)) (fun _ hk=>hk.2) (.bool ((bt a1 (ji74)) == ((rd_T294 t127 x27_1).f1)))) (fun _ hk=>hk.1)⟩,⟨by (try simp only [hl10_2]);(with_reducible repeat (first | refine blk_drewN ?_ _ | refine blk_drew ?_ | refine blk_alloc ?_ _));refine blk_far ?_ (by have h_:=Kd.R_ne HO_10.out BK137.out (by decide);intro e_;exact h_ (by rw [e_];rfl)) _;(with_reducible repeat (first | refine blk_drewN ?_ _ | refine blk_drew ?_ | refine blk_alloc ?_ _));exact BK137.out⟩,⟨by repeat (first | (with_reducible first | exact HB.out | apply below_alloc | apply pw_below_drewN | apply below_drew1 | refine below_set ?_ GB83.out | refine below_set ?_ GE137.out) | exact HB.out)⟩⟩
                       ·rw [if_neg c82] at H
                        exact absurd H (by simp)
                      ·rw [if_neg c81] at H
                       exact absurd H (by simp)
                     ·rw [if_neg c79] at H
                      exact absurd H (by simp)
                    ·replace c78:=Bool.eq_false_iff.mpr c78
                     subst c78
                     have H1 : (if 0 ≤ x37_2 then (if x37_2 < (x10_2.length : Int) then (glob_Match.l1 k2 a1 x7_1 (x10_2.set (x37_2 : Int).toNat false) t127 (t127.length : Int) x27_1 (y138.length : Int) (wrap64 (x37_2 + 1)) ((rd_T294 t127 x27_1).f0) ((rd_T294 t127 x27_1).f1)) else (none)) else (none))=some r:=q20_
                     clear H
                     have H:=H1
                     clear H1
                     by_cases c88 : 0 ≤ x37_2
                     ·rw [if_pos c88] at H
                      have c88b0 : decide (0 ≤ x37_2)=true:=decide_eq_true c88
                      clear c88
                      by_cases c89 : x37_2 < (x10_2.length : Int)
                      ·rw [if_pos c89] at H
                       have c89b0 : decide (x37_2 < (x10_2.length : Int))=true:=decide_eq_true c89
                       clear c89
                       obtain ⟨y151,hy151⟩ : ∃ y_ : List Bool,y_=(x10_2.set (x37_2 : Int).toNat false):=⟨_,rfl⟩
                       replace H : (glob_Match.l1 k2 a1 x7_1 y151 t127 (t127.length : Int) x27_1 (y138.length : Int) (wrap64 (x37_2 + 1)) ((rd_T294 t127 x27_1).f0) ((rd_T294 t127 x27_1).f1))=some r:=by first | (rw [hy151];with_reducible exact H) | (have H2_:=(Option.bind_some _ _).symm.trans H;rw [hy151];with_reducible exact H2_) | (have H2_:=(Option.bind_some _ _).symm.trans H;with_reducible exact H2_) | with_reducible exact H | (rw [hy151];exact H) | exact H
                       have Ny151:=Aside0.mk hy151
                       clear hy151
                       have H':=Aside0.mk H
                       clear H
                       have hcz91_0 : wr.cell? ⟨gb137,0,none⟩=some (.int .u8 ((rd_T294 t127 x27_1).f0)):=(blk_cell BK137.out 0).trans rfl
                       have hcz91_1 : wr.cell? ⟨gb137,1,none⟩=some (.int .u8 ((rd_T294 t127 x27_1).f1)):=(blk_cell BK137.out 1).trans rfl
                       have hfz91_0:=blk_frozen BK137.out 0
                       have hfz91_1:=blk_frozen BK137.out 1
                       try go_wp2
                       have n0_:=Aside0.mk (Kd.R_drew HO_7.out)
                       have n1_:=Aside0.mk (Kd.R_drew HO_10.out)
                       have n2_:=Aside0.mk (Kd.R_drew HO_25.out)
                       have n3_:=Aside0.mk (blk_drew BK137.out)
                       have n4_:=Aside0.mk (below_drew1 HB.out)
                       clear HO_7
                       clear HO_10
                       clear HO_25
                       clear BK137
                       clear HB
                       have HO_7:=n0_
                       have HO_10:=n1_
                       have HO_25:=n2_
                       have BK137:=n3_
                       have HB:=n4_
                       clear n0_ n1_ n2_ n3_ n4_
                       obtain ⟨Ao93,co93,eo93⟩:=Kd.R_slice HO_7.out
                       (first | subst eo93 | (injection eo93 with f1_ f2_ f3_;have f4_:=f1_.symm;have f5_:=f3_.symm;clear f1_ f2_ f3_;subst f4_;subst f5_))
                       have p149 : 0 ≤ ((ji74) : Int):=of_decide_eq_true q5_
                       have q149 : (ji74) < (x7_1.length : Int):=of_decide_eq_true q5_
                       obtain ⟨ad149,e149,hx149_0⟩:=Kd.at_bool (Kd.R_reads' HO_7.out).2.2 (ji74) p149 q149
                       (try rw [← Nbq77.out] at hx149_0)
                       cases e149
                       replace p149:=eq_true p149
                       replace q149:=eq_true q149
                       have p90 : 0 ≤ (x37_2 : Int):=of_decide_eq_true q5_
                       have q90 : (x37_2 : Int) < ((x10_2.length : Int) : Int):=of_decide_eq_true q5_
                       obtain ⟨go90,co90,eo90,gb90,gl90,cl90,HG90⟩:=Kd.R_form HO_10.out (by omega)
                       (first | cases eo90 | (injection eo90 with ea_ en_ ec_;(first | subst ea_ | (injection ea_ with ea_;subst ea_));subst ec_;clear en_))
                       have GB90:=Aside0.mk gb90
                       have GG90:=Aside0.mk HG90
                       clear gb90 gl90 HG90
                       obtain ⟨hx90_0,hf90_0⟩:=Kd.R_celln false HO_10.out (x37_2 : Int) p90 q90
                       replace p90:=eq_true p90
                       replace q90:=eq_true q90
                       have HP94:=Kd.R_putn HO_10.out (x37_2 : Int) false
                       rw [← Ny151.out] at HP94
                       have HQ94:=Aside0.mk HP94
                       clear HP94
                       refine start_ (n:=22) (S:=fun w'=>w'.cell? (ad149.add ((ji74)).toNat)=some (.bool false)) (ds:=[21]) _ (by kernel_rfl) rfl rfl (hx149_0) (fun hHeld=>?_);refine with_tabW glob_Match.tab14 glob_Match.bits14 (fun HT_ HW_=>?_)
                       generalize wr.drew=w92 at HO_7 HO_10 HO_25 BK137 HB GG90 HQ94 hf90_0 hx149_0 hx90_0 hHeld ⊢
                       refine pT_ 0 (some 42) ?_
                       refine pT_ 1 (some 43) ?_
                       refine pT_ 2 (some 44) ?_
                       refine pT_ 3 (some 45) ?_
                       refine pT_ 4 (some 46) ?_
                       refine pT_ 5 (some 47) ?_
                       refine pT_ 6 (some 48) ?_
                       refine pT_ 7 (some 49) ?_
                       refine pT_ 8 (some 50) ?_
                       refine take_ (i:=9) (N:=some 51) (v:=?_) (a':=?_) #[true,true,true,true,true,true,true,true,true,true,false,false,false,false,false,false,false,false,false,false,false,false] rfl rfl (take_ofW HT_.out HW_.out (by kernel_rfl)) (fun _ _ _ h=>h) (Or.inl ⟨by rfl,?_⟩) hHeld ?_ ?_
                       rotate_left
                       ·intro w' s0
                        go_simp
                        with_reducible rfl
                       rotate_left
                       ·simp only [Act.put,List.setIfInBounds_toArray,List.set_cons_zero,List.set_cons_succ,i64_w,i32_w]
                        rfl
                       refine pT_ 10 (some 52) ?_
                       refine pT_ 11 (some 53) ?_
                       refine pU_ 12 (some 54) ?_
                       refine pU_ 13 (some 55) ?_
                       refine pU_ 14 (some 56) ?_
                       refine pU_ 15 (some 57) ?_
                       refine pU_ 16 (some 58) ?_
                       refine pU_ 17 (some 59) ?_
                       refine pU_ 18 (some 60) ?_
                       refine pT_ 19 (some 61) ?_
                       refine pT_ 20 (some 62) ?_
                       refine lT_ 21 none fun K hK=>?_
                       refine skip_ (w1:=?_) (by rfl) rfl ?_ ?_
                       rotate_left
                       ·go_simp
                        rfl
                       refine hK.out _ _ ?_
                       clear hK K
                       refine done_ (done_of HT_.out (by kernel_rfl)) ?_
                       try go_wp2
                       (try simp only [← hl10_2])
                       go_roundg k2
                       case measure=>have:=HK1.out;have:=HK2.out;omega
                       case rel=>exact ⟨(y151),(wrap64 (x37_2 + 1)),q6_,H',⟨q48_⟩,⟨by (try simp only [hl10_2]);(with_reducible repeat (first | apply Kd.R_alloc | apply Kd.R_drewN | apply Kd.R_drew));exact Kd.R_mono (Kd.R_far (p:=⟨go90,(x37_2 : Int).toNat,none⟩) (Kd.R_mono HO_7.out (fun k_ hk=>(⟨hk,fun e_=>hk (by rw [e_];rfl)⟩ : _∧k_ ≠ go90))) (fun _ hk=>hk.2) (.bool false)) (fun _ hk=>hk.1)⟩,⟨by (try simp only [hl10_2]);(with_reducible repeat (first | apply Kd.R_alloc | apply Kd.R_drewN | apply Kd.R_drew));exact HQ94.out⟩,⟨by (try simp only [hl10_2]);(with_reducible repeat (first | apply Kd.R_alloc | apply Kd.R_drewN | apply Kd.R_drew));exact Kd.R_mono (Kd.R_far (p:=⟨go90,(x37_2 : Int).toNat,none⟩) (Kd.R_types HO_25.out GG90.out (by decide)) (fun _ hk=>hk.2) (.bool false)) (fun _ hk=>hk.1)⟩,⟨by (try simp only [hl10_2]);(with_reducible repeat (first | refine blk_drewN ?_ _ | refine blk_drew ?_ | refine blk_alloc ?_ _));refine blk_far ?_ (by have h_:=Kd.R_ne HO_10.out BK137.out (by decide);intro e_;exact h_ (by rw [e_];rfl)) _;(with_reducible repeat (first | refine blk_drewN ?_ _ | refine blk_drew ?_ | refine blk_alloc ?_ _));exact BK137.out⟩,⟨by repeat (first | (with_reducible first | exact HB.out | apply below_alloc | apply pw_below_drewN | apply below_drew1 | refine below_set ?_ GB90.out | refine below_set ?_ GE137.out) | exact HB.out)⟩⟩
                      ·rw [if_neg c89] at H
                       exact absurd H (by simp)
                     ·rw [if_neg c88] at H
                      exact absurd H (by simp)
                   ·rw [if_neg c76] at H
                    exact absurd H (by simp)
                  ·rw [if_neg c75] at H
                   exact absurd H (by simp)
                 ·rw [if_neg c73] at H
                  have c73b0 : decide (0 < x37_2)=false:=decide_eq_false c73
                  clear c73
                  by_cases c95 : 0 ≤ x37_2
                  ·rw [if_pos c95] at H
                   have c95b0 : decide (0 ≤ x37_2)=true:=decide_eq_true c95
                   clear c95
                   by_cases c96 : x37_2 < (x10_2.length : Int)
                   ·rw [if_pos c96] at H
                    have c96b0 : decide (x37_2 < (x10_2.length : Int))=true:=decide_eq_true c96
                    clear c96
                    obtain ⟨y152,hy152⟩ : ∃ y_ : List Bool,y_=(x10_2.set (x37_2 : Int).toNat false):=⟨_,rfl⟩
                    replace H : (glob_Match.l1 k2 a1 x7_1 y152 t127 (t127.length : Int) x27_1 (y138.length : Int) (wrap64 (x37_2 + 1)) ((rd_T294 t127 x27_1).f0) ((rd_T294 t127 x27_1).f1))=some r:=by first | (rw [hy152];with_reducible exact H) | (have H2_:=(Option.bind_some _ _).symm.trans H;rw [hy152];with_reducible exact H2_) | (have H2_:=(Option.bind_some _ _).symm.trans H;with_reducible exact H2_) | with_reducible exact H | (rw [hy152];exact H) | exact H
                    have Ny152:=Aside0.mk hy152
                    clear hy152
                    have H':=Aside0.mk H
                    clear H
                    have hcz98_0 : wr.cell? ⟨gb137,0,none⟩=some (.int .u8 ((rd_T294 t127 x27_1).f0)):=(blk_cell BK137.out 0).trans rfl
                    have hcz98_1 : wr.cell? ⟨gb137,1,none⟩=some (.int .u8 ((rd_T294 t127 x27_1).f1)):=(blk_cell BK137.out 1).trans rfl
                    have hfz98_0:=blk_frozen BK137.out 0
                    have hfz98_1:=blk_frozen BK137.out 1
                    try go_wp2
                    have n0_:=Aside0.mk (Kd.R_drew HO_7.out)
                    have n1_:=Aside0.mk (Kd.R_drew HO_10.out)
                    have n2_:=Aside0.mk (Kd.R_drew HO_25.out)
                    have n3_:=Aside0.mk (blk_drew BK137.out)
                    have n4_:=Aside0.mk (below_drew1 HB.out)
                    clear HO_7
                    clear HO_10
                    clear HO_25
                    clear BK137
                    clear HB
                    have HO_7:=n0_
                    have HO_10:=n1_
                    have HO_25:=n2_
                    have BK137:=n3_
                    have HB:=n4_
                    clear n0_ n1_ n2_ n3_ n4_
                    have p97 : 0 ≤ (x37_2 : Int):=of_decide_eq_true q5_
                    have q97 : (x37_2 : Int) < ((x10_2.length : Int) : Int):=of_decide_eq_true q5_
                    obtain ⟨go97,co97,eo97,gb97,gl97,cl97,HG97⟩:=Kd.R_form HO_10.out (by omega)
                    (first | cases eo97 | (injection eo97 with ea_ en_ ec_;(first | subst ea_ | (injection ea_ with ea_;subst ea_));subst ec_;clear en_))
                    have GB97:=Aside0.mk gb97
                    have GG97:=Aside0.mk HG97
                    clear gb97 gl97 HG97
                    obtain ⟨hx97_0,hf97_0⟩:=Kd.R_celln false HO_10.out (x37_2 : Int) p97 q97
                    replace p97:=eq_true p97
                    replace q97:=eq_true q97
                    have HP100:=Kd.R_putn HO_10.out (x37_2 : Int) false
                    rw [← Ny152.out] at HP100
                    have HQ100:=Aside0.mk HP100
                    clear HP100
                    refine start_ (n:=22) (S:=fun w'=>True) (ds:=[21]) _ (by kernel_rfl) rfl rfl trivial (fun hHeld=>?_);refine with_tabW glob_Match.tab14 glob_Match.bits14 (fun HT_ HW_=>?_)
                    generalize wr.drew=w99 at HO_7 HO_10 HO_25 BK137 HB GG97 HQ100 hf97_0 hx97_0 hHeld ⊢
                    refine pT_ 0 (some 42) ?_
                    refine pT_ 1 (some 43) ?_
                    refine pT_ 2 (some 44) ?_
                    refine pT_ 3 (some 45) ?_
                    refine pT_ 4 (some 46) ?_
                    refine pU_ 5 (some 47) ?_
                    refine pU_ 6 (some 48) ?_
                    refine pU_ 7 (some 49) ?_
                    refine pU_ 8 (some 50) ?_
                    refine pU_ 9 (some 51) ?_
                    refine pT_ 10 (some 52) ?_
                    refine pT_ 11 (some 53) ?_
                    refine pU_ 12 (some 54) ?_
                    refine pU_ 13 (some 55) ?_
                    refine pU_ 14 (some 56) ?_
                    refine pU_ 15 (some 57) ?_
                    refine pU_ 16 (some 58) ?_
                    refine pU_ 17 (some 59) ?_
                    refine pU_ 18 (some 60) ?_
                    refine pT_ 19 (some 61) ?_
                    refine pT_ 20 (some 62) ?_
                    refine lT_ 21 none fun K hK=>?_
                    refine skip_ (w1:=?_) (by rfl) rfl ?_ ?_
                    rotate_left
                    ·go_simp
                     rfl
                    refine hK.out _ _ ?_
                    clear hK K
                    refine done_ (done_of HT_.out (by kernel_rfl)) ?_
                    try go_wp2
                    (try simp only [← hl10_2])
                    go_roundg k2
                    case measure=>have:=HK1.out;have:=HK2.out;omega
                    case rel=>exact ⟨(y152),(wrap64 (x37_2 + 1)),q6_,H',⟨q48_⟩,⟨by (try simp only [hl10_2]);(with_reducible repeat (first | apply Kd.R_alloc | apply Kd.R_drewN | apply Kd.R_drew));exact Kd.R_mono (Kd.R_far (p:=⟨go97,(x37_2 : Int).toNat,none⟩) (Kd.R_mono HO_7.out (fun k_ hk=>(⟨hk,fun e_=>hk (by rw [e_];rfl)⟩ : _∧k_ ≠ go97))) (fun _ hk=>hk.2) (.bool false)) (fun _ hk=>hk.1)⟩,⟨by (try simp only [hl10_2]);(with_reducible repeat (first | apply Kd.R_alloc | apply Kd.R_drewN | apply Kd.R_drew));exact HQ100.out⟩,⟨by (try simp only [hl10_2]);(with_reducible repeat (first | apply Kd.R_alloc | apply Kd.R_drewN | apply Kd.R_drew));exact Kd.R_mono (Kd.R_far (p:=⟨go97,(x37_2 : Int).toNat,none⟩) (Kd.R_types HO_25.out GG97.out (by decide)) (fun _ hk=>hk.2) (.bool false)) (fun _ hk=>hk.1)⟩,⟨by (try simp only [hl10_2]);(with_reducible repeat (first | refine blk_drewN ?_ _ | refine blk_drew ?_ | refine blk_alloc ?_ _));refine blk_far ?_ (by have h_:=Kd.R_ne HO_10.out BK137.out (by decide);intro e_;exact h_ (by rw [e_];rfl)) _;(with_reducible repeat (first | refine blk_drewN ?_ _ | refine blk_drew ?_ | refine blk_alloc ?_ _));exact BK137.out⟩,⟨by repeat (first | (with_reducible first | exact HB.out | apply below_alloc | apply pw_below_drewN | apply below_drew1 | refine below_set ?_ GB97.out | refine below_set ?_ GE137.out) | exact HB.out)⟩⟩
                   ·rw [if_neg c96] at H
                    exact absurd H (by simp)
                  ·rw [if_neg c95] at H
                   exact absurd H (by simp)
              ·rw [if_neg c27] at H
               have c27b0 : decide (x37_2 < (y138.length : Int))=false:=decide_eq_false c27
               try have c27b9_10_2 : decide (x37_2 < (x10_2.length : Int))=false:=by rw [← hl10_2];exact c27b0
               clear c27
               have H':=Aside0.mk H
               clear H
               go_wp2
               (try simp only [← hl10_2])
               go_roundg k2
               case measure=>have:=HK1.out;have:=HK2.out;omega
               case rel=>exact ⟨(x10_2),(wrap64 (x27_1 + 1)),q6_,H',⟨q48_⟩,⟨by (try simp only [hl10_2]);(with_reducible repeat (first | apply Kd.R_alloc | apply Kd.R_drewN | apply Kd.R_drew));exact Kd.R_mono HO_10.out (fun _ hk=>trivial)⟩,⟨by (try simp only [hl10_2]);(with_reducible repeat (first | apply Kd.R_alloc | apply Kd.R_drewN | apply Kd.R_drew));exact Kd.R_mono HO_25.out (fun _ hk=>trivial)⟩,⟨q14_⟩⟩
           ·rw [if_neg c21] at H
            exact absurd H (by simp)
          ·rw [if_neg c20] at H
           exact absurd H (by simp)
         ·rw [if_neg c18] at H
          exact absurd H (by simp)
        ·rw [if_neg c17] at H
         exact absurd H (by simp)
       ·rw [if_neg c16] at H
        have c16b0 : decide (x27_1 < (t127.length : Int))=false:=decide_eq_false c16
        clear c16
        by_cases c101 : 0 ≤ (a1.size : Int)
        ·rw [if_pos c101] at H
         have c101b0 : decide (0 ≤ (a1.size : Int))=true:=decide_eq_true c101
         have c101b1 : decide (0 ≤ a1.size)=true:=decide_eq_true (by omega)
         clear c101
         by_cases c102 : (a1.size : Int) < (x7_1.length : Int)
         ·rw [if_pos c102] at H
          have c102b0 : decide ((a1.size : Int) < (x7_1.length : Int))=true:=decide_eq_true c102
          have c102b1 : decide (a1.size < x7_1.length)=true:=decide_eq_true (Int.ofNat_lt.mp c102)
          clear c102
          obtain rfl:=Option.some.inj H
          obtain ⟨Ao103,co103,eo103⟩:=Kd.R_slice HO_7.out
          subst eo103
          have p135 : 0 ≤ ((a1.size : Int) : Int):=of_decide_eq_true q5_
          have q135 : (a1.size : Int) < (x7_1.length : Int):=of_decide_eq_true q5_
          obtain ⟨ad135,e135,hx135_0⟩:=Kd.at_bool (Kd.R_reads' HO_7.out).2.2 (a1.size : Int) p135 q135
          try simp only [Int.toNat_natCast] at hx135_0
          cases e135
          replace p135:=eq_true p135
          replace q135:=eq_true q135
          go_wp2
          go_ret
          exact ⟨by first | rfl | (simp [errW_none,errW_some] <;> rfl) | (simp only [← hji5];first | rfl | (simp [errW_none,errW_some] <;> rfl)) | (simp [*,errW_none,errW_some] <;> rfl),q1_⟩
         ·rw [if_neg c102] at H
          exact absurd H (by simp)
        ·rw [if_neg c101] at H
         exact absurd H (by simp)
    ·rw [if_neg c8] at H
     exact absurd H (by simp)
   ·rw [if_neg c7] at H
    exact absurd H (by simp)
  ·rw [if_neg c6] at H
   exact absurd H (by simp)
 ·replace c4:=Bool.eq_false_iff.mpr c4
  subst c4
  have H1 : (some false)=some r:=q20_
  clear H
  have H:=H1
  clear H1
  obtain rfl:=Option.some.inj H
  go_enter Tryz.func147,Tryz.ntmps147
  go_wp2_with (first | ((with_reducible refine gate_callee (f:=215) rfl ?_);refine goesL_ (some 14) rfl rfl Tryz.func215 (by kernel_rfl) rfl #[.string a0] rfl q7_ ?_;(with_reducible refine (glob_pieces.calls k a0 t127 false _ A3.out).mono ?_);rintro e w104 ⟨v129,rfl,ho0,hb⟩;refine ⟨_,rfl,?_⟩;have n0_:=Aside0.mk (Kd.R_lower ho0 (below_size q1_));have n1_:=Aside0.mk (below_step q1_ hb);clear HB;have HO130:=n0_;have HB:=n1_;clear n0_ n1_;(try clear hb);(try clear hb2);(try clear hk);(try clear hi);(try clear ho0)))
  go_ret
  exact ⟨q3_,q1_⟩
end Go.Proofs.YtkekohmkaefdnaaGreatDoor.Pa
