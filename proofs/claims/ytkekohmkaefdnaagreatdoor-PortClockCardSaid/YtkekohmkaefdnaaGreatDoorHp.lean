import Derived.Test.YtkekohmkaefdnaaGreatDoorCu
import Derived.Test.YtkekohmkaefdnaaGreatDoorNw
set_option linter.unusedSimpArgs false
set_option linter.unusedVariables false
set_option maxHeartbeats 4000000
set_option maxRecDepth 100000
namespace Go.Proofs.YtkekohmkaefdnaaGreatDoor
open Go.RowKit Go.Maps Go.Shelf Go.Proofs.YtkekohmkaefdnaaGreatDoorW.PrintWords Go.Proofs.YtkekohmkaefdnaaGreatDoorW.PrintLast
attribute [local go_sem ↓] Go.wp_at_zero Go.wp_at_succ
abbrev repA (e : Int) (v : ByteArray) (n ver : Int) (ks : Value) : Value:=.agg #[.int .i64 e,.string v,.int .i64 n,.int .i64 ver,ks]
def evict (bud : Int) : List It→Int→List It × Int
 | [],g=>([],g)
 | x :: L,g=>if bud < usedL (x :: L) then evict bud L (g + 1) else (x :: L,g)
theorem cut_head {x : It} {L : List It} (h : ((x :: L).map It.k).Nodup) : cutL (x :: L) x.k=L:=by
 have hp:=cut_perm h (List.mem_cons_self ..) rfl
 rw [List.map_cons,List.nodup_cons] at h
 unfold cutL
 rw [List.filter_cons,key_same,decide_eq_true rfl]
 show List.filter _ L=L
 refine List.filter_eq_self.2 fun z hz=>?_
 rw [key_same]
 have : z.k ≠ x.k:=fun e=>h.1 (e ▸ List.mem_map_of_mem hz)
 simp [this]
theorem Short.tail {x : It} {L : List It} (h : Short (x :: L)) : Short L:=⟨by have:=h.1;rw [List.length_cons] at this;omega,fun y hy=>h.2 y (List.mem_cons_of_mem _ hy)⟩
theorem CaI.head {w : World} {cb : Nat} {bud ver gone : Int} {x : It} {L : List It} {O : Nat→Prop} (h : CaI w cb bud (x :: L) ver gone O) : ∃ (tb b n c : Nat),At w cb (cacheV bud tb (.slice (some ⟨b,0,none⟩) (n + 1) c) (usedL (x :: L)) ver gone) TCache∧w.cell? ⟨b,0,none⟩=some (.string x.k):=by
 obtain ⟨tb,vo,bo,ss,Ot,h⟩:=h
 have ho:=h.order
 have hc:=h.cells
 generalize hks : (x :: L).map It.k=ks at ho
 cases ho with
 | nil=>cases hks
 | row l b c zs hb hl hm hz=>
  subst hks
  refine ⟨tb,b,(L.map It.k).length,c,?_,hb.cell 0 rfl⟩
  rw [List.map_cons,List.length_cons] at hc
  exact hc
theorem write_gen (cb : Nat) (bud : Int) (L : List It) (ver gone : Int) (O : Nat→Prop) (x : It) (w : World) (hC : CaI w cb bud L ver gone O) (hs : Short L) (hl : L.length < 90000) (hx : ShortI x) (hb0 : 0 ≤ bud) (hv0 : 0 ≤ ver) (hv1 : ver ≤ 1000000000) (hg0 : 0 ≤ gone) (hg1 : gone ≤ 1000000000) (hfit : costI x ≤ bud) :
  Calls Tryz.prog 149 #[.pointer (some ⟨cb,0,none⟩),x.val] w fun e w'=>e=.returned (repA 0 ⟨#[]⟩ 0 (ver + 1) (.slice none 0 0))∧CaI w' cb bud (evict bud (putL L { x with ver:=ver + 1 }) gone).1 (ver + 1) (evict bud (putL L { x with ver:=ver + 1 }) gone).2 (Own O w w')∧Tch O w w':=by
 have hLT:=hC.lt
 have hcl:=hLT _ hC.own
 have hco:=fun W=>Pb.cache_Cost.calls x.k x.v x.ver x.unt (costI x) W (cost_some x hx _ _)
 have ta : Tch (fun _=>False) w ((w.alloc (.cells #[.string x.k,.string x.v,.int .i64 x.ver,.int .i64 x.unt] TItem)).alloc (.cells #[.int .i64 0,.string ⟨#[]⟩,.int .i64 0,.int .i64 0,.slice none 0 0] TReply)):=((Tch.refl _ w).talloc).talloc
 have ca : At ((w.alloc (.cells #[.string x.k,.string x.v,.int .i64 x.ver,.int .i64 x.unt] TItem)).alloc (.cells #[.int .i64 0,.string ⟨#[]⟩,.int .i64 0,.int .i64 0,.slice none 0 0] TReply)) w.heap.size x.cells TItem:=(At.new w _ _).alloc _
 have cr : At ((w.alloc (.cells #[.string x.k,.string x.v,.int .i64 x.ver,.int .i64 x.unt] TItem)).alloc (.cells #[.int .i64 0,.string ⟨#[]⟩,.int .i64 0,.int .i64 0,.slice none 0 0] TReply)) (w.heap.size + 1) [.int .i64 0,.string ⟨#[]⟩,.int .i64 0,.int .i64 0,.slice none 0 0] TReply:=at_new' _ _ _ _ (by simp)
 obtain ⟨W0,hW0⟩ : ∃ W0,((w.alloc (.cells #[.string x.k,.string x.v,.int .i64 x.ver,.int .i64 x.unt] TItem)).alloc (.cells #[.int .i64 0,.string ⟨#[]⟩,.int .i64 0,.int .i64 0,.slice none 0 0] TReply))=W0:=⟨_,rfl⟩
 rw [hW0] at ta ca cr
 have hC0:=hC.tch ta (fun _ _ h=>h)
 obtain ⟨tb,vo,bo,ss,Ot,hR⟩:=hC0
 have HC:=Lib.hid hC
 have CA:=Lib.hid ca
 have CR:=Lib.hid cr
 have TA:=Lib.hid ta
 have HR:=Lib.hid hR
 have hgl:=cr.lt
 go_enter Tryz.func149,Tryz.ntmps149
 go_wp2
 try rw [hW0]
 generalize hga : w.heap.size=ga at *
 have mk : ∀ W' : World,Tch (fun _=>False) W0 W'→(W'.cell? ⟨cb,0,none⟩=some (.int .i64 bud)∧W'.cell? ⟨ga,0,none⟩=some (.string x.k)∧W'.cell? ⟨ga,1,none⟩=some (.string x.v)∧W'.cell? ⟨ga,2,none⟩=some (.int .i64 x.ver)∧W'.cell? ⟨ga,3,none⟩=some (.int .i64 x.unt)):=fun W' t=>⟨(HR.out.cells.tch t (fun h=>h)).cell 0 rfl,(CA.out.tch t (fun h=>h)).cell 0 rfl,(CA.out.tch t (fun h=>h)).cell 1 rfl,(CA.out.tch t (fun h=>h)).cell 2 rfl,(CA.out.tch t (fun h=>h)).cell 3 rfl⟩
 clear hC ca cr ta hW0 hR
 have hnle : ¬ bud < costI x:=by omega
 refine start_ (n:=7) (S:=fun W'=>W'.cell? ⟨cb,0,none⟩=some (.int .i64 bud)∧W'.cell? ⟨ga,0,none⟩=some (.string x.k)∧W'.cell? ⟨ga,1,none⟩=some (.string x.v)∧W'.cell? ⟨ga,2,none⟩=some (.int .i64 x.ver)∧W'.cell? ⟨ga,3,none⟩=some (.int .i64 x.unt)) (ds:=[]) _ (by kernel_rfl) rfl rfl (mk _ (Tch.drew _ _)) (fun hHeld=>?_)
 refine pu_ 2 (some 7) ?_
 refine pu_ 3 (some 8) ?_
 refine pu_ 4 (some 9) ?_
 refine ta_ 0 (some 5) hHeld ?_
 refine ta_ 5 (some 10) hHeld ?_
 refine on_ 1 (some 6) fun K hK=>?_
 go_simp;go_at_call 220;refine (hco _).mono ?_;rintro e w1 ⟨rfl,hb1⟩;have t1:=(Tch.drew (fun _=>False) W0).tbelow hb1;go_simp
 refine hK.out _ _ (mk _ t1) (fun hHeld2_=>?_)
 clear hK K hHeld;have hHeld:=hHeld2_;clear hHeld2_
 refine nm_ (some 6) ?_
 refine pu_ 6 (some 11) ?_
 refine done_ (by kernel_rfl) ?_;clear hHeld
 have hC1:=HR.out.cells.tch t1 (fun h=>h)
 have hA1:=CA.out.tch t1 (fun h=>h)
 have hcg : cb ≠ ga:=by omega
 have hadd:=i64_add ⟨cb,4,none⟩ ver 1 (ver + 1) _ (hC1.cell 4 rfl) (hC1.frozen 4) q43_
 have f2:=(hA1.other ⟨cb,4,none⟩ (.int .i64 (ver + 1)) (Ne.symm hcg)).frozen 2
 have q2:=(hA1.other ⟨cb,4,none⟩ (.int .i64 (ver + 1)) (Ne.symm hcg)).cell 2 rfl
 have hC2 : CaI ((w1.setCell ⟨cb,4,none⟩ (.int .i64 (ver + 1))).setCell ⟨ga,2,none⟩ (.int .i64 (ver + 1))) cb bud L (ver + 1) gone O:=
  (((HC.out.tch (TA.out.trans t1 (fun _ _ h=>h)) (fun _ _ h=>h)).setVer (ver + 1)).tch (Tch.set _ ⟨ga,2,none⟩ _) (fun k hk e=>by have h1:=hLT k hk;have h2 : k=ga:=e;omega))
 have hA2 : At ((w1.setCell ⟨cb,4,none⟩ (.int .i64 (ver + 1))).setCell ⟨ga,2,none⟩ (.int .i64 (ver + 1))) ga ({ x with ver:=ver + 1 } : It).cells TItem:=(hA1.other ⟨cb,4,none⟩ (.int .i64 (ver + 1)) (Ne.symm hcg)).set 2 (.int .i64 (ver + 1))
 have hR2:=((CR.out.tch t1 (fun h=>h)).other ⟨cb,4,none⟩ (.int .i64 (ver + 1)) (by show ga + 1 ≠ cb;omega)).other ⟨ga,2,none⟩ (.int .i64 (ver + 1)) (by show ga + 1 ≠ ga;omega)
 have t2 : Tch O w ((w1.setCell ⟨cb,4,none⟩ (.int .i64 (ver + 1))).setCell ⟨ga,2,none⟩ (.int .i64 (ver + 1))):=(((TA.out.trans t1 (fun _ _ h=>h)).mono (fun _ _ h=>h.elim)).tset (fun _=>HC.out.own)).tset (fun h=>by have h' : ga < w.heap.size:=h;omega)
 obtain ⟨W2,hW2⟩ : ∃ W2,(w1.setCell ⟨cb,4,none⟩ (.int .i64 (ver + 1))).setCell ⟨ga,2,none⟩ (.int .i64 (ver + 1))=W2:=⟨_,rfl⟩
 rw [hW2] at hC2 hA2 hR2 t2
 have hput:=put_gen cb bud L (ver + 1) gone O { x with ver:=ver + 1 } W2 hC2 hs hl hx
 have x0:=hA2.cell 0 rfl
 have x1:=hA2.cell 1 rfl
 have x2:=hA2.cell 2 rfl
 have x3:=hA2.cell 3 rfl
 have A2:=Lib.hid hA2
 have R2:=Lib.hid hR2
 have T2:=Lib.hid t2
 clear hC2 hA2 hR2 t2 t1 hb1 hC1 hA1 mk hco
 go_wp2_with (go_at_call 55;refine hadd.mono ?_;rintro e w6 ⟨rfl,rfl⟩)
 clear hW2 hadd f2 q2
 refine hput.mono ?_
 rintro e w3 ⟨rfl,hC3,t3⟩
 have hgl2:=A2.out.lt
 have hrl2:=R2.out.lt
 have nga : ¬ O ga:=fun h=>by have:=hLT _ h;omega
 have nra : ¬ O (ga + 1):=fun h=>by have:=hLT _ h;omega
 have hA3:=A2.out.tch t3 nga
 have hR3:=R2.out.tch t3 nra
 have hC3' : ∃ O2,CaI w3 cb bud (putL L { x with ver:=ver + 1 }) (ver + 1) gone O2∧(∀ k,O2 k→Own O w w3 k)∧¬ O2 ga∧¬ O2 (ga + 1):=by
  have q2:=T2.out.size
  refine ⟨_,hC3,?_,?_,?_⟩
  ·rintro k (h | ⟨h,h'⟩)
   ·exact .inl h
   ·exact .inr ⟨by omega,h'⟩
  ·rintro (h | ⟨h,h'⟩)
   ·exact nga h
   ·omega
  ·rintro (h | ⟨h,h'⟩)
   ·exact nra h
   ·omega
 have t03 : Tch O w w3:=T2.out.trans t3 (fun _ _ h=>h)
 have hsP : Short (putL L { x with ver:=ver + 1 }):=hs.put hl hx
 generalize hP : putL L { x with ver:=ver + 1 }=P at hC3' hsP ⊢
 have A3:=Lib.hid hA3
 have R3:=Lib.hid hR3
 have C3:=Lib.hid hC3'
 have T3:=Lib.hid t03
 clear hA3 hR3 hC3 hC3' t03 t3 hput x0 x1 x2 x3
 go_wp2
 go_loopg [] P.length (fun gg wr=>∃ L2 g2,evict bud P gone=evict bud L2 g2∧L2.length=gg∧Short L2∧g2 + L2.length ≤ gone + P.length∧0 ≤ g2∧(∃ O2,CaI wr cb bud L2 (ver + 1) g2 O2∧(∀ k,O2 k→Own O w wr k)∧¬ O2 ga∧¬ O2 (ga + 1))∧Tch O w wr∧At wr ga ({ x with ver:=ver + 1 } : It).cells TItem∧At wr (ga + 1) [.int .i64 0,.string ⟨#[]⟩,.int .i64 0,.int .i64 0,.slice none 0 0] TReply)
 case atStart=>exact ⟨P,gone,rfl,rfl,hsP,Int.le_refl _,hg0,C3.out,T3.out,A3.out,R3.out⟩
 case round=>
  obtain ⟨L2,g2,hev,hlen,hs2,hgb,hg2,⟨O2,hC4,hO2,n2a,n2r⟩,t4,hA4,hR4⟩:=hrel
  have hcl2:=hC4.lt _ hC4.own
  have hPl:=hsP.1
  by_cases hov : bud < usedL L2
  ·cases L2 with
   | nil=>exact absurd hov (by simp [usedL];omega)
   | cons y L3=>
    obtain ⟨tb2,b,n,c,hcells,hkey⟩:=hC4.head
    have c0:=hcells.cell 0 rfl
    have c2:=hcells.cell 2 rfl
    have c3:=hcells.cell 3 rfl
    have hys:=(hs2.2 y (List.mem_cons_self ..)).1
    have hdel:=fun W (t : Tch (fun _=>False) wr W)=>del_gen cb bud (y :: L3) (ver + 1) g2 O2 y.k W (hC4.tch t (fun _ _ h=>h)) (by omega) hs2
    rw [cut_head hC4.nodup] at hdel
    have hev2 : evict bud (y :: L3) g2=evict bud L3 (g2 + 1):=by
     rw [evict,if_pos hov]
    have HC4:=Lib.hid hC4
    have T4:=Lib.hid t4
    have A4:=Lib.hid hA4
    have R4:=Lib.hid hR4
    have HO2:=Lib.hid hO2
    have HEV:=Lib.hid (hev.trans hev2)
    have HCE:=Lib.hid hcells
    clear hC4 t4 hA4 hR4 hO2 hev hev2 hcells
    go_wp2
    refine start_ (n:=9) (S:=fun W'=>W'.cell? ⟨cb,3,none⟩=some (.int .i64 (usedL (y :: L3)))∧W'.cell? ⟨cb,0,none⟩=some (.int .i64 bud)) (ds:=[]) _ (by kernel_rfl) rfl rfl (⟨c3,c0⟩) (fun hHeld=>?_)
    refine pu_ 0 (some 21) ?_
    refine pu_ 1 (some 22) ?_
    refine pu_ 2 (some 23) ?_
    refine pu_ 4 (some 25) ?_
    refine pu_ 5 (some 26) ?_
    refine pu_ 6 (some 27) ?_
    refine ta_ 3 (some 24) hHeld ?_
    refine ta_ 7 (some 28) hHeld ?_
    refine pu_ 8 (some 29) ?_
    refine done_ (by kernel_rfl) ?_;clear hHeld
    have d0 : wr.drew.cell? ⟨cb,2,none⟩=some (.slice (some ⟨b,0,none⟩) (n + 1) c):=c2
    have d1 : wr.drew.cell? ⟨b,0,none⟩=some (.string y.k):=hkey
    go_wp2_with (go_at_call 148;refine (hdel _ (Tch.drew _ _)).mono ?_;rintro e w5 ⟨rfl,hC5,t5⟩)
    have hadd5 : Calls Tryz.prog 55 #[.pointer (some ⟨cb,5,none⟩),.int .i64 1] w5 fun e w'=>e=.returned (.int .i64 (g2 + 1))∧w'=w5.setCell ⟨cb,5,none⟩ (.int .i64 (g2 + 1)):=by
     obtain ⟨tb5,vo5,bo5,ss5,Ot5,hR5⟩:=hC5
     exact i64_add ⟨cb,5,none⟩ g2 1 (g2 + 1) w5 (hR5.cells.cell 5 rfl) (hR5.cells.frozen 5) q43_
    have hA5:=A4.out.drew.tch t5 n2a
    have hR5:=R4.out.drew.tch t5 n2r
    have C5:=Lib.hid hC5
    have T5:=Lib.hid t5
    have A5:=Lib.hid hA5
    have R5:=Lib.hid hR5
    have hal:=hA5.lt
    have hrl:=hR5.lt
    clear hC5 t5 hA5 hR5 hdel c0 c2 c3 d0 d1 hkey
    go_wp2_with (go_at_call 55;refine hadd5.mono ?_;rintro e w6 ⟨rfl,rfl⟩)
    go_roundg L3.length
    case measure=>rw [List.length_cons] at hlen;omega
    case rel=>
     have q4:=T4.out.size
     have q5 : wr.heap.size ≤ w5.heap.size:=T5.out.size
     have hsz : (w5.setCell ⟨cb,5,none⟩ (.int .i64 (g2 + 1))).heap.size=w5.heap.size:=size_set _ _ _
     have hold : ∀ k,k < w.heap.size→O2 k→O k:=fun k hk h=>Own.old (HO2.out k h) hk
     refine ⟨L3,g2 + 1,HEV.out,rfl,hs2.tail,by rw [List.length_cons] at hgb;omega,by omega,⟨Own O2 wr.drew w5,C5.out.setGone (g2 + 1),?_,?_,?_⟩,?_,?_,?_⟩
     ·rintro k (h | ⟨h,h'⟩)
      ·rcases HO2.out k h with h | ⟨h,h'⟩
       ·exact .inl h
       ·exact .inr ⟨h,by omega⟩
      ·have h1 : wr.heap.size ≤ k:=h
       exact .inr ⟨by omega,by omega⟩
     ·rintro (h | ⟨h,_⟩)
      ·exact n2a h
      ·have h1 : wr.heap.size ≤ ga:=h
       have:=A4.out.lt
       omega
     ·rintro (h | ⟨h,_⟩)
      ·exact n2r h
      ·have h1 : wr.heap.size ≤ ga + 1:=h
       have:=R4.out.lt
       omega
     ·exact (T4.out.trans ((Tch.drew O2 wr).trans T5.out (fun _ _ h=>h)) (fun k hk h=>hold k hk h)).tset (fun _=>HC.out.own)
     ·exact A5.out.other _ _ (by show ga ≠ cb;omega)
     ·exact R5.out.other _ _ (by show ga + 1 ≠ cb;omega)
  ·have hev2 : evict bud L2 g2=(L2,g2):=by
    cases L2 with
    | nil=>rfl
    | cons y L3=>unfold evict;rw [if_neg hov]
   obtain ⟨tb2,vo2,bo2,ss2,Ot2,hR2⟩:=hC4
   have c0:=hR2.cells.cell 0 rfl
   have c3:=hR2.cells.cell 3 rfl
   have r0:=hR4.cell 0 rfl
   have r1:=hR4.cell 1 rfl
   have r2:=hR4.cell 2 rfl
   have r3:=hR4.cell 3 rfl
   have r4:=hR4.cell 4 rfl
   have z0:=hR4.frozen 0
   have z1:=hR4.frozen 1
   have z2:=hR4.frozen 2
   have z3:=hR4.frozen 3
   have z4:=hR4.frozen 4
   have y2:=hA4.cell 2 rfl
   have t9:=(tch_set5 wr (ga + 1) (.int .i64 0) (.string ⟨#[]⟩) (.int .i64 0) (.int .i64 (ver + 1)) (.slice none 0 0)).tdrew
   have a9:=(at_set5 hR4 (.int .i64 0) (.string ⟨#[]⟩) (.int .i64 0) (.int .i64 (ver + 1)) (.slice none 0 0)).drew
   have hov' : ¬ bud < usedL L2:=hov
   have HR2:=Lib.hid hR2
   have T4:=Lib.hid t4
   have HO2:=Lib.hid hO2
   have HEV:=Lib.hid (hev.trans hev2)
   clear hR2 t4 hO2 hev hev2 hA4 hR4
   go_wp2
   refine start_ (n:=9) (S:=fun W'=>W'.cell? ⟨cb,3,none⟩=some (.int .i64 (usedL L2))∧W'.cell? ⟨cb,0,none⟩=some (.int .i64 bud)) (ds:=[]) _ (by kernel_rfl) rfl rfl (⟨c3,c0⟩) (fun hHeld=>?_)
   refine pu_ 0 (some 21) ?_
   refine pu_ 1 (some 22) ?_
   refine pu_ 2 (some 23) ?_
   refine pu_ 4 (some 25) ?_
   refine pu_ 5 (some 26) ?_
   refine pu_ 6 (some 27) ?_
   refine ta_ 3 (some 24) hHeld ?_
   refine ta_ 7 (some 28) hHeld ?_
   refine pu_ 8 (some 29) ?_
   refine done_ (by kernel_rfl) ?_;clear hHeld
   go_wp2
   obtain ⟨W9,hW9⟩ : ∃ W9,(((((wr.setCell ⟨ga + 1,0,none⟩ (.int .i64 0)).setCell ⟨ga + 1,1,none⟩ (.string ⟨#[]⟩)).setCell ⟨ga + 1,2,none⟩ (.int .i64 0)).setCell ⟨ga + 1,3,none⟩ (.int .i64 (ver + 1))).setCell ⟨ga + 1,4,none⟩ (.slice none 0 0)).drew=W9:=⟨_,rfl⟩
   rw [hW9] at a9 t9 ⊢
   have d0:=a9.cell 0 rfl
   have d1:=a9.cell 1 rfl
   have d2:=a9.cell 2 rfl
   have d3:=a9.cell 3 rfl
   have d4:=a9.cell 4 rfl
   refine bodyPost_ret (v:=repA 0 ⟨#[]⟩ 0 (ver + 1) (.slice none 0 0)) (by simp [results,Tryz.results149,go_sem,d0,d1,d2,d3,d4]) rfl ⟨rfl,?_⟩
   have q4:=T4.out.size
   have q9:=t9.size
   have t49 : Tch O w W9:=T4.out.trans t9 (fun k hk h=>by omega)
   rw [hP,HEV.out]
   refine ⟨CaI.mono (O:=O2) (CaI.tch ⟨tb2,vo2,bo2,ss2,Ot2,HR2.out⟩ t9 (fun k hk e=>n2r (e ▸ hk))) ?_ (Own.lt HC.out.lt t49.size),t49⟩
   intro k h
   rcases HO2.out k h with h | ⟨h,h'⟩
   ·exact .inl h
   ·exact .inr ⟨h,by omega⟩
end Go.Proofs.YtkekohmkaefdnaaGreatDoor
namespace Go.Proofs.YtkekohmkaefdnaaGreatDoor
open Go.RowKit Go.Maps Go.Shelf Go.Proofs.YtkekohmkaefdnaaGreatDoorW.PrintWords Go.Proofs.YtkekohmkaefdnaaGreatDoorW.PrintLast
attribute [local go_sem ↓] Go.wp_at_zero Go.wp_at_succ
theorem write_large (cb : Nat) (bud : Int) (L : List It) (ver gone : Int) (O : Nat→Prop) (x : It) (w : World) (hC : CaI w cb bud L ver gone O) (hx : ShortI x) (hbig : bud < costI x) :
  Calls Tryz.prog 149 #[.pointer (some ⟨cb,0,none⟩),x.val] w fun e w'=>e=.returned (repA 13 ⟨#[]⟩ 0 0 (.slice none 0 0))∧Tch (fun _=>False) w w':=by
 have hLT:=hC.lt
 have hcl:=hLT _ hC.own
 have hco:=fun W=>Pb.cache_Cost.calls x.k x.v x.ver x.unt (costI x) W (cost_some x hx _ _)
 have ta : Tch (fun _=>False) w ((w.alloc (.cells #[.string x.k,.string x.v,.int .i64 x.ver,.int .i64 x.unt] TItem)).alloc (.cells #[.int .i64 0,.string ⟨#[]⟩,.int .i64 0,.int .i64 0,.slice none 0 0] TReply)):=((Tch.refl _ w).talloc).talloc
 have ca : At ((w.alloc (.cells #[.string x.k,.string x.v,.int .i64 x.ver,.int .i64 x.unt] TItem)).alloc (.cells #[.int .i64 0,.string ⟨#[]⟩,.int .i64 0,.int .i64 0,.slice none 0 0] TReply)) w.heap.size x.cells TItem:=(At.new w _ _).alloc _
 have cr : At ((w.alloc (.cells #[.string x.k,.string x.v,.int .i64 x.ver,.int .i64 x.unt] TItem)).alloc (.cells #[.int .i64 0,.string ⟨#[]⟩,.int .i64 0,.int .i64 0,.slice none 0 0] TReply)) (w.heap.size + 1) [.int .i64 0,.string ⟨#[]⟩,.int .i64 0,.int .i64 0,.slice none 0 0] TReply:=at_new' _ _ _ _ (by simp)
 obtain ⟨W0,hW0⟩ : ∃ W0,((w.alloc (.cells #[.string x.k,.string x.v,.int .i64 x.ver,.int .i64 x.unt] TItem)).alloc (.cells #[.int .i64 0,.string ⟨#[]⟩,.int .i64 0,.int .i64 0,.slice none 0 0] TReply))=W0:=⟨_,rfl⟩
 rw [hW0] at ta ca cr
 have hC0:=hC.tch ta (fun _ _ h=>h)
 obtain ⟨tb,vo,bo,ss,Ot,hR⟩:=hC0
 have CA:=Lib.hid ca
 have CR:=Lib.hid cr
 have TA:=Lib.hid ta
 have HR:=Lib.hid hR
 have hgl:=cr.lt
 go_enter Tryz.func149,Tryz.ntmps149
 go_wp2
 try rw [hW0]
 generalize hga : w.heap.size=ga at *
 have mk : ∀ W' : World,Tch (fun _=>False) W0 W'→(W'.cell? ⟨cb,0,none⟩=some (.int .i64 bud)∧W'.cell? ⟨ga,0,none⟩=some (.string x.k)∧W'.cell? ⟨ga,1,none⟩=some (.string x.v)∧W'.cell? ⟨ga,2,none⟩=some (.int .i64 x.ver)∧W'.cell? ⟨ga,3,none⟩=some (.int .i64 x.unt)):=fun W' t=>⟨(HR.out.cells.tch t (fun h=>h)).cell 0 rfl,(CA.out.tch t (fun h=>h)).cell 0 rfl,(CA.out.tch t (fun h=>h)).cell 1 rfl,(CA.out.tch t (fun h=>h)).cell 2 rfl,(CA.out.tch t (fun h=>h)).cell 3 rfl⟩
 clear hC ca cr ta hW0 hR
 refine start_ (n:=7) (S:=fun W'=>W'.cell? ⟨cb,0,none⟩=some (.int .i64 bud)∧W'.cell? ⟨ga,0,none⟩=some (.string x.k)∧W'.cell? ⟨ga,1,none⟩=some (.string x.v)∧W'.cell? ⟨ga,2,none⟩=some (.int .i64 x.ver)∧W'.cell? ⟨ga,3,none⟩=some (.int .i64 x.unt)) (ds:=[]) _ (by kernel_rfl) rfl rfl (mk _ (Tch.drew _ _)) (fun hHeld=>?_)
 refine pu_ 2 (some 7) ?_
 refine pu_ 3 (some 8) ?_
 refine pu_ 4 (some 9) ?_
 refine ta_ 0 (some 5) hHeld ?_
 refine ta_ 5 (some 10) hHeld ?_
 refine on_ 1 (some 6) fun K hK=>?_
 go_simp;go_at_call 220;refine (hco _).mono ?_;rintro e w1 ⟨rfl,hb1⟩;have t1:=(Tch.drew (fun _=>False) W0).tbelow hb1;go_simp
 refine hK.out _ _ (mk _ t1) (fun hHeld2_=>?_)
 clear hK K hHeld;have hHeld:=hHeld2_;clear hHeld2_
 refine nm_ (some 6) ?_
 refine pu_ 6 (some 11) ?_
 refine done_ (by kernel_rfl) ?_;clear hHeld
 have hR1:=CR.out.tch t1 (fun h=>h)
 have r0:=hR1.cell 0 rfl
 have r1:=hR1.cell 1 rfl
 have r2:=hR1.cell 2 rfl
 have r3:=hR1.cell 3 rfl
 have r4:=hR1.cell 4 rfl
 have z0:=hR1.frozen 0
 have z1:=hR1.frozen 1
 have z2:=hR1.frozen 2
 have z3:=hR1.frozen 3
 have z4:=hR1.frozen 4
 have T1:=Lib.hid t1
 have R1:=Lib.hid hR1
 clear t1 hb1 hR1 mk hco
 go_wp2
 have hF:=((((R1.out.set 0 (.int .i64 13)).set 1 (.string ⟨#[]⟩)).set 2 (.int .i64 0)).set 3 (.int .i64 0)).set 4 (.slice none 0 0)
 have s0:=hF.cell 0 rfl
 have s1:=hF.cell 1 rfl
 have s2:=hF.cell 2 rfl
 have s3:=hF.cell 3 rfl
 have s4:=hF.cell 4 rfl
 have n : ¬ ga + 1 < w.heap.size:=by omega
 have tF:=(((((TA.out.trans T1.out (fun _ _ h=>h)).tset (p:=⟨ga + 1,0,none⟩) (v:=.int .i64 13) (fun h=>n h)).tset (p:=⟨ga + 1,1,none⟩) (v:=.string ⟨#[]⟩) (fun h=>n h)).tset (p:=⟨ga + 1,2,none⟩) (v:=.int .i64 0) (fun h=>n h)).tset (p:=⟨ga + 1,3,none⟩) (v:=.int .i64 0) (fun h=>n h)).tset (p:=⟨ga + 1,4,none⟩) (v:=.slice none 0 0) (fun h=>n h)
 generalize (((((w1.setCell { block:=ga + 1,off:=0 } (Value.int IntKind.i64 13)).setCell { block:=ga + 1,off:=1 } (Value.string { data:=#[] })).setCell { block:=ga + 1,off:=2 } (Value.int IntKind.i64 0)).setCell { block:=ga + 1,off:=3 } (Value.int IntKind.i64 0)).setCell { block:=ga + 1,off:=4 } (Value.slice none 0 0))=WF at *
 refine bodyPost_ret (v:=repA 13 ⟨#[]⟩ 0 0 (.slice none 0 0)) (by simp [results,Tryz.results149,go_sem,s0,s1,s2,s3,s4]) rfl ⟨rfl,tF⟩
end Go.Proofs.YtkekohmkaefdnaaGreatDoor
namespace Go.Proofs.YtkekohmkaefdnaaGreatDoor
open Go.RowKit Go.Maps Go.Shelf
attribute [local go_sem ↓] Go.wp_at_zero Go.wp_at_succ
theorem place_m (tb sb : Nat) (vs : List Value) (bs : List (Option Nat)) (key : ByteArray) (ss : List (List It)) (n : Int) (O : Nat→Prop) (w : World) (hT : TabM w tb sb vs bs ss n O) (hk : key.size ≤ 1000000) (hF : Few ss) :
  Calls Tryz.prog 122 #[.pointer (some ⟨tb,0,none⟩),.string key] w fun e w'=>e=.returned (.tuple #[.int .i64 (slotOf ss.length key : Nat),.int .i64 (idxFrom key (ss.getD (slotOf ss.length key) []) 0)])∧TabM w' tb sb vs bs ss n O∧Tch (fun _=>False) w w':=by
 obtain ⟨f0,f1,f2⟩:=hF
 have ta : Tch (fun _=>False) w (w.alloc (.cells #[.string key] 9)):=Tch.alloc _ _ _
 have ca : At (w.alloc (.cells #[.string key] 9)) w.heap.size [.string key] 9:=At.new w _ _
 have hlt:=hT.lt
 have htb:=hlt _ hT.ownT
 have hm1:=made_m tb sb vs bs ss n O _ (hT.tch ta (fun _ _ h=>h))
 have hT0:=hT.tch ta (fun _ _ h=>h)
 have HT0:=Lib.hid hT0
 have hh:=hash_some key hk
 have hhash:=fun W=>Pb.table_Hash.calls (key.size + 1) key 0 _ W hh.1
 have HLT:=Lib.hid hlt
 have HA:=Lib.hid ca
 have HT:=Lib.hid ta
 clear hT hT0 ca ta hh hlt
 go_enter Tryz.func122,Tryz.ntmps122
 go_wp2_with fail
 refine hm1.mono ?_
 rintro e w1 ⟨rfl,hbel⟩
 have tt : Tch (fun _=>False) _ w1:=Tch.of_below (fun _=>False) hbel
 have hM:=HT0.out.tch tt (fun _ _ h=>h)
 clear hbel
 have ca1 : At w1 w.heap.size [.string key] 9:=HA.out.tch tt (fun h=>h)
 have t1 : Tch (fun _=>False) w w1:=HT.out.trans tt (fun _ _ h=>h)
 have hsl:=slotOf_lt key f0
 obtain ⟨v,l,b,e1,e2,e3,hrow⟩:=hM.at_ hsl
 have hll : l.length ≤ 1000000:=f2 l (List.mem_of_getElem? e2)
 have k0:=ca1.cell 0 rfl
 have c0:=hM.tab.cell 0 rfl
 have c4:=hM.tab.cell 4 rfl
 have s4:=hM.slots.cell _ e1
 clear hm1
 have HM:=Lib.hid hM
 have HK1:=Lib.hid ca1
 have H1:=Lib.hid t1
 have HR:=Lib.hid hrow
 have hsb:=hM.slots.lt
 have htb1:=hM.tab.lt
 have hil : ((slotOf ss.length key : Nat) : Int) < (ss.length : Int):=by omega
 have hl0 : ¬ ss=[]:=by rintro rfl;simp at f0
 have hl1 : ¬ ss.length=0:=by omega
 have hl2 : ¬ (ss.length : Int)=0:=by omega
 have E2:=Lib.hid e2
 clear hM ca1 t1 tt hrow e1 e2 e3
 go_wp2
 go_region_held3 (fun w'=>w'.cell? ⟨w.heap.size,0,none⟩=some (.string key)∧w'.cell? ⟨tb,0,none⟩=some (.int .u32 0)∧w'.cell? ⟨tb,4,none⟩=some (.slice (some ⟨sb,0,none⟩) ss.length ss.length)) (go_keep)
  ((go_at_call 164;refine (hhash _).mono ?_;rintro e w3 ⟨rfl,n3,rfl⟩))
 all_goals
  have hd : ss.getD (slotOf ss.length key) []=l:=by rw [List.getD_eq_getElem?_getD,E2.out];rfl
  have hI:=fun m=>row_ind (w:=w1.drewN m) (HR.out.tch (Tch.drewN (fun _=>False) w1 m) (fun _ _ h=>h)) w.heap.size key hll (HK1.out.cell 0 rfl)
  have HD:=Lib.hid hd
  have er:=rem_slot ss.length key hk f0
  rw [er]
  clear er hd
  go_wp2_with (go_at_call 165;refine (hI _).mono ?_;rintro e w4 ⟨rfl,hb4⟩)
  go_ret2
  have t4 : Tch (fun _=>False) w1 w4:=(Tch.drewN (fun _=>False) _ _).trans (Tch.of_below (fun _=>False) hb4) (fun _ _ h=>h.elim)
  have t9:=H1.out.trans t4 (fun _ _ h=>h.elim)
  exact ⟨by rw [HD.out];rfl,HM.out.tch t4 (fun _ _ h=>h),t9⟩
theorem get_m (tb sb : Nat) (vs : List Value) (bs : List (Option Nat)) (key : ByteArray) (ss : List (List It)) (n : Int) (O : Nat→Prop) (w : World) (hT : TabM w tb sb vs bs ss n O) (hk : key.size ≤ 1000000) (hF : Few ss) :
  Calls Tryz.prog 87 #[.pointer (some ⟨tb,0,none⟩),.string key] w fun e w'=>e=.returned (gotV (lookS ss key))∧TabM w' tb sb vs bs ss n O∧Tch (fun _=>False) w w':=by
 have hF':=hF
 obtain ⟨f0,f1,f2⟩:=hF
 have ta : Tch (fun _=>False) w (w.alloc (.cells #[.string ⟨#[]⟩,.string ⟨#[]⟩,.int .i64 0,.int .i64 0] TItem)):=Tch.alloc _ _ _
 have ca : At (w.alloc (.cells #[.string ⟨#[]⟩,.string ⟨#[]⟩,.int .i64 0,.int .i64 0] TItem)) w.heap.size [.string ⟨#[]⟩,.string ⟨#[]⟩,.int .i64 0,.int .i64 0] TItem:=At.new w _ _
 have hlt:=hT.lt
 have htb:=hlt _ hT.ownT
 have hp1:=place_m tb sb vs bs key ss n O _ (hT.tch ta (fun _ _ h=>h)) hk hF'
 have hsl:=slotOf_lt key f0
 have e2 : ss[slotOf ss.length key]? = some (ss.getD (slotOf ss.length key) []):=by rw [List.getD_eq_getElem?_getD,List.getElem?_eq_getElem hsl];rfl
 have hspec:=idxFrom_spec key (ss.getD (slotOf ss.length key) []) 0
 have hll : (ss.getD (slotOf ss.length key) []).length ≤ 1000000:=f2 _ (List.mem_of_getElem? e2)
 change _ ∨ _ at hspec
 generalize hl : ss.getD (slotOf ss.length key) []=l at hp1 hspec e2 hll
 have hlook : lookS ss key=findK l key:=by unfold lookS;rw [hl]
 rw [hlook]
 have HLT:=Lib.hid hlt
 have HA:=Lib.hid ca
 have HT:=Lib.hid ta
 have E2:=Lib.hid e2
 clear hT ta ca hlt hl hlook e2
 have hil : ((slotOf ss.length key : Nat) : Int) < (ss.length : Int):=by omega
 have hend : ∀ (w1 w4 : World),Tch (fun _=>False) (w.alloc (.cells #[.string ⟨#[]⟩,.string ⟨#[]⟩,.int .i64 0,.int .i64 0] TItem)) w1→TabM w1 tb sb vs bs ss n O→Tch (fun k=>k=w.heap.size) w1 w4→TabM w4 tb sb vs bs ss n O∧Tch (fun _=>False) w w4:=by
  intro w1 w4 h1 h2 h3
  exact ⟨h2.tch h3 (fun k hk e=>by have:=HLT.out k hk;omega),(HT.out.trans h1 (fun _ _ h=>h)).trans h3 (fun k hk h=>by omega)⟩
 go_enter Tryz.func87,Tryz.ntmps87
 rcases hspec with ⟨h1,h2⟩ | ⟨i,x,h1,h2,h3,h4⟩
 ·rw [h1] at hp1
  rw [h2]
  go_wp2_with fail
  refine hp1.mono ?_
  rintro e w1 ⟨rfl,hM,tt⟩
  have ca1:=HA.out.tch tt (fun h=>h)
  have k0:=ca1.cell 0 rfl
  have k1:=ca1.cell 1 rfl
  have k2:=ca1.cell 2 rfl
  have k3:=ca1.cell 3 rfl
  have g0:=ca1.frozen 0
  have g1:=ca1.frozen 1
  have g2:=ca1.frozen 2
  have g3:=ca1.frozen 3
  have HA1:=Lib.hid ca1
  have HM:=Lib.hid hM
  have TT:=Lib.hid tt
  clear hp1 hM ca1 tt
  go_wp2
  have t4:=tch_set4 w1 w.heap.size (.string ⟨#[]⟩) (.string ⟨#[]⟩) (.int .i64 0) (.int .i64 0)
  have a4:=at_set4 HA1.out (.string ⟨#[]⟩) (.string ⟨#[]⟩) (.int .i64 0) (.int .i64 0)
  obtain ⟨W4,hW4⟩ : ∃ W4,((((w1.setCell ⟨w.heap.size,0,none⟩ (.string ⟨#[]⟩)).setCell ⟨w.heap.size,1,none⟩ (.string ⟨#[]⟩)).setCell ⟨w.heap.size,2,none⟩ (.int .i64 0)).setCell ⟨w.heap.size,3,none⟩ (.int .i64 0))=W4:=⟨_,rfl⟩
  rw [hW4] at t4 a4 ⊢
  have d0:=a4.cell 0 rfl
  have d1:=a4.cell 1 rfl
  have d2:=a4.cell 2 rfl
  have d3:=a4.cell 3 rfl
  clear k0 k1 k2 k3 g0 g1 g2 g3 hW4
  refine bodyPost_ret (v:=.tuple #[zeroItem,.bool false]) q49_ rfl ?_
  exact ⟨rfl,hend w1 W4 TT.out HM.out t4⟩
 ·rw [Nat.zero_add] at h2
  rw [h2] at hp1
  rw [h3]
  have hi : i < l.length:=(List.getElem?_eq_some_iff.1 h1).1
  have hii : (i : Int) < (l.length : Int):=by omega
  have hi0 : ¬ (i : Int) < 0:=by omega
  clear h2 h3
  go_wp2_with fail
  refine hp1.mono ?_
  rintro e w1 ⟨rfl,hM,tt⟩
  obtain ⟨v,l',b,e1,e2',e3,hrow⟩:=hM.at_ hsl
  have hll' : l'=l:=Option.some.inj (e2'.symm.trans E2.out)
  subst hll'
  cases hrow with
  | nil=>cases h1
  | row l b c zs hb hc hm' hz=>
   have hic : (i : Int) < (c : Int):=by omega
   have hq : ∀ (m : Nat) (v : Value),m < 4→x.cells[m]? = some v→w1.cell? ⟨b,i * 4 + m,none⟩=some v:=fun m v hm hv=>hb.cell (i * 4 + m) (by
    rw [Nat.mul_comm,List.getElem?_append_left (by rw [rowOf_length];omega),rowOf_get h1 m hm,hv])
   have q0 : w1.cell? ⟨b,i * 4,none⟩=some (.string x.k):=hq 0 _ (by decide) rfl
   have q1:=hq 1 _ (by decide) rfl
   have q2:=hq 2 _ (by decide) rfl
   have q3:=hq 3 _ (by decide) rfl
   have ca1:=HA.out.tch tt (fun h=>h)
   have k0:=ca1.cell 0 rfl
   have k1:=ca1.cell 1 rfl
   have k2:=ca1.cell 2 rfl
   have k3:=ca1.cell 3 rfl
   have g0:=ca1.frozen 0
   have g1:=ca1.frozen 1
   have g2:=ca1.frozen 2
   have g3:=ca1.frozen 3
   have c4:=hM.tab.cell 4 rfl
   have s4:=hM.slots.cell _ e1
   have HA1:=Lib.hid ca1
   have HM:=Lib.hid hM
   have TT:=Lib.hid tt
   clear hp1 hM ca1 tt hq hb e1 e2' e3
   go_wp2
   have t4:=tch_set4 w1 w.heap.size (.string x.k) (.string x.v) (.int .i64 x.ver) (.int .i64 x.unt)
   have a4:=at_set4 HA1.out (.string x.k) (.string x.v) (.int .i64 x.ver) (.int .i64 x.unt)
   obtain ⟨W4,hW4⟩ : ∃ W4,((((w1.setCell ⟨w.heap.size,0,none⟩ (.string x.k)).setCell ⟨w.heap.size,1,none⟩ (.string x.v)).setCell ⟨w.heap.size,2,none⟩ (.int .i64 x.ver)).setCell ⟨w.heap.size,3,none⟩ (.int .i64 x.unt))=W4:=⟨_,rfl⟩
   rw [hW4] at t4 a4 ⊢
   have d0:=a4.cell 0 rfl
   have d1:=a4.cell 1 rfl
   have d2:=a4.cell 2 rfl
   have d3:=a4.cell 3 rfl
   clear k0 k1 k2 k3 g0 g1 g2 g3 hW4 c4 s4 q0 q1 q2 q3
   refine bodyPost_ret (v:=.tuple #[x.val,.bool true]) q49_ rfl ?_
   exact ⟨rfl,hend w1 W4 TT.out HM.out t4⟩
end Go.Proofs.YtkekohmkaefdnaaGreatDoor
namespace Go.Proofs.YtkekohmkaefdnaaGreatDoor
open Go.RowKit Go.Maps Go.Shelf
attribute [local go_sem ↓] Go.wp_at_zero Go.wp_at_succ
def noI : It:=⟨⟨#[]⟩,⟨#[]⟩,0,0⟩
def getI (L : List It) (k : ByteArray) : It:=(findK L k).getD noI
def itemsL (L : List It) : List It:=(sortK (L.map It.k)).map (getI L)
theorem sort_perm {l m : List (List UInt8)} (h : l.Perm m) : l.mergeSort (fun x y=>decide (x ≤ y))=m.mergeSort (fun x y=>decide (x ≤ y)):=by
 have hp : (l.mergeSort (fun x y=>decide (x ≤ y))).Perm (m.mergeSort (fun x y=>decide (x ≤ y))):=(List.mergeSort_perm _ _).trans (h.trans (List.mergeSort_perm _ _).symm)
 have srt : ∀ q : List (List UInt8),(q.mergeSort (fun x y=>decide (x ≤ y))).Pairwise (fun x y=>x ≤ y):=fun q=>by
  have:=List.pairwise_mergeSort (le:=fun x y : List UInt8=>decide (x ≤ y)) (fun a b c h1 h2=>by simp at h1 h2 ⊢;exact List.le_trans h1 h2) (fun a b=>by simp;exact List.le_total a b) q
  exact this.imp (fun {a b} hab=>by simpa using hab)
 exact List.Perm.eq_of_pairwise (le:=fun x y : List UInt8=>x ≤ y) (fun a b _ _ h1 h2=>List.le_antisymm h1 h2) (srt l) (srt m) hp
theorem sortK_perm {l m : List ByteArray} (h : l.Perm m) : sortK l=sortK m:=by
 unfold sortK
 rw [sort_perm (h.map _)]
theorem mem_sortK {l : List ByteArray} {k : ByteArray} (h : k ∈ sortK l) : k ∈ l:=by
 unfold sortK at h
 obtain ⟨s,hs,rfl⟩:=List.mem_map.1 h
 obtain ⟨a,ha,rfl⟩:=List.mem_map.1 ((List.mergeSort_perm _ _).mem_iff.1 hs)
 simpa using ha
theorem find_of_key {L : List It} {k : ByteArray} (h : k ∈ L.map It.k) : ∃ x,findK L k=some x:=by
 obtain ⟨x,hx,rfl⟩:=List.mem_map.1 h
 cases hf : findK L x.k with
 | some y=>exact ⟨y,rfl⟩
 | none=>exact absurd rfl (findK_none hf x hx)
def Rowed (w : World) (l : List It) (v : Value) (wr : World) : Prop:=Tch (fun _=>False) w wr∧∃ b,RowIs wr v l b∧∀ g,b=some g→w.heap.size ≤ g
theorem items_gen (cb : Nat) (bud : Int) (L : List It) (ver gone : Int) (O : Nat→Prop) (w : World) (hC : CaI w cb bud L ver gone O) (hs : Short L) :
  Calls Tryz.prog 53 #[.pointer (some ⟨cb,0,none⟩)] w fun e w'=>∃ v,e=.returned v∧Rowed w (itemsL L) v w':=by
 obtain ⟨tb,vo,bo,ss,Ot,hR⟩:=hC
 have hcells:=hR.cells
 rcases hR.tab with ⟨ht,hss,_,_,_⟩ | ⟨sb,vs,bs,hM⟩
 ·refine (items_nil cb tb bud (usedL L) ver gone vo w hcells false 0 ht).mono ?_
  rintro e w' ⟨rfl,rfl⟩
  have hL : L=[]:=by
   have:=hR.ok.perm
   rw [hss,show slots8.flatten=[] from rfl] at this
   exact (List.nil_perm.1 this)
  subst hL
  exact ⟨_,rfl,Tch.refl _ _,none,by rw [show itemsL []=[] from by simp [itemsL,sortK]];exact .nil,fun g h=>by cases h⟩
 ·have hF:=hR.few hs
  have hcnt:=hR.ok.count
  have hkeys:=keys_m tb sb vs bs ss (L.length : Int) Ot w hM (Nat.le_trans hR.sl (by decide)) (by rw [hcnt];exact Nat.le_trans hs.1 (by decide))
  rw [sortK_perm (hR.ok.perm.map It.k)] at hkeys
  have hlook:=hR.ok.look
  have hkl : (sortK (L.map It.k)).length ≤ 90000:=by rw [sortK_length,List.length_map];exact hs.1
  have hkm : ∀ k ∈ sortK (L.map It.k),∃ x,findK L k=some x:=fun k hk=>find_of_key (mem_sortK hk)
  have hit : itemsL L=(sortK (L.map It.k)).map (getI L):=rfl
  rw [hit]
  clear hit
  generalize sortK (L.map It.k)=ks at hkeys hkl hkm
  have hcl:=hcells.lt
  have c1:=hcells.cell 1 rfl
  have HC:=Lib.hid hcells
  have HM:=Lib.hid hM
  have HKM:=Lib.hid hkm
  clear hcells hM hkm hR
  obtain ⟨i0,hi0,hz0,hz1,hz2⟩:=info_parts info_item
  go_enter Tryz.func53,Tryz.ntmps53
  go_wp2_with fail
  refine hkeys.mono ?_
  rintro e w1 ⟨v,rfl,t1,bk,hsk,hbk⟩
  have T1:=Lib.hid t1
  clear hkeys t1
  cases hsk with
  | nil=>
   go_wp2
   go_loopg [3,16] 0 (fun gg s3 s16 wr=>s3=.slice none 0 0∧s16=.int .i64 0∧wr=w1)
   case atStart=>exact ⟨rfl,rfl,rfl⟩
   case round=>
    obtain ⟨rfl,rfl,rfl⟩:=hrel
    go_wp2
    go_ret
    exact ⟨_,rfl,T1.out,none,.nil,fun g h=>by cases h⟩
  | row _ bk c zs hb hc hm hz=>
   have hbw:=hbk bk rfl
   have HB:=Lib.hid hb
   clear hb hbk
   go_wp2
   go_loopg [3,16] ks.length (fun gg s3 s16 wr=>∃ j : Nat,s16=.int .i64 (j : Int)∧j + gg=ks.length∧Tch (fun _=>False) w wr∧At wr bk (ks.map Value.string ++ zs) TStr∧∃ b,RowIs wr s3 ((ks.take j).map (getI L)) b∧∀ g,b=some g→w.heap.size ≤ g)
   case atStart=>exact ⟨0,rfl,by omega,T1.out,HB.out,none,.nil,fun g h=>by cases h⟩
   case round=>
    obtain ⟨j,rfl,hj,tr,hbr,b,hrow,hbf⟩:=hrel
    rcases Nat.eq_zero_or_pos gk with hg0 | hg0
    ·have hjl : ¬ (j : Int) < (ks.length : Int):=by omega
     rw [List.take_of_length_le (show ks.length ≤ j by omega)] at hrow
     have HRW:=Lib.hid hrow
     have TR:=Lib.hid tr
     clear hrow tr hbr
     go_wp2
     go_ret
     exact ⟨_,rfl,TR.out,b,HRW.out,hbf⟩
    ·have hjl : (j : Int) < (ks.length : Int):=by omega
     obtain ⟨k,hk⟩ : ∃ k,ks[j]? = some k:=⟨_,List.getElem?_eq_getElem (by omega)⟩
     obtain ⟨x,hx⟩:=HKM.out k (List.mem_of_getElem? hk)
     have hkx:=(findK_some hx).2
     subst hkx
     have hxs:=find_short hs hx
     have q0 : wr.cell? ⟨bk,j,none⟩=some (.string x.k):=hbr.cell j (by
      have hjn : j < ks.length:=by omega
      rw [List.getElem?_append_left (by rw [List.length_map];exact hjn),List.getElem?_map,hk]
      rfl)
     have c1r:=(HC.out.tch tr (fun h=>h)).cell 1 rfl
     have hget:=get_m tb sb vs bs x.k ss (L.length : Int) Ot wr (HM.out.tch tr (fun _ _ h=>h)) (by have:=hxs.1;omega) hF
     rw [hlook x.k,hx] at hget
     simp only [gotV] at hget
     have htk : (ks.take (j + 1)).map (getI L)=(ks.take j).map (getI L) ++ [x]:=by
      rw [List.take_add_one,hk,List.map_append]
      have : getI L x.k=x:=by unfold getI;rw [hx];rfl
      simp [this]
     have hll : ((ks.take j).map (getI L)).length ≤ 90000:=by rw [List.length_map,List.length_take];omega
     generalize (ks.take j).map (getI L)=l at hrow htk hll
     have hcap : l.length + 1 ≤ maxLen:=by unfold maxLen;omega
     have HRW:=Lib.hid hrow
     have TR:=Lib.hid tr
     have HBR:=Lib.hid hbr
     have HTK:=Lib.hid htk
     clear hrow tr hbr htk
     go_wp2_with fail
     refine hget.mono ?_
     rintro e w3 ⟨rfl,hM3,t3⟩
     have hr3:=HRW.out.tch t3 (fun _ _ h=>h)
     have HR3:=Lib.hid hr3
     have T3:=Lib.hid t3
     clear hget hr3 t3 hM3 q0 c1r
     go_wp2_with (at_builtin;go_loud (refine wpList_append_lies _ (by rfl) _ _ _ (by rfl) 0 TItem i0 _ 4 48 Tryz.underlying46 hi0 hz0 hz1 hz2 rfl (by decide) _ l.length (rowOf l) (by rfl) (ownsRow_tch HR3.out.own.1 (((Tch.refl (fun _=>False) w3).talloc).talloc) (fun _ h=>h.elim)) _ 1 1 x.cells (by rfl) (by rfl) ?c1 (by simp [It.cells,Value.oneCell']) (by decide) hcap (by omega) (by simp) _ rfl ?_);(case c1=>go_loud (exact World.news_of_block (cs:=#[.string x.k,.string x.v,.int .i64 x.ver,.int .i64 x.unt]) (t:=TItem) (fr:=(0,0)) (at_new' (w3.alloc (.cells #[.string x.k,.string x.v,.int .i64 x.ver,.int .i64 x.unt] TItem)) #[.string x.k,.string x.v,.int .i64 x.ver,.int .i64 x.unt] TItem (w3.heap.size + 1) (by simp))));intro g cap w5 hown5 hgr hat hlt)
     have t5:=HR3.out.grown (((Tch.refl (fun _=>False) w3).talloc).talloc) hgr
     have hs5:=RowIs.snoc hown5
     have hb5 : At w5 bk (ks.map Value.string ++ zs) TStr:=(HBR.out.tch T3.out (fun h=>h)).tch t5 (HR3.out.ne (HBR.out.tch T3.out (fun h=>h)) (by decide))
     have hf5 : ∀ g',some g=some g'→w.heap.size ≤ g':=by
      intro g' hg'
      injection hg' with hg'
      subst hg'
      rcases hat with h | h
      ·rw [HR3.out.own.2] at h
       exact hbf _ h
      ·have h1:=TR.out.size
       have h2:=T3.out.size
       have e : ((w3.alloc (.cells #[.string x.k,.string x.v,.int .i64 x.ver,.int .i64 x.unt] TItem)).alloc (.cells #[.string x.k,.string x.v,.int .i64 x.ver,.int .i64 x.unt] TItem)).heap.size=w3.heap.size + 2:=by simp
       have h' : g=w3.heap.size + 2:=h.trans e
       omega
     have tr5 : Tch (fun _=>False) w w5:=(TR.out.trans T3.out (fun _ _ h=>h)).trans t5 (fun k hk h=>by have:=hbf k h;omega)
     rw [← HTK.out] at hs5
     have S5:=Lib.hid hs5
     have B5:=Lib.hid hb5
     have TR5:=Lib.hid tr5
     clear hs5 hb5 tr5 t5 hown5 hgr hat hlt
     go_wp2
     go_roundg (ks.length - (j + 1))
     case measure=>omega
     case rel=>exact ⟨j + 1,congrArg (Value.int .i64) (by omega),by omega,TR5.out,B5.out,some g,S5.out,hf5⟩
end Go.Proofs.YtkekohmkaefdnaaGreatDoor
namespace Go.Proofs.YtkekohmkaefdnaaGreatDoor
open Go.RowKit Go.Maps Go.Shelf
attribute [local go_sem ↓] Go.wp_at_zero Go.wp_at_succ
def overI (now : Int) (x : It) : Bool:=decide (0 < x.unt) && decide (x.unt < now)
def sweepL (now : Int) (L : List It) : List It:=L.filter fun x=>!overI now x
def sweepUp (now : Int) (L : List It) (M : List It) : List It:=M.foldl (fun L x=>if overI now x then cutL L x.k else L) L
theorem sweepUp_snoc (now : Int) (L M : List It) (x : It) : sweepUp now L (M ++ [x])=if overI now x then cutL (sweepUp now L M) x.k else sweepUp now L M:=by
 unfold sweepUp
 rw [List.foldl_append]
 rfl
theorem sweepUp_eq (now : Int) : ∀ (M L : List It),sweepUp now L M=L.filter fun y=>!(M.any fun x=>overI now x && (y.k.toList == x.k.toList))
 | [],L=>(List.filter_eq_self.2 fun _ _=>rfl).symm
 | x :: M,L=>by
  show sweepUp now (if overI now x then cutL L x.k else L) M=_
  rw [sweepUp_eq now M]
  cases ho : overI now x with
  | false=>simp [ho]
  | true=>
   rw [if_pos rfl]
   unfold cutL
   rw [List.filter_filter]
   refine List.filter_congr fun y _=>?_
   simp [ho,Bool.and_comm]
theorem mem_items {L : List It} (hn : (L.map It.k).Nodup) {x : It} : x ∈ itemsL L ↔ x ∈ L:=by
 unfold itemsL
 rw [List.mem_map]
 constructor
 ·rintro ⟨k,hk,rfl⟩
  obtain ⟨y,hy⟩:=find_of_key (mem_sortK hk)
  unfold getI
  rw [hy]
  exact (findK_some hy).1
 ·intro hx
  refine ⟨x.k,?_,?_⟩
  ·unfold sortK
   refine List.mem_map.2 ⟨x.k.data.toList,(List.mergeSort_perm _ _).mem_iff.2 (List.mem_map.2 ⟨x.k,List.mem_map_of_mem hx,rfl⟩),?_⟩
   simp
  ·unfold getI
   rw [findK_eq (fun y hy hyk=>nodup_key hn hy hx hyk) hx rfl]
   rfl
theorem sweep_items {L : List It} (hn : (L.map It.k).Nodup) (now : Int) : sweepUp now L (itemsL L)=sweepL now L:=by
 rw [sweepUp_eq]
 refine List.filter_congr fun y hy=>?_
 congr 1
 cases ho : overI now y with
 | true=>
  rw [List.any_eq_true]
  exact ⟨y,(mem_items hn).2 hy,by rw [ho];simp⟩
 | false=>
  rw [List.any_eq_false]
  intro x hx
  have hxL:=(mem_items hn).1 hx
  cases hk : (y.k.toList == x.k.toList) with
  | false=>simp
  | true=>
   have:=nodup_key hn hy hxL (key_eq hk)
   subst this
   simp [ho]
theorem items_length {L : List It} : (itemsL L).length=L.length:=by unfold itemsL;rw [List.length_map,sortK_length,List.length_map]
theorem sweepUp_short {now : Int} {L : List It} (h : Short L) : ∀ M,Short (sweepUp now L M):=fun M=>by
 rw [sweepUp_eq]
 exact ⟨Nat.le_trans (List.length_filter_le _ _) h.1,fun x hx=>h.2 x (List.mem_filter.1 hx).1⟩
theorem sweep_short {now : Int} {L : List It} (h : Short L) : Short (sweepL now L):=⟨Nat.le_trans (List.length_filter_le _ _) h.1,fun x hx=>h.2 x (List.mem_filter.1 hx).1⟩
theorem sweep_gen (cb : Nat) (bud : Int) (L : List It) (ver gone now : Int) (O : Nat→Prop) (w : World) (hC : CaI w cb bud L ver gone O) (hs : Short L) :
  Calls Tryz.prog 114 #[.pointer (some ⟨cb,0,none⟩),.int .i64 now] w fun e w'=>e=.returned (.tuple #[])∧CaI w' cb bud (sweepL now L) ver gone (Own O w w')∧Tch O w w':=by
 have hLT:=hC.lt
 have hnd:=hC.nodup
 have hit:=items_gen cb bud L ver gone O w hC hs
 have hil:=items_length (L:=L)
 have hmi : ∀ x ∈ itemsL L,ShortI x:=fun x hx=>hs.2 x ((mem_items hnd).1 hx)
 have hsw:=sweep_items hnd now
 have HSW:=Lib.hid hsw
 generalize hI : itemsL L=I at hit hil hmi hsw
 rw [hI] at HSW
 have HC:=Lib.hid hC
 have hl9:=hs.1
 clear hC hsw hI
 go_enter Tryz.func114,Tryz.ntmps114
 go_wp2_with fail
 refine hit.mono ?_
 rintro e w1 ⟨v,rfl,t1,bI,hrow,hbI⟩
 clear hit
 cases hrow with
 | nil=>
  have T1:=Lib.hid t1
  clear t1
  go_wp2
  go_loopg [9] 0 (fun gg s9 wr=>s9=.int .i64 0∧wr=w1)
  case atStart=>exact ⟨rfl,rfl⟩
  case round=>
   obtain ⟨rfl,rfl⟩:=hrel
   go_wp2
   go_end0
   refine ⟨rfl,?_,T1.out.mono (fun _ _ h=>h.elim)⟩
   rw [← HSW.out]
   exact (HC.out.tch T1.out (fun _ _ h=>h)).mono (fun k h=>.inl h) (Own.lt hLT T1.out.size)
 | row _ bI c zs hb hc hm hz=>
  have hbw:=hbI bI rfl
  have nbI : ¬ O bI:=fun h=>by have:=hLT _ h;omega
  have hC1:=HC.out.tch t1 (fun _ _ h=>h)
  have T1:=Lib.hid t1
  have HB:=Lib.hid hb
  have C1:=Lib.hid hC1
  clear t1 hb hbI hC1
  go_wp2
  go_loopg [9] I.length (fun gg s9 wr=>∃ j : Nat,s9=.int .i64 (j : Int)∧j + gg=I.length∧Tch O w wr∧At wr bI (rowOf I ++ zs) TItem∧∃ O2,CaI wr cb bud (sweepUp now L (I.take j)) ver gone O2∧(∀ k,O2 k→Own O w wr k)∧¬ O2 bI)
  case atStart=>exact ⟨0,rfl,by omega,T1.out.mono (fun _ _ h=>h.elim),HB.out,O,C1.out,fun k h=>.inl h,nbI⟩
  case round=>
   obtain ⟨j,rfl,hj,tr,hbr,O2,hC2,hO2,n2⟩:=hrel
   rcases Nat.eq_zero_or_pos gk with hg0 | hg0
   ·have hjl : ¬ (j : Int) < (I.length : Int):=by omega
    rw [List.take_of_length_le (show I.length ≤ j by omega),HSW.out] at hC2
    have hC3:=hC2.mono hO2 (Own.lt hLT tr.size)
    have C3:=Lib.hid hC3
    have TR:=Lib.hid tr
    clear hC2 hC3 tr hbr hO2
    go_wp2
    go_end0
    exact ⟨rfl,C3.out,TR.out⟩
   ·have hjl : (j : Int) < (I.length : Int):=by omega
    obtain ⟨x,hx⟩ : ∃ x,I[j]? = some x:=⟨_,List.getElem?_eq_getElem (by omega)⟩
    have hxs:=hmi x (List.mem_of_getElem? hx)
    have hq : ∀ (m : Nat) (v : Value),m < 4→x.cells[m]? = some v→wr.cell? ⟨bI,j * 4 + m,none⟩=some v:=fun m v hm hv=>hbr.cell (j * 4 + m) (by
     have hjn : j < I.length:=by omega
     rw [Nat.mul_comm,List.getElem?_append_left (by rw [rowOf_length];omega),rowOf_get hx m hm,hv])
    have q0 : wr.cell? ⟨bI,j * 4,none⟩=some (.string x.k):=hq 0 _ (by decide) rfl
    have q1:=hq 1 _ (by decide) rfl
    have q2:=hq 2 _ (by decide) rfl
    have q3:=hq 3 _ (by decide) rfl
    have htk : sweepUp now L (I.take (j + 1))=if overI now x then cutL (sweepUp now L (I.take j)) x.k else sweepUp now L (I.take j):=by
     rw [List.take_add_one,hx]
     exact sweepUp_snoc now L _ x
    have hs2 : Short (sweepUp now L (I.take j)):=sweepUp_short hs _
    generalize sweepUp now L (I.take j)=L2 at hC2 htk hs2
    have ta : Tch (fun _=>False) wr (wr.alloc (.cells #[.string x.k,.string x.v,.int .i64 x.ver,.int .i64 x.unt] TItem)):=Tch.alloc _ _ _
    have hdel:=fun W (t : Tch (fun _=>False) wr W)=>del_gen cb bud L2 ver gone O2 x.k W (hC2.tch t (fun _ _ h=>h)) (by have:=hxs.1;omega) hs2
    have C2:=Lib.hid hC2
    have TR:=Lib.hid tr
    have HBR:=Lib.hid hbr
    have HO2:=Lib.hid hO2
    have HTK:=Lib.hid htk
    have hkeep : ∀ w5,Tch (fun _=>False) wr w5→overI now x=false→∃ j' : Nat,(Value.int .i64 ((j : Int) + 1))=.int .i64 (j' : Int)∧j' + (I.length - (j + 1))=I.length∧Tch O w w5∧At w5 bI (rowOf I ++ zs) TItem∧∃ O2,CaI w5 cb bud (sweepUp now L (I.take j')) ver gone O2∧(∀ k,O2 k→Own O w w5 k)∧¬ O2 bI:=by
     intro w5 t5 ho
     refine ⟨j + 1,congrArg (Value.int .i64) (by omega),by omega,TR.out.trans t5 (fun _ _ h=>h.elim),HBR.out.tch t5 (fun h=>h),O2,?_,fun k h=>?_,n2⟩
     ·rw [HTK.out,ho]
      exact C2.out.tch t5 (fun _ _ h=>h)
     ·rcases HO2.out k h with h | ⟨h,h'⟩
      ·exact .inl h
      ·exact .inr ⟨h,Nat.lt_of_lt_of_le h' t5.size⟩
    clear hC2 tr hbr hO2 htk hq
    by_cases h1 : 0 < x.unt
    ·by_cases h2 : x.unt < now
     ·have ho : overI now x=true:=by unfold overI;rw [decide_eq_true h1,decide_eq_true h2];rfl
      go_wp2_with (go_at_call 148;refine (hdel _ ta).mono ?_;rintro e w5 ⟨rfl,hC5,t5⟩)
      have hk5 : ∃ j' : Nat,(Value.int .i64 ((j : Int) + 1))=.int .i64 (j' : Int)∧j' + (I.length - (j + 1))=I.length∧Tch O w w5∧At w5 bI (rowOf I ++ zs) TItem∧∃ O2,CaI w5 cb bud (sweepUp now L (I.take j')) ver gone O2∧(∀ k,O2 k→Own O w w5 k)∧¬ O2 bI:=by
       have q1:=TR.out.size
       have q5:=t5.size
       have hbl:=HBR.out.lt
       have hsz : (wr.alloc (.cells #[.string x.k,.string x.v,.int .i64 x.ver,.int .i64 x.unt] TItem)).heap.size=wr.heap.size + 1:=by simp
       refine ⟨j + 1,congrArg (Value.int .i64) (by omega),by omega,(TR.out.trans ta (fun _ _ h=>h.elim)).trans t5 (fun k hk h=>Own.old (HO2.out k h) hk),(HBR.out.tch ta (fun h=>h)).tch t5 n2,Own O2 (wr.alloc (.cells #[.string x.k,.string x.v,.int .i64 x.ver,.int .i64 x.unt] TItem)) w5,?_,?_,?_⟩
       ·rw [HTK.out,ho]
        exact hC5
       ·rintro k (h | ⟨h,h'⟩)
        ·rcases HO2.out k h with h | ⟨h,h'⟩
         ·exact .inl h
         ·exact .inr ⟨h,by omega⟩
        ·exact .inr ⟨by omega,h'⟩
       ·rintro (h | ⟨h,_⟩)
        ·exact n2 h
        ·omega
      have HK5:=Lib.hid hk5
      clear hk5 hC5 t5 hdel ta q0 q1 q2 q3 hkeep
      go_wp2
      go_roundg (I.length - (j + 1))
      case measure=>omega
      case rel=>exact HK5.out
     ·have ho : overI now x=false:=by unfold overI;rw [decide_eq_false h2,Bool.and_false]
      have hk5:=hkeep _ ta ho
      have HK5:=Lib.hid hk5
      clear hdel hkeep hk5
      go_wp2
      go_roundg (I.length - (j + 1))
      case measure=>omega
      case rel=>exact HK5.out
    ·have ho : overI now x=false:=by unfold overI;rw [decide_eq_false h1,Bool.false_and]
     have hk5:=hkeep _ ta ho
     have HK5:=Lib.hid hk5
     clear hdel hkeep hk5
     go_wp2
     go_roundg (I.length - (j + 1))
     case measure=>omega
     case rel=>exact HK5.out
end Go.Proofs.YtkekohmkaefdnaaGreatDoor
namespace Go.Proofs.YtkekohmkaefdnaaGreatDoor
open Go.RowKit Go.Maps Go.Shelf Go.Proofs.YtkekohmkaefdnaaGreatDoorW.PrintWords Go.Proofs.YtkekohmkaefdnaaGreatDoorW.PrintLast
attribute [local go_sem ↓] Go.wp_at_zero Go.wp_at_succ
theorem CaR.get {w : World} {cb tb : Nat} {bud ver gone : Int} {L : List It} {O Ot : Nat→Prop} {vo : Value} {bo : Option Nat} {ss : List (List It)} (h : CaR w cb bud L ver gone O tb vo bo ss Ot) (hs : Short L) (key : ByteArray) (hk : key.size ≤ 1000000) (W : World) (t : Tch (fun _=>False) w W) :
  Calls Tryz.prog 87 #[.pointer (some ⟨tb,0,none⟩),.string key] W fun e w'=>e=.returned (gotV (findK L key))∧CaI w' cb bud L ver gone (Own O w w')∧Tch (fun k=>k=tb) W w':=by
 have hF:=h.few hs
 have hg:=get_gen tb key ss (L.length : Int) Ot W (h.tab.tch t (fun _ _ h=>h)) hk hF
 rw [h.ok.look key] at hg
 refine hg.mono ?_
 rintro e w' ⟨rfl,⟨sb,vs,bs,hM⟩,t1⟩
 refine ⟨rfl,?_,t1⟩
 have hOtb:=h.tab.ownT
 have q1:=t.size
 have q2:=t1.size
 have t2 : Tch (fun k=>k=tb) w w':=(t.mono (fun _ _ h=>h.elim)).trans t1 (fun _ _ h=>h)
 have hct : cb ≠ tb:=fun e=>h.nc (e ▸ hOtb)
 refine h.again (t2.mono (fun k _ e=>e ▸ h.sub _ hOtb)) (h.cells.tch t2 hct) (h.order.tch t2 (fun g hg e=>h.no g hg (e ▸ hOtb))) (.inr ⟨sb,vs,bs,hM⟩) h.ok ?_ (fun g hg=>.inl (h.oo g hg)) ?_ h.sl
 ·rintro k (h1 | ⟨h1,h2⟩)
  ·exact .inl h1
  ·exact .inr ⟨by omega,h2⟩
 ·rintro g hg (h1 | ⟨h1,_⟩)
  ·exact h.no g hg h1
  ·have:=h.lt g (h.oo g hg);omega
structure CS where
 L : List It
 ver : Int
 gone : Int
structure RpC where
 e : Int:=0
 v : ByteArray:=⟨#[]⟩
 n : Int:=0
 ver : Int:=0
 ks : List ByteArray:=[]
def writeF (bud : Int) (s : CS) (x : It) : RpC × CS:=
 if bud < costI x then ({ e:=13 },s)
 else ({ ver:=s.ver + 1 },⟨(evict bud (putL s.L { x with ver:=s.ver + 1 }) s.gone).1,s.ver + 1,(evict bud (putL s.L { x with ver:=s.ver + 1 }) s.gone).2⟩)
theorem write_all (cb : Nat) (bud : Int) (s : CS) (O : Nat→Prop) (x : It) (w : World) (hC : CaI w cb bud s.L s.ver s.gone O) (hs : Short s.L) (hl : s.L.length < 90000) (hx : ShortI x) (hb0 : 0 ≤ bud) (hv0 : 0 ≤ s.ver) (hv1 : s.ver ≤ 1000000000) (hg0 : 0 ≤ s.gone) (hg1 : s.gone ≤ 1000000000) :
  Calls Tryz.prog 149 #[.pointer (some ⟨cb,0,none⟩),x.val] w fun e w'=>e=.returned (repA (writeF bud s x).1.e ⟨#[]⟩ 0 (writeF bud s x).1.ver (.slice none 0 0))∧CaI w' cb bud (writeF bud s x).2.L (writeF bud s x).2.ver (writeF bud s x).2.gone (Own O w w')∧Tch O w w':=by
 unfold writeF
 by_cases h : bud < costI x
 ·rw [if_pos h]
  refine (write_large cb bud s.L s.ver s.gone O x w hC hx h).mono ?_
  rintro e w' ⟨rfl,t⟩
  exact ⟨rfl,(hC.tch t (fun _ _ h=>h)).mono Own.refl (Own.lt hC.lt t.size),t.mono (fun _ _ h=>h.elim)⟩
 ·rw [if_neg h]
  exact write_gen cb bud s.L s.ver s.gone O x w hC hs hl hx hb0 hv0 hv1 hg0 hg1 (by omega)
end Go.Proofs.YtkekohmkaefdnaaGreatDoor
namespace Go.Proofs.YtkekohmkaefdnaaGreatDoor
open Go.RowKit
theorem At.facts3 {w : World} {b t : Nat} {a0 a1 a2 : Value} (h : At w b [a0,a1,a2] t) : (w.cell? ⟨b,0,none⟩=some a0∧w.cell? ⟨b,1,none⟩=some a1∧w.cell? ⟨b,2,none⟩=some a2)∧w.frozen? ⟨b,0,none⟩=false∧w.frozen? ⟨b,1,none⟩=false∧w.frozen? ⟨b,2,none⟩=false:=
 ⟨⟨h.cell 0 rfl,h.cell 1 rfl,h.cell 2 rfl⟩,h.frozen 0,h.frozen 1,h.frozen 2⟩
theorem At.facts4 {w : World} {b t : Nat} {a0 a1 a2 a3 : Value} (h : At w b [a0,a1,a2,a3] t) : (w.cell? ⟨b,0,none⟩=some a0∧w.cell? ⟨b,1,none⟩=some a1∧w.cell? ⟨b,2,none⟩=some a2∧w.cell? ⟨b,3,none⟩=some a3)∧w.frozen? ⟨b,0,none⟩=false∧w.frozen? ⟨b,1,none⟩=false∧w.frozen? ⟨b,2,none⟩=false∧w.frozen? ⟨b,3,none⟩=false:=
 ⟨⟨h.cell 0 rfl,h.cell 1 rfl,h.cell 2 rfl,h.cell 3 rfl⟩,h.frozen 0,h.frozen 1,h.frozen 2,h.frozen 3⟩
theorem At.facts5 {w : World} {b t : Nat} {a0 a1 a2 a3 a4 : Value} (h : At w b [a0,a1,a2,a3,a4] t) : (w.cell? ⟨b,0,none⟩=some a0∧w.cell? ⟨b,1,none⟩=some a1∧w.cell? ⟨b,2,none⟩=some a2∧w.cell? ⟨b,3,none⟩=some a3∧w.cell? ⟨b,4,none⟩=some a4)∧w.frozen? ⟨b,0,none⟩=false∧w.frozen? ⟨b,1,none⟩=false∧w.frozen? ⟨b,2,none⟩=false∧w.frozen? ⟨b,3,none⟩=false∧w.frozen? ⟨b,4,none⟩=false:=
 ⟨⟨h.cell 0 rfl,h.cell 1 rfl,h.cell 2 rfl,h.cell 3 rfl,h.cell 4 rfl⟩,h.frozen 0,h.frozen 1,h.frozen 2,h.frozen 3,h.frozen 4⟩
theorem At.facts6 {w : World} {b t : Nat} {a0 a1 a2 a3 a4 a5 : Value} (h : At w b [a0,a1,a2,a3,a4,a5] t) : (w.cell? ⟨b,0,none⟩=some a0∧w.cell? ⟨b,1,none⟩=some a1∧w.cell? ⟨b,2,none⟩=some a2∧w.cell? ⟨b,3,none⟩=some a3∧w.cell? ⟨b,4,none⟩=some a4∧w.cell? ⟨b,5,none⟩=some a5)∧w.frozen? ⟨b,0,none⟩=false∧w.frozen? ⟨b,1,none⟩=false∧w.frozen? ⟨b,2,none⟩=false∧w.frozen? ⟨b,3,none⟩=false∧w.frozen? ⟨b,4,none⟩=false∧w.frozen? ⟨b,5,none⟩=false:=
 ⟨⟨h.cell 0 rfl,h.cell 1 rfl,h.cell 2 rfl,h.cell 3 rfl,h.cell 4 rfl,h.cell 5 rfl⟩,h.frozen 0,h.frozen 1,h.frozen 2,h.frozen 3,h.frozen 4,h.frozen 5⟩
theorem two_blocks (w : World) (c1 : Array Value) (t1 : Nat) (c2 : Array Value) (t2 : Nat) : ∃ W0,(w.alloc (.cells c1 t1)).alloc (.cells c2 t2)=W0∧Tch (fun _=>False) w W0∧At W0 w.heap.size c1.toList t1∧At W0 (w.heap.size + 1) c2.toList t2∧W0.heap.size=w.heap.size + 2:=
 ⟨_,rfl,((Tch.refl _ w).talloc).talloc,(At.new w _ _).alloc _,at_new' _ _ _ _ (by simp),by simp⟩
def CaX (w w5 : World) (O : Nat→Prop) (cb : Nat) (bud : Int) (s : CS) (N : Nat→Prop) : Prop:=∃ O5,CaI w5 cb bud s.L s.ver s.gone O5∧(∀ k,O5 k→Own O w w5 k)∧∀ k,N k→¬ O5 k
theorem CaX.fin {w w5 : World} {O N : Nat→Prop} {cb : Nat} {bud : Int} {s : CS} (h : CaX w w5 O cb bud s N) (t : Tch O w w5) (hLT : ∀ k,O k→k < w.heap.size) : CaI w5 cb bud s.L s.ver s.gone (Own O w w5):=by
 obtain ⟨O5,h1,h2,_⟩:=h
 exact h1.mono h2 (Own.lt hLT t.size)
theorem CaX.tch {w w5 w6 : World} {O N S : Nat→Prop} {cb : Nat} {bud : Int} {s : CS} (h : CaX w w5 O cb bud s N) (t : Tch S w5 w6) (hS : ∀ k,S k→N k) : CaX w w6 O cb bud s N:=by
 obtain ⟨O5,h1,h2,h3⟩:=h
 exact ⟨O5,h1.tch t (fun k hk hs=>h3 k (hS k hs) hk),fun k hk=>(h2 k hk).elim .inl (fun h=>.inr ⟨h.1,Nat.lt_of_lt_of_le h.2 t.size⟩),h3⟩
theorem CaX.fresh {w w5 : World} {O N : Nat→Prop} {cb : Nat} {bud : Int} {s : CS} (h : CaX w w5 O cb bud s N) : CaX w w5 O cb bud s (fun k=>N k ∨ w5.heap.size ≤ k):=by
 obtain ⟨O5,h1,h2,h3⟩:=h
 exact ⟨O5,h1,h2,fun k hk h=>hk.elim (fun hk=>h3 k hk h) (fun hk=>by have:=h1.lt k h;omega)⟩
theorem CaX.start {w w5 : World} {O : Nat→Prop} {cb : Nat} {bud : Int} {s : CS} (h : CaI w cb bud s.L s.ver s.gone O) (t : Tch (fun _=>False) w w5) : CaX w w5 O cb bud s (fun k=>w.heap.size ≤ k):=
 ⟨O,h.tch t (fun _ _ h=>h),fun _ h=>.inl h,fun k hk h1=>by have:=h.lt k h1;omega⟩
theorem CaX.step {w w5 W w6 : World} {O O5 N : Nat→Prop} {cb : Nat} {bud : Int} {s : CS} (h2 : ∀ k,O5 k→Own O w w5 k) (h3 : ∀ k,N k→¬ O5 k) (hN : ∀ k,N k→k < w5.heap.size) (t0 : Tch O w w5) (tW : Tch (fun _=>False) w5 W) (t : Tch O5 W w6) (hC : CaI w6 cb bud s.L s.ver s.gone (Own O5 W w6)) : CaX w w6 O cb bud s N∧Tch O w w6:=by
 have q0:=t0.size
 have q1:=tW.size
 have q2:=t.size
 refine ⟨⟨_,hC,?_,?_⟩,t0.trans ((tW.mono (fun _ _ h=>h.elim)).trans t (fun _ _ h=>h)) (fun k hk h=>Own.old (h2 k h) hk)⟩
 ·rintro k (h | ⟨h,h'⟩)
  ·rcases h2 k h with h | ⟨h,h'⟩
   ·exact .inl h
   ·exact .inr ⟨h,by omega⟩
  ·exact .inr ⟨by omega,h'⟩
 ·rintro k hk (h | ⟨h,_⟩)
  ·exact h3 k hk h
  ·have:=hN k hk
   omega
theorem CaX.set5 {w w5 : World} {O N : Nat→Prop} {cb : Nat} {bud : Int} {s : CS} {g : Nat} (h : CaX w w5 O cb bud s N) (hg : N g) (v0 v1 v2 v3 v4 : Value) : CaX w (((((w5.setCell ⟨g,0,none⟩ v0).setCell ⟨g,1,none⟩ v1).setCell ⟨g,2,none⟩ v2).setCell ⟨g,3,none⟩ v3).setCell ⟨g,4,none⟩ v4) O cb bud s N:=
 h.tch (tch_set5 w5 g v0 v1 v2 v3 v4) (fun k e=>e ▸ hg)
theorem Tch.tset5 {S : Nat→Prop} {w w5 : World} {g : Nat} (t : Tch S w w5) (hg : w.heap.size ≤ g) (v0 v1 v2 v3 v4 : Value) : Tch S w (((((w5.setCell ⟨g,0,none⟩ v0).setCell ⟨g,1,none⟩ v1).setCell ⟨g,2,none⟩ v2).setCell ⟨g,3,none⟩ v3).setCell ⟨g,4,none⟩ v4):=
 t.trans (tch_set5 w5 g v0 v1 v2 v3 v4) (fun k hk h=>by omega)
theorem done5 {w w7 : World} {O N : Nat→Prop} {cb : Nat} {bud : Int} {s : CS} {g : Nat} {x0 x1 x2 x3 x4 : Value} (hX : CaX w w7 O cb bud s N) (t : Tch O w w7) (hr : At w7 g [x0,x1,x2,x3,x4] TReply) (hN : N g) (hLT : ∀ k,O k→k < w.heap.size) (hg : w.heap.size ≤ g) (v0 v1 v2 v3 v4 : Value) :
  ∃ W9,(((((w7.setCell ⟨g,0,none⟩ v0).setCell ⟨g,1,none⟩ v1).setCell ⟨g,2,none⟩ v2).setCell ⟨g,3,none⟩ v3).setCell ⟨g,4,none⟩ v4)=W9∧At W9 g [v0,v1,v2,v3,v4] TReply∧CaI W9 cb bud s.L s.ver s.gone (Own O w W9)∧Tch O w W9:=
 ⟨_,rfl,at_set5 hr _ _ _ _ _,(hX.set5 hN v0 v1 v2 v3 v4).fin (t.tset5 hg v0 v1 v2 v3 v4) hLT,t.tset5 hg v0 v1 v2 v3 v4⟩
end Go.Proofs.YtkekohmkaefdnaaGreatDoor
namespace Go.Proofs.YtkekohmkaefdnaaGreatDoor
open Go.RowKit
structure Cm where
 op : Int
 k : ByteArray
 v : ByteArray
 n : Int
 ver : Int
abbrev Cm.val (c : Cm) : Value:=.agg #[.int .i64 c.op,.string c.k,.string c.v,.int .i64 c.n,.int .i64 c.ver]
abbrev Cm.cells (c : Cm) : List Value:=[.int .i64 c.op,.string c.k,.string c.v,.int .i64 c.n,.int .i64 c.ver]
def untilF (n now : Int) : Int:=if n=0 then 0 else now + n
def it0 : It:=⟨⟨#[]⟩,⟨#[]⟩,0,0⟩
theorem gotV_eq (o : Option It) : gotV o=.tuple #[(o.getD it0).val,.bool o.isSome]:=by cases o <;> rfl
theorem until_some {n now : Int} (h0 : 0 ≤ n) (h1 : n ≤ 1000000000000) (h2 : 0 ≤ now) (h3 : now ≤ 1000000000000) : Pb.cache_until.f n now=some (untilF n now):=by
 have e : wrap64 (now + n)=now + n:=by unfold wrap64;omega
 unfold Pb.cache_until.f untilF
 rw [e]
 by_cases h : n=0
 ·rw [if_pos h,if_pos h]
 ·rw [if_neg h,if_neg h]
structure Mdl (w w5 : World) (O : Nat→Prop) (cb : Nat) (bud : Int) (s : CS) (ga ta : Nat) (was : It) (c : Cm) : Prop where
 it : At w5 ta was.cells TItem
 ca : CaX w w5 O cb bud s (fun k=>k=ga ∨ k=ga + 1 ∨ k=ta)
 t : Tch O w w5
 cmd : At w5 ga c.cells TCmd
 rep : At w5 (ga + 1) repL0 TReply
 lt : ga + 1 < ta
theorem mid_late {w W0 w3 : World} {O : Nat→Prop} {cb tb ga : Nat} {bud : Int} {s : CS} {was : It} {c : Cm} (hg : w.heap.size=ga) (TA : Tch (fun _=>False) w W0) (CA : At W0 ga c.cells TCmd) (CR : At W0 (ga + 1) repL0 TReply) (hs : W0.heap.size=ga + 2) (hLT : ∀ k,O k→k < ga) (htb : O tb) (hM : CaI w3 cb bud s.L s.ver s.gone (Own O W0.drew w3)) (tt : Tch (fun k=>k=tb) W0.drew w3) :
  Mdl w (w3.alloc (.cells #[.string was.k,.string was.v,.int .i64 was.ver,.int .i64 was.unt] TItem)) O cb bud s ga w3.heap.size was c:=by
 have t5 : Tch (fun k=>k=tb) W0 (w3.alloc (.cells #[.string was.k,.string was.v,.int .i64 was.ver,.int .i64 was.unt] TItem)):=(((Tch.drew (fun k=>k=tb) W0).trans tt (fun _ _ h=>h))).talloc
 have q1 : W0.heap.size ≤ w3.heap.size:=tt.size
 have q2:=hLT tb htb
 refine ⟨At.new w3 _ _,⟨_,hM.tch (Tch.alloc (fun _=>False) _ _) (fun _ _ h=>h),?_,?_⟩,?_,?_,?_,by omega⟩
 ·rintro k (h | ⟨h,h'⟩)
  ·exact .inl h
  ·have h1 : W0.heap.size ≤ k:=h
   exact .inr ⟨by omega,by simp;omega⟩
 ·rintro k hk (h | ⟨h,h'⟩)
  ·have:=hLT k h;omega
  ·have h1 : W0.heap.size ≤ k:=h
   omega
 ·exact (TA.mono (fun _ _ h=>h.elim)).trans t5 (fun k hk h=>by rw [h];exact htb)
 ·exact CA.tch t5 (by omega)
 ·exact CR.tch t5 (by omega)
theorem mid_early {w W0 w3 : World} {O : Nat→Prop} {cb tb ga : Nat} {bud : Int} {s : CS} {was : It} {c : Cm} (hg : w.heap.size=ga) (TA : Tch (fun _=>False) w W0) (CA : At W0 ga c.cells TCmd) (CR : At W0 (ga + 1) repL0 TReply) (hs : W0.heap.size=ga + 2) (hLT : ∀ k,O k→k < ga) (htb : O tb)
  (hM : CaI w3 cb bud s.L s.ver s.gone (Own O (W0.alloc (.cells #[.string ⟨#[]⟩,.string ⟨#[]⟩,.int .i64 0,.int .i64 0] TItem)).drew w3)) (tt : Tch (fun k=>k=tb) (W0.alloc (.cells #[.string ⟨#[]⟩,.string ⟨#[]⟩,.int .i64 0,.int .i64 0] TItem)).drew w3) :
  Mdl w ((((w3.setCell ⟨W0.heap.size,0,none⟩ (.string was.k)).setCell ⟨W0.heap.size,1,none⟩ (.string was.v)).setCell ⟨W0.heap.size,2,none⟩ (.int .i64 was.ver)).setCell ⟨W0.heap.size,3,none⟩ (.int .i64 was.unt)) O cb bud s ga W0.heap.size was c:=by
 have q2:=hLT tb htb
 have q3 : (W0.alloc (.cells #[.string ⟨#[]⟩,.string ⟨#[]⟩,.int .i64 0,.int .i64 0] TItem)).drew.heap.size=W0.heap.size + 1:=by simp
 have q1:=tt.size
 have za:=(at_new' W0 #[.string ⟨#[]⟩,.string ⟨#[]⟩,.int .i64 0,.int .i64 0] TItem W0.heap.size rfl).drew.tch tt (show ¬ W0.heap.size=tb by omega)
 have t4:=tch_set4 w3 W0.heap.size (.string was.k) (.string was.v) (.int .i64 was.ver) (.int .i64 was.unt)
 have t3 : Tch (fun k=>k=tb) W0 w3:=((Tch.refl (fun k=>k=tb) W0).talloc.tdrew).trans tt (fun _ _ h=>h)
 have t5 : Tch (fun k=>k=tb ∨ k=W0.heap.size) W0 ((((w3.setCell ⟨W0.heap.size,0,none⟩ (.string was.k)).setCell ⟨W0.heap.size,1,none⟩ (.string was.v)).setCell ⟨W0.heap.size,2,none⟩ (.int .i64 was.ver)).setCell ⟨W0.heap.size,3,none⟩ (.int .i64 was.unt)):=(t3.mono (fun _ _ h=>.inl h)).trans t4 (fun _ _ h=>.inr h)
 refine ⟨at_set4 za _ _ _ _,⟨_,hM.tch t4 ?_,?_,?_⟩,?_,?_,?_,by omega⟩
 ·rintro k (h | ⟨h,h'⟩) rfl
  ·have:=hLT _ h;omega
  ·omega
 ·rintro k (h | ⟨h,h'⟩)
  ·exact .inl h
  ·exact .inr ⟨by omega,Nat.lt_of_lt_of_le h' t4.size⟩
 ·rintro k hk (h | ⟨h,h'⟩)
  ·have:=hLT k h;omega
  ·omega
 ·exact (TA.mono (fun _ _ h=>h.elim)).trans t5 (fun k hk h=>h.elim (fun h=>by rw [h];exact htb) (fun h=>by omega))
 ·exact CA.tch t5 (by omega)
 ·exact CR.tch t5 (by omega)
end Go.Proofs.YtkekohmkaefdnaaGreatDoor
namespace Go.Proofs.YtkekohmkaefdnaaGreatDoor
open Go.RowKit Go.Maps Go.Shelf
attribute [local go_sem ↓] Go.wp_at_zero Go.wp_at_succ
def preB (k p : ByteArray) : Bool:=decide (p.size ≤ k.size) && ((k.extract 0 p.size).toList == p.toList)
theorem prefix_any (k p : ByteArray) (w : World) (hk : k.size ≤ 1000000) (hp : p.size ≤ 1000000) :
  Calls Tryz.prog 151 #[.string k,.string p] w fun e w'=>e=.returned (.bool (preB k p))∧w'=w:=by
 by_cases h : p.size ≤ k.size
 ·have hF : preB k p=((k.extract 0 p.size).toList == p.toList):=by unfold preB;rw [decide_eq_true h];rfl
  have HF:=Lib.hid hF
  have hI : (p.size : Int) ≤ (k.size : Int):=by omega
  clear hF
  go_enter Tryz.func151,Tryz.ntmps151
  go_wp2
  go_ret
  rw [HF.out]
  exact ⟨rfl,rfl⟩
 ·have hF : preB k p=false:=by unfold preB;rw [decide_eq_false h];rfl
  have HF:=Lib.hid hF
  have hI : (k.size : Int) < (p.size : Int):=by omega
  clear hF
  go_enter Tryz.func151,Tryz.ntmps151
  go_wp2
  go_ret
  rw [HF.out]
  exact ⟨rfl,rfl⟩
end Go.Proofs.YtkekohmkaefdnaaGreatDoor
