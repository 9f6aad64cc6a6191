import Derived.Test.YtkekohmkaefdnaaGreatDoorPd
import Derived.Test.YtkekohmkaefdnaaGreatDoorPy
import Derived.Test.YtkekohmkaefdnaaGreatDoorPR4
import Derived.Test.YtkekohmkaefdnaaGreatDoorBase
import Derived.JoinedOf
set_option linter.unusedSimpArgs false
set_option linter.unusedVariables false
set_option maxHeartbeats 8000000
set_option maxRecDepth 100000
namespace Go.Proofs.YtkekohmkaefdnaaGreatDoor
open Go.RowKit Go.Maps Go.Shelf Go.Proofs.YtkekohmkaefdnaaGreatDoorW.PrintWords Go.Proofs.YtkekohmkaefdnaaGreatDoorW.PrintLast Go.Proofs.YtkekohmkaefdnaaGreatDoor.Pa
attribute [local go_sem ↓] Go.wp_at_zero Go.wp_at_succ
def toldF (r : RpC) : RpC:=if toldB r.e r.v r.n r.ver r.ks=true then r else { e:=13 }
def PlP (w : World) (p cb rb : Nat) (u : Value) (mb : Nat) (ids : Int) (A : Option Addr) (c : Nat) (rules : List S145) (bud : Int) (r : RpC × CS) (most : Nat) (notes' : List Nt) (total' now : Int) (Oc Og : Nat→Prop) (e : Ending) (w' : World) : Prop:=
 ∃ v,e=.returned (repA (toldF r.1).e (toldF r.1).v (toldF r.1).n (toldF r.1).ver v)∧DoQ w p cb rb u mb ids A c rules bud r.2 most notes' total' now Oc Og v (toldF r.1).ks w'
theorem DoQ.nil {w : World} {p cb rb : Nat} {u : Value} {mb : Nat} {ids : Int} {A : Option Addr} {c : Nat} {rules : List S145} {bud : Int} {s' : CS} {most : Nat} {notes' : List Nt} {total' now : Int} {Oc Og : Nat→Prop} {v : Value} {ks : List ByteArray} {w' : World} (h : DoQ w p cb rb u mb ids A c rules bud s' most notes' total' now Oc Og v ks w') : DoQ w p cb rb u mb ids A c rules bud s' most notes' total' now Oc Og (.slice none 0 0) [] w':=by
 obtain ⟨b,O1,O2,h1,h2,h3,h4,h5,h6⟩:=h
 exact ⟨none,O1,O2,.nil,h2,(fun g hg=>by cases hg),h4,h5,h6⟩
theorem DoQ.tch {w w0 : World} {p cb rb : Nat} {u : Value} {mb : Nat} {ids : Int} {A : Option Addr} {c : Nat} {rules : List S145} {bud : Int} {s' : CS} {most : Nat} {notes' : List Nt} {total' now : Int} {Oc Og S : Nat→Prop} {v : Value} {ks : List ByteArray} {w' w2 : World} (h : DoQ w p cb rb u mb ids A c rules bud s' most notes' total' now Oc Og v ks w') (h0 : Tch (fun _=>False) w0 w) (t : Tch S w' w2)
  (hOc : ∀ k,Oc k→k < w0.heap.size) (hOg : ∀ k,Og k→k < w0.heap.size) (hp : p < w0.heap.size) (hA : ∀ ad,A=some ad→ad.block < w0.heap.size) (hS : ∀ k,S k→w0.heap.size ≤ k∧k < w.heap.size) : DoQ w0 p cb rb u mb ids A c rules bud s' most notes' total' now Oc Og v ks w2:=by
 obtain ⟨b,O1,O2,h1,h2,h3,h4,h5,h6⟩:=h
 have q:=h0.size
 refine ⟨b,O1,O2,h1.tch t (fun g hg hs=>?_),h2.tch t (fun k hk hs=>?_) (fun k hk hs=>?_) (fun hs=>?_) (fun ad ha hs=>?_),fun g hg=>⟨Nat.le_trans q (h3 g hg).1,(h3 g hg).2⟩,?_,fun k hk=>(h5 k hk).imp id (fun h=>Nat.le_trans q h),fun k hk=>(h6 k hk).imp id (fun h=>Nat.le_trans q h)⟩
 ·have:=(h3 g hg).1;have:=(hS g hs).2;omega
 ·rcases h5 k hk with h | h
  ·have:=hOc k h;have:=(hS k hs).1;omega
  ·have:=(hS k hs).2;omega
 ·rcases h6 k hk with h | h
  ·have:=hOg k h;have:=(hS k hs).1;omega
  ·have:=(hS k hs).2;omega
 ·have:=(hS p hs).1;omega
 ·have:=(hS _ hs).1;have:=hA ad ha;omega
 ·exact ((h0.mono (fun _ _ h=>h.elim)).trans h4 (fun _ _ h=>h)).trans t (fun k hk hs=>by have:=(hS k hs).1;omega)
theorem plain_gen (p cb rb : Nat) (u : Value) (mb : Nat) (ids : Int) (A : Option Addr) (c : Nat) (rules : List S145) (bud : Int) (s : CS) (most : Nat) (notes : List Nt) (total now : Int) (Oc Og : Nat→Prop) (user : ByteArray) (x : Cm) (cl : Int) (al : Bool) (r2 : Int) (w : World)
  (h : SvM w p cb rb u mb ids A c rules bud s most notes total now Oc Og) (hf : Fit bud s x now) (hLd : x.op=7→∀ W,Tch (fun k=>Oc k ∨ Og k) w W→LaidN W) (hm0 : 1 ≤ most) (hm1 : most ≤ 50) (hln : notes.length ≤ most) (ht0 : 0 ≤ total) (ht1 : total ≤ 1000000000)
  (hcl : Pb.command_Class.f 60 x.op=some cl) (hdec : Pa.acl_Decide.f 60 rules user cl x.k=some (al,r2)) :
  Calls Tryz.prog 11 #[.pointer (some ⟨p,0,none⟩),.string user,x.val] w (PlP w p cb rb u mb ids A c rules bud (portF bud s x now al) most (addL most notes ⟨user,x.op,x.k,al⟩) (total + 1) now Oc Og):=by
 obtain ⟨W0,hW0,ta,ca,cr,hsz⟩:=two_blocks w #[.int .i64 x.op,.string x.k,.string x.v,.int .i64 x.n,.int .i64 x.ver] TCmd #[.int .i64 0,.string ⟨#[]⟩,.int .i64 0,.int .i64 0,.slice none 0 0] TReply
 have hri:=Pb.command_Right.calls 60 x.op x.k x.v x.n x.ver true W0 hf.right
 have uA:=ca.facts5
 have hpl:=h.port.lt
 have hOc:=h.ca.lt
 have hOg:=h.ri.lt
 have hAl : ∀ ad,A=some ad→ad.block < w.heap.size:=fun ad ha=>by
  obtain ⟨cells,hcl⟩:=h.rul.2.2 ad ha
  exact hcl.lt
 have HH:=Lib.hid h
 have CA:=Lib.hid ca
 have CR:=Lib.hid cr
 have TA:=Lib.hid ta
 have HSZ:=Lib.hid hsz
 have hgl:=cr.lt
 clear h ca cr ta hsz
 go_enter Tryz.func11,Tryz.ntmps11
 go_wp2_with fail
 try rw [hW0]
 refine hri.mono ?_
 rintro e w1 ⟨rfl,hb1⟩
 generalize hga : w.heap.size=ga at *
 have t1:=TA.out.tbelow hb1
 have a1:=CA.out.abelow hb1
 have r1:=CR.out.abelow hb1
 have u1:=a1.facts5
 have v1:=r1.facts5
 have hdo:=pdo_gen p cb rb u mb ids A c rules bud s most notes total now Oc Og user x cl al r2 w1 (HH.out.tchF t1) hf (fun h7 W tW=>hLd h7 W ((t1.mono (fun _ _ h=>h.elim)).trans tW (fun _ _ h=>h))) hm0 hm1 hln ht0 ht1 hcl hdec
 have hg1 : ga + 1 < w1.heap.size:=r1.lt
 have HGA:=Lib.hid hga
 have T1:=Lib.hid t1
 have R1:=Lib.hid r1
 generalize hrr : portF bud s x now al=rr at hdo ⊢
 have HRR:=Lib.hid hrr
 clear hrr t1 a1 r1 hb1 hri uA hW0 hga hcl hdec
 go_wp2_with fail
 refine hdo.mono ?_
 rintro e w2 ⟨v,rfl,hQ⟩
 have HQ:=Lib.hid hQ
 obtain ⟨b,O1,O2,hs2,hM2,hb2,t2,hO1,hO2⟩:=hQ
 obtain ⟨A',c',rfl⟩:=hs2.formL
 have r2':=R1.out.tch t2 (fun h=>by rcases h with h | h;(have:=hOc _ h;omega);(have:=hOg _ h;omega))
 have hs3:=hs2.tch (Tch.alloc (fun _=>False) w2 (.cells #[.int .i64 rr.1.e,.string rr.1.v,.int .i64 rr.1.n,.int .i64 rr.1.ver,.slice A' rr.1.ks.length c'] TReply)) (fun _ _ h=>h)
 have hto:=told_gen rr.1.e rr.1.v rr.1.n rr.1.ver A' c' rr.1.ks _ hs3.toC.2.1 hs3.toC.2.2
 have R2:=Lib.hid r2'
 have v2:=r2'.facts5
 clear hs2 hM2 hb2 t2 hO1 hO2 hs3 r2' u1 v1 hdo
 cases hT : toldB rr.1.e rr.1.v rr.1.n rr.1.ver rr.1.ks with
 | true=>
  have hV : toldV rr.1.e rr.1.v rr.1.n rr.1.ver A' c' rr.1.ks=repA rr.1.e rr.1.v rr.1.n rr.1.ver (.slice A' rr.1.ks.length c'):=by unfold toldV;rw [if_pos hT]
  rw [hV] at hto
  clear hV
  go_wp2_with fail
  refine hto.mono ?_
  rintro e w4 ⟨rfl,hb4⟩
  have r4:=(R2.out.alloc _).abelow hb4
  have v4:=r4.facts5
  have t24:=((Tch.refl (fun k=>k=ga + 1) w2).talloc (o:=.cells #[.int .i64 rr.1.e,.string rr.1.v,.int .i64 rr.1.n,.int .i64 rr.1.ver,.slice A' rr.1.ks.length c'] TReply)).tbelow hb4
  have t29:=t24.trans (tch_set5 w4 (ga + 1) (.int .i64 rr.1.e) (.string rr.1.v) (.int .i64 rr.1.n) (.int .i64 rr.1.ver) (.slice A' rr.1.ks.length c')) (fun _ _ h=>h)
  have a9:=at_set5 r4 (.int .i64 rr.1.e) (.string rr.1.v) (.int .i64 rr.1.n) (.int .i64 rr.1.ver) (.slice A' rr.1.ks.length c')
  obtain ⟨W9,hW9⟩ : ∃ W9,(((((w4.setCell ⟨ga + 1,0,none⟩ (.int .i64 rr.1.e)).setCell ⟨ga + 1,1,none⟩ (.string rr.1.v)).setCell ⟨ga + 1,2,none⟩ (.int .i64 rr.1.n)).setCell ⟨ga + 1,3,none⟩ (.int .i64 rr.1.ver)).setCell ⟨ga + 1,4,none⟩ (.slice A' rr.1.ks.length c'))=W9:=⟨_,rfl⟩
  rw [hW9] at t29 a9
  have hQ9:=DoQ.tch HQ.out T1.out t29 (by rw [HGA.out];exact hOc) (by rw [HGA.out];exact hOg) (by rw [HGA.out];exact hpl) (by rw [HGA.out];exact hAl) (fun k hk=>by have:=HGA.out;omega)
  have H9:=Lib.hid hQ9
  have u9:=a9.facts5
  clear t29 t24 a9 r4 hb4 hto hQ9
  go_wp2
  try rw [hW9]
  refine bodyPost_ret (v:=repA rr.1.e rr.1.v rr.1.n rr.1.ver (.slice A' rr.1.ks.length c')) (by simp [results,Tryz.results11,go_sem,u9]) rfl ?_
  rw [HRR.out]
  have hF : toldF rr.1=rr.1:=by unfold toldF;rw [if_pos hT]
  refine ⟨(.slice A' rr.1.ks.length c'),?_,?_⟩
  ·rw [hF]
  ·rw [hF];exact H9.out
 | false=>
  have hV : toldV rr.1.e rr.1.v rr.1.n rr.1.ver A' c' rr.1.ks=repA 13 ⟨#[]⟩ 0 0 (.slice none 0 0):=by unfold toldV;rw [if_neg (by rw [hT];simp)]
  rw [hV] at hto
  clear hV
  go_wp2_with fail
  refine hto.mono ?_
  rintro e w4 ⟨rfl,hb4⟩
  have r4:=(R2.out.alloc _).abelow hb4
  have v4:=r4.facts5
  have t24:=((Tch.refl (fun k=>k=ga + 1) w2).talloc (o:=.cells #[.int .i64 rr.1.e,.string rr.1.v,.int .i64 rr.1.n,.int .i64 rr.1.ver,.slice A' rr.1.ks.length c'] TReply)).tbelow hb4
  have t29:=t24.trans (tch_set5 w4 (ga + 1) (.int .i64 13) (.string ⟨#[]⟩) (.int .i64 0) (.int .i64 0) (.slice none 0 0)) (fun _ _ h=>h)
  have a9:=at_set5 r4 (.int .i64 13) (.string ⟨#[]⟩) (.int .i64 0) (.int .i64 0) (.slice none 0 0)
  obtain ⟨W9,hW9⟩ : ∃ W9,(((((w4.setCell ⟨ga + 1,0,none⟩ (.int .i64 13)).setCell ⟨ga + 1,1,none⟩ (.string ⟨#[]⟩)).setCell ⟨ga + 1,2,none⟩ (.int .i64 0)).setCell ⟨ga + 1,3,none⟩ (.int .i64 0)).setCell ⟨ga + 1,4,none⟩ (.slice none 0 0))=W9:=⟨_,rfl⟩
  rw [hW9] at t29 a9
  have hQ9:=DoQ.tch HQ.out.nil T1.out t29 (by rw [HGA.out];exact hOc) (by rw [HGA.out];exact hOg) (by rw [HGA.out];exact hpl) (by rw [HGA.out];exact hAl) (fun k hk=>by have:=HGA.out;omega)
  have H9:=Lib.hid hQ9
  have u9:=a9.facts5
  clear t29 t24 a9 r4 hb4 hto hQ9
  go_wp2
  try rw [hW9]
  refine bodyPost_ret (v:=repA 13 ⟨#[]⟩ 0 0 (.slice none 0 0)) (by simp [results,Tryz.results11,go_sem,u9]) rfl ?_
  rw [HRR.out]
  have hF : toldF rr.1={ e:=13 }:=by unfold toldF;rw [if_neg (by rw [hT];simp)]
  refine ⟨(.slice none 0 0),?_,?_⟩
  ·rw [hF]
  ·rw [hF];exact H9.out
end Go.Proofs.YtkekohmkaefdnaaGreatDoor
namespace Go.Proofs.YtkekohmkaefdnaaGreatDoor
open Go.RowKit Go.Maps Go.Shelf Go.Proofs.YtkekohmkaefdnaaGreatDoorW.PrintWords Go.Proofs.YtkekohmkaefdnaaGreatDoorW.PrintLast Go.Proofs.YtkekohmkaefdnaaGreatDoor.Pa
attribute [local go_sem ↓] Go.wp_at_zero Go.wp_at_succ
theorem tick_none (p mb : Nat) (u rl c r : Value) (ids now : Int) (w : World) (hp : At w p (portV u rl c r ids now mb) TPort) (hC : Conns w mb [] []) (hn0 : 0 ≤ now) (hn1 : now ≤ 1000000000) :
  Calls Tryz.prog 23 #[.pointer (some ⟨p,0,none⟩)] w fun e w'=>e=.returned (.slice none 0 0)∧At w' p (portV u rl c r ids (now + 1) mb) TPort∧Conns w' mb [] []∧Tch (fun k=>k=p) w w':=by
 have hpm : p ≠ mb:=hC.pnm hp
 have hadd:=i64_add ⟨p,5,none⟩ now 1 (now + 1) w (hp.cell 5 rfl) (hp.frozen 5) q43_
 have hp1 : At (w.setCell ⟨p,5,none⟩ (.int .i64 (now + 1))) p (portV u rl c r ids (now + 1) mb) TPort:=hp.set 5 (.int .i64 (now + 1))
 have t1 : Tch (fun k=>k=p) w (w.setCell ⟨p,5,none⟩ (.int .i64 (now + 1))):=Tch.set w ⟨p,5,none⟩ _
 have hC1:=hC.tch t1 (by omega) (fun b hb=>by cases hb)
 obtain ⟨W1,hW1⟩ : ∃ W1,w.setCell ⟨p,5,none⟩ (.int .i64 (now + 1))=W1:=⟨_,rfl⟩
 rw [hW1] at hp1 t1 hC1
 have hop:=open_any p mb u rl c r ids (now + 1) [] [] W1 (by decide) hp1 hC1
 have P1:=Lib.hid hp1
 have C1:=Lib.hid hC1
 have T1:=Lib.hid t1
 have hid : (IntKind.i64.wrap (now + 1))=now + 1:=IntWalk.i64_in _ (by omega)
 clear hp hC hp1 hC1 t1
 go_enter Tryz.func23,Tryz.ntmps23
 go_wp2_with (go_at_call 55;refine hadd.mono ?_;rintro e w5 ⟨rfl,rfl⟩)
 try rw [hW1]
 clear hadd hW1
 refine hop.mono ?_
 rintro e w2 ⟨v,rfl,⟨A,cc,rfl,h2,h3⟩,hb⟩
 have e0 : (openIds []).length=0:=rfl
 rw [e0]
 have hp2:=P1.out.abelow hb
 have hC2:=C1.out.tch (Tch.of_below (fun _=>False) hb) (fun h=>h) (fun b hb=>by cases hb)
 have t2:=T1.out.trans (Tch.of_below (fun k=>k=p) hb) (fun _ _ h=>h)
 have P2:=Lib.hid hp2
 have C2:=Lib.hid hC2
 have T2:=Lib.hid t2
 clear hp2 hC2 t2 hb h3 h2 e0 hop
 go_wp2
 go_loopg [4,17] 0 (fun gg s4 s17 wr=>s4=.slice none 0 0∧s17=.int .i64 0∧wr=w2)
 case atStart=>exact ⟨rfl,rfl,rfl⟩
 case round=>
  obtain ⟨rfl,rfl,rfl⟩:=hrel
  go_wp2
  go_ret
  exact ⟨rfl,P2.out,C2.out,T2.out⟩
theorem SvM.start {w : World} {p mb ub cb tb rb : Nat} {rv : Value} {rules : List S145} {bud : Int} {most : Nat} (h : NewAt w p mb ub cb tb rb rv rules bud (most : Int)) : ∃ A c,SvM w p cb rb (.pointer (some ⟨ub,0,none⟩)) mb 0 A c rules bud ⟨[],0,0⟩ most [] 0 0 (fun k=>k=cb ∨ k=tb) (fun k=>k=rb):=by
 obtain ⟨hp,hco,⟨A,c,rfl,hc,hr,hty⟩,hca,hta,hri⟩:=h
 have e1 : cb ≠ rb:=at_ne2 hca hri (by decide)
 have e2 : tb ≠ rb:=at_ne2 hta hri (by decide)
 have e3 : p ≠ cb:=at_ne2 hp hca (by decide)
 have e4 : p ≠ tb:=at_ne2 hp hta (by decide)
 have e5 : p ≠ rb:=at_ne2 hp hri (by decide)
 refine ⟨A,c,hp,⟨hc,hr,hty⟩,CaI.empty hca hta,⟨_,none,hri,.nil,rfl,(fun g hg=>by cases hg),fun k hk=>hk ▸ hri.lt⟩,?_,?_,e5,?_⟩
 ·rintro k (rfl | rfl) h
  ·exact e1 h
  ·exact e2 h
 ·rintro (h | h)
  ·exact e3 h
  ·exact e4 h
 ·intro ad ha
  obtain ⟨cells,hcl⟩:=hty ad ha
  refine ⟨?_,at_ne2 hcl hri (by decide)⟩
  rintro (h | h)
  ·exact at_ne2 hcl hca (by decide) h
  ·exact at_ne2 hcl hta (by decide) h
theorem SvM.tick {w w' : World} {p cb rb : Nat} {u : Value} {mb : Nat} {ids : Int} {A : Option Addr} {c : Nat} {rules : List S145} {bud : Int} {s : CS} {most : Nat} {notes : List Nt} {total now now' : Int} {Oc Og : Nat→Prop} (h : SvM w p cb rb u mb ids A c rules bud s most notes total now Oc Og) (t : Tch (fun k=>k=p) w w') (hp : At w' p (portV u (.slice A rules.length c) (.pointer (some ⟨cb,0,none⟩)) (.pointer (some ⟨rb,0,none⟩)) ids now' mb) TPort) : SvM w' p cb rb u mb ids A c rules bud s most notes total now' Oc Og:=
 ⟨hp,h.rul.tch t (fun ad ha e=>by
  obtain ⟨cells,hcl⟩:=h.rul.2.2 ad ha
  exact at_ne2 hcl h.port (by decide) e),h.ca.tch t (fun k hk e=>h.pc (e ▸ hk)),h.ri.tch t (fun k hk e=>h.pr (e ▸ hk)),h.dis,h.pc,h.pr,h.rc⟩
theorem toldF_small {r : RpC} (he : 0 ≤ r.e∧r.e ≤ 15) (hv : r.v.size ≤ 500) (hn : -1000000000000 ≤ r.n∧r.n ≤ 1000000000000) (hver : 0 ≤ r.ver∧r.ver ≤ 1000000000000) (hk : r.ks=[]) : toldF r=r:=by
 have h : toldB r.e r.v r.n r.ver r.ks=true:=by
  rw [hk]
  unfold toldB
  rw [decide_eq_true (show Rq.RepP r.e r.v r.n r.ver [] from ⟨he.1,he.2,⟨hn.1,hn.2,hver.1,hver.2⟩,hv,by decide,fun k hk=>by cases hk⟩),decide_eq_true (by show 20 + r.v.size + 0 ≤ 2046;omega)]
  rfl
 unfold toldF
 rw [if_pos h]
end Go.Proofs.YtkekohmkaefdnaaGreatDoor
namespace Go.Proofs.YtkekohmkaefdnaaGreatDoor
open Go.RowKit Go.Maps Go.Shelf Go.Proofs.YtkekohmkaefdnaaGreatDoorW.PrintWords Go.Proofs.YtkekohmkaefdnaaGreatDoorW.PrintLast Go.Proofs.YtkekohmkaefdnaaGreatDoor.Pa
theorem addL_len (most : Nat) (l : List Nt) (x : Nt) : (addL most l x).length ≤ most:=by
 unfold addL
 rw [List.length_drop,List.length_append,List.length_singleton]
 omega
def StI (w0 : World) (p cb rb : Nat) (u : Value) (mb : Nat) (A : Option Addr) (c : Nat) (rules : List S145) (bud : Int) (s : CS) (most : Nat) (notes : List Nt) (total now : Int) (wr : World) : Prop:=
 ∃ Oc Og,SvM wr p cb rb u mb 0 A c rules bud s most notes total now Oc Og∧Conns wr mb [] []∧(∀ k,Oc k→w0.heap.size ≤ k∧k ≠ mb)∧(∀ k,Og k→w0.heap.size ≤ k∧k ≠ mb)∧w0.heap.size ≤ p∧Below w0.heap.size w0 wr
theorem StI.start {w0 w w' : World} {rules : List S145} {bud : Int} {most : Nat} {e : Ending} (h : NewE rules bud (most : Int) w e w') (hb : Below w0.heap.size w0 w) :
  ∃ p mb u cb rb A c,e=.returned (.tuple #[.pointer (some ⟨p,0,none⟩),.int .i64 0])∧StI w0 p cb rb u mb A c rules bud ⟨[],0,0⟩ most [] 0 0 w':=by
 obtain ⟨p,mb,ub,cb,tb,rb,rv,rfl,hN,hb2,g1,g2,g3,g4,g5⟩:=h
 obtain ⟨A,c,hS⟩:=SvM.start hN
 have q:=hb.size
 refine ⟨p,mb,_,cb,rb,A,c,rfl,_,_,hS,hN.conns,?_,?_,by omega,hb.trans (hb2.mono q)⟩
 ·rintro k (rfl | rfl)
  ·exact ⟨by omega,hN.conns.pnm hN.cache⟩
  ·exact ⟨by omega,hN.conns.pnm hN.table⟩
 ·rintro k rfl
  exact ⟨by omega,hN.conns.pnm hN.ring_⟩
theorem StI.tchF {w0 w w1 : World} {p cb rb : Nat} {u : Value} {mb : Nat} {A : Option Addr} {c : Nat} {rules : List S145} {bud : Int} {s : CS} {most : Nat} {notes : List Nt} {total now : Int} (h : StI w0 p cb rb u mb A c rules bud s most notes total now w) (t : Tch (fun _=>False) w w1) : StI w0 p cb rb u mb A c rules bud s most notes total now w1:=by
 obtain ⟨Oc,Og,h1,h2,h3,h4,h5,h6⟩:=h
 exact ⟨Oc,Og,h1.tchF t,h2.tch t (fun h=>h) (fun _ _ h=>h),h3,h4,h5,t.below h6 h6.size (fun _ h=>h.elim)⟩
theorem StI.below {w0 w : World} {p cb rb : Nat} {u : Value} {mb : Nat} {A : Option Addr} {c : Nat} {rules : List S145} {bud : Int} {s : CS} {most : Nat} {notes : List Nt} {total now : Int} (h : StI w0 p cb rb u mb A c rules bud s most notes total now w) : Below w0.heap.size w0 w:=by
 obtain ⟨Oc,Og,h1,h2,h3,h4,h5,h6⟩:=h
 exact h6
theorem StI.now {w0 w : World} {p cb rb : Nat} {u : Value} {mb : Nat} {A : Option Addr} {c : Nat} {rules : List S145} {bud : Int} {s : CS} {most : Nat} {notes : List Nt} {total now : Int} (h : StI w0 p cb rb u mb A c rules bud s most notes total now w) (h0 : 0 ≤ now) (h1 : now ≤ 1000000000000) : Calls Tryz.prog 24 #[.pointer (some ⟨p,0,none⟩)] w fun e w'=>e=.returned (.int .i64 now)∧w'=w:=by
 obtain ⟨Oc,Og,h1',h2,h3,h4,h5,h6⟩:=h
 exact now_cell p now w (h1'.port.cell 5 rfl) h0 (by omega)
theorem StI.tick {w0 w : World} {p cb rb : Nat} {u : Value} {mb : Nat} {A : Option Addr} {c : Nat} {rules : List S145} {bud : Int} {s : CS} {most : Nat} {notes : List Nt} {total now : Int} (h : StI w0 p cb rb u mb A c rules bud s most notes total now w) (h0 : 0 ≤ now) (h1 : now ≤ 1000000000) :
  Calls Tryz.prog 23 #[.pointer (some ⟨p,0,none⟩)] w fun e w'=>e=.returned (.slice none 0 0)∧StI w0 p cb rb u mb A c rules bud s most notes total (now + 1) w':=by
 obtain ⟨Oc,Og,hS,hC,h3,h4,h5,h6⟩:=h
 refine (tick_none p mb u _ _ _ 0 now w hS.port hC h0 h1).mono ?_
 rintro e w' ⟨rfl,hp,hC',t⟩
 exact ⟨rfl,Oc,Og,hS.tick t hp,hC',h3,h4,h5,t.below h6 h6.size (fun k hk=>hk ▸ h5)⟩
def PlE (w0 : World) (p cb rb : Nat) (u : Value) (mb : Nat) (A : Option Addr) (c : Nat) (rules : List S145) (bud : Int) (r : RpC × CS) (most : Nat) (notes' : List Nt) (total' now : Int) (e : Ending) (w' : World) : Prop:=
 ∃ A' c' b,e=.returned (repA (toldF r.1).e (toldF r.1).v (toldF r.1).n (toldF r.1).ver (.slice A' (toldF r.1).ks.length c'))∧StrIs w' (.slice A' (toldF r.1).ks.length c') (toldF r.1).ks b∧(∀ g,b=some g→w0.heap.size ≤ g)∧StI w0 p cb rb u mb A c rules bud r.2 most notes' total' now w'
theorem StI.plain {w0 w : World} {p cb rb : Nat} {u : Value} {mb : Nat} {A : Option Addr} {c : Nat} {rules : List S145} {bud : Int} {s : CS} {most : Nat} {notes : List Nt} {total now : Int} (user : ByteArray) (x : Cm) (cl : Int) (al : Bool) (r2 : Int)
  (h : StI w0 p cb rb u mb A c rules bud s most notes total now w) (hf : Fit bud s x now) (hLd : x.op=7→LaidN w0) (hm0 : 1 ≤ most) (hm1 : most ≤ 50) (hln : notes.length ≤ most) (ht0 : 0 ≤ total) (ht1 : total ≤ 1000000000)
  (hcl : Pb.command_Class.f 60 x.op=some cl) (hdec : Pa.acl_Decide.f 60 rules user cl x.k=some (al,r2)) :
  Calls Tryz.prog 11 #[.pointer (some ⟨p,0,none⟩),.string user,x.val] w (PlE w0 p cb rb u mb A c rules bud (portF bud s x now al) most (addL most notes ⟨user,x.op,x.k,al⟩) (total + 1) now):=by
 obtain ⟨Oc,Og,hS,hC,h3,h4,h5,h6⟩:=h
 have hml:=hC.mlt
 refine (plain_gen p cb rb u mb 0 A c rules bud s most notes total now Oc Og user x cl al r2 w hS hf (fun h7 W tW=>(hLd h7).below rfl (tW.below h6 h6.size (fun k hk=>hk.elim (fun h=>(h3 k h).1) (fun h=>(h4 k h).1)))) hm0 hm1 hln ht0 ht1 hcl hdec).mono ?_
 rintro e w' ⟨v,rfl,b,O1,O2,hs,hM,hb,t,hO1,hO2⟩
 obtain ⟨A',c',rfl⟩:=hs.formL
 have hz:=h6.size
 refine ⟨A',c',b,rfl,hs,fun g hg=>by have:=(hb g hg).1;omega,O1,O2,hM,hC.tch t (fun h=>h.elim (fun h=>(h3 _ h).2 rfl) (fun h=>(h4 _ h).2 rfl)) (fun b hb=>by cases hb),?_,?_,h5,t.below h6 h6.size (fun k hk=>hk.elim (fun h=>(h3 k h).1) (fun h=>(h4 k h).1))⟩
 ·intro k hk
  rcases hO1 k hk with h | h
  ·exact h3 k h
  ·exact ⟨by omega,by omega⟩
 ·intro k hk
  rcases hO2 k hk with h | h
  ·exact h4 k h
  ·exact ⟨by omega,by omega⟩
end Go.Proofs.YtkekohmkaefdnaaGreatDoor
namespace Go.Proofs.YtkekohmkaefdnaaGreatDoor
open Go.RowKit Go.Maps Go.Shelf Go.Proofs.YtkekohmkaefdnaaGreatDoorW.PrintWords Go.Proofs.YtkekohmkaefdnaaGreatDoorW.PrintLast Go.Proofs.YtkekohmkaefdnaaGreatDoor.Pa
attribute [local go_sem ↓] Go.wp_at_zero Go.wp_at_succ
abbrev rulesTwo : List S145:=[ruleDeny,ruleBob,ruleAnn]
def setC (n : Int) : Cm:=⟨2,⟨#[107]⟩,⟨#[118]⟩,n,0⟩
def getC : Cm:=⟨1,⟨#[107]⟩,⟨#[]⟩,0,0⟩
def ttlC : Cm:=⟨10,⟨#[107]⟩,⟨#[]⟩,0,0⟩
def itK (n : Int) : It:=⟨⟨#[107]⟩,⟨#[118]⟩,1,n⟩
theorem dec_aw : Pa.acl_Decide.f 60 rulesTwo annB 2 ⟨#[107]⟩=some (true,2):=by decide +kernel
theorem dec_ar : Pa.acl_Decide.f 60 rulesTwo annB 1 ⟨#[107]⟩=some (true,2):=by decide +kernel
theorem dec_br : Pa.acl_Decide.f 60 rulesTwo bobB 1 ⟨#[107]⟩=some (true,1):=by decide +kernel
theorem cls_2 : Pb.command_Class.f 60 2=some 2:=by decide +kernel
theorem cls_1 : Pb.command_Class.f 60 1=some 1:=by decide +kernel
theorem cls_10 : Pb.command_Class.f 60 10=some 1:=by decide +kernel
theorem right_n : ∀ m : Nat,m < 31→Pb.command_Right.f 60 2 ⟨#[107]⟩ ⟨#[118]⟩ (m : Int) 0=some true:=by decide +kernel
theorem right_g : Pb.command_Right.f 60 1 ⟨#[107]⟩ ⟨#[]⟩ 0 0=some true:=by decide +kernel
theorem right_t : Pb.command_Right.f 60 10 ⟨#[107]⟩ ⟨#[]⟩ 0 0=some true:=by decide +kernel
theorem short_k (n : Int) : Short [itK n]:=⟨by show 1 ≤ 90000;decide,fun x hx=>by obtain rfl:=List.mem_singleton.1 hx;exact ⟨by show 1 ≤ 10000;decide,by show 1 ≤ 10000;decide⟩⟩
theorem short_0 : Short []:=⟨by decide,fun x hx=>by cases hx⟩
theorem do_setK {n : Int} (hn : 1 ≤ n) : portF 5000 ⟨[],0,0⟩ (setC n) 0 true=({ ver:=1 },⟨[itK n],1,0⟩):=by
 have h1 : ¬ (setC n).n < 0:=by show ¬ n < 0;omega
 have hu : untilF n 0=n:=by unfold untilF;rw [if_neg (by omega)];omega
 have hw : writeF 5000 ⟨[],0,0⟩ ⟨⟨#[107]⟩,⟨#[118]⟩,0,untilF n 0⟩=({ ver:=1 },⟨[itK n],1,0⟩):=by
  rw [hu]
  unfold writeF
  rw [if_neg (by show ¬ (5000 : Int) < 16 + 1 + 1;decide)]
  show (({ ver:=1 } : RpC),(⟨(evict 5000 [itK n] 0).1,1,(evict 5000 [itK n] 0).2⟩ : CS))=_
  have he : evict 5000 [itK n] 0=([itK n],0):=by
   unfold evict
   rw [if_neg (by show ¬ (5000 : Int) < (16 + 1 + 1) + 0;decide)]
  rw [he]
 show doF 5000 ⟨[],0,0⟩ (setC n) 0=_
 unfold doF
 show doS 5000 ⟨[],0,0⟩ (setC n) 0=_
 unfold doS
 rw [if_pos (show (setC n).op=2 ∨ (setC n).op=3 ∨ (setC n).op=4 ∨ (setC n).op=6 from .inl rfl)]
 unfold setF
 rw [if_neg h1,if_neg (by show ¬ ((2 : Int)=3∧_);simp),if_neg (by show ¬ (((2 : Int)=4 ∨ (2 : Int)=6)∧_);simp),if_neg (by show ¬ ((2 : Int)=6∧_);simp)]
 exact hw
theorem sweep_in {n T : Int} (h : ¬ n < T) : sweepL T [itK n]=[itK n]:=by
 have ho : overI T (itK n)=false:=by
  unfold overI
  show (decide (0 < n) && decide (n < T))=false
  rw [decide_eq_false h,Bool.and_false]
 unfold sweepL
 rw [List.filter_cons,ho]
 rfl
theorem sweep_out {n T : Int} (hn : 1 ≤ n) (h : n < T) : sweepL T [itK n]=[]:=by
 have ho : overI T (itK n)=true:=by
  unfold overI
  show (decide (0 < n) && decide (n < T))=true
  rw [decide_eq_true h,decide_eq_true (by omega)]
  rfl
 unfold sweepL
 rw [List.filter_cons,ho]
 rfl
theorem find_K (n : Int) : findK [itK n] ⟨#[107]⟩=some (itK n):=by
 unfold findK
 rw [List.find?_cons_of_pos]
 exact beq_self_eq_true _
theorem cut_K (n : Int) : cutL [itK n] ⟨#[107]⟩=[]:=by
 unfold cutL
 rw [List.filter_cons_of_neg]
 ·rfl
 ·show ¬ (!((⟨#[107]⟩ : ByteArray).toList == (⟨#[107]⟩ : ByteArray).toList))=true
  rw [beq_self_eq_true]
  decide
theorem put_K (n : Int) : putL [itK n] (itK n)=[itK n]:=by
 show cutL [itK n] ⟨#[107]⟩ ++ [itK n]=_
 rw [cut_K]
 rfl
theorem itemS {s : CS} {c : Cm} {T : Int} (h : c.op=1 ∨ c.op=10) : doS 5000 s c T=itemF 5000 s c T:=by
 unfold doS
 rw [if_neg (by omega),if_neg (by omega),if_neg (by omega),if_neg (by omega)]
theorem do_getK {n T : Int} (h : ¬ n < T) : portF 5000 ⟨[itK n],1,0⟩ getC T true=({ v:=⟨#[118]⟩,ver:=1 },⟨[itK n],1,0⟩):=by
 show doF 5000 ⟨[itK n],1,0⟩ getC T=_
 unfold doF
 show doS 5000 ⟨sweepL T [itK n],1,0⟩ getC T=_
 rw [sweep_in h,itemS (.inl rfl)]
 unfold itemF
 rw [if_neg (by show ¬ ((1 : Int)=9∧_);simp)]
 show (match findK [itK n] ⟨#[107]⟩ with | none=>_ | some was=>itemIs 5000 ⟨[itK n],1,0⟩ getC T was)=_
 rw [find_K]
 show itemIs 5000 ⟨[itK n],1,0⟩ getC T (itK n)=_
 unfold itemIs
 rw [if_pos (show getC.op=1 from rfl),put_K]
 rfl
theorem do_getO {n T : Int} (hn : 1 ≤ n) (h : n < T) : portF 5000 ⟨[itK n],1,0⟩ getC T true=({ e:=9 },⟨[],1,0⟩):=by
 show doF 5000 ⟨[itK n],1,0⟩ getC T=_
 unfold doF
 show doS 5000 ⟨sweepL T [itK n],1,0⟩ getC T=_
 rw [sweep_out hn h]
 rfl
theorem do_ttlK {n T : Int} (hn : 1 ≤ n) (h : ¬ n < T) : portF 5000 ⟨[itK n],1,0⟩ ttlC T true=({ n:=n - T },⟨[itK n],1,0⟩):=by
 show doF 5000 ⟨[itK n],1,0⟩ ttlC T=_
 unfold doF
 show doS 5000 ⟨sweepL T [itK n],1,0⟩ ttlC T=_
 rw [sweep_in h,itemS (.inr rfl)]
 unfold itemF
 rw [if_neg (by show ¬ ((10 : Int)=9∧_);simp)]
 show (match findK [itK n] ⟨#[107]⟩ with | none=>_ | some was=>itemIs 5000 ⟨[itK n],1,0⟩ ttlC T was)=_
 rw [find_K]
 show itemIs 5000 ⟨[itK n],1,0⟩ ttlC T (itK n)=_
 unfold itemIs
 rw [if_neg (by show ¬ (10 : Int)=1;decide),if_pos (show ttlC.op=10 from rfl),if_neg (show ¬ (itK n).unt=0 by show ¬ n=0;omega)]
 rfl
theorem do_ttlO {T : Int} : portF 5000 ⟨[],1,0⟩ ttlC T true=({ e:=9 },⟨[],1,0⟩):=rfl
theorem fit_K {m : Nat} {j : Int} {c : Cm} (h1 : (m : Int) ≤ 30) (h2 : 0 ≤ j) (h3 : j ≤ 100) (hc : c=getC ∨ c=ttlC) : Fit 5000 ⟨[itK m],1,0⟩ c j:=by
 rcases hc with rfl | rfl
 ·exact { sh:=short_k m,len:=(by show 1 < 90000;decide),unt:=(fun x hx=>by obtain rfl:=List.mem_singleton.1 hx;show 0 ≤ (m : Int)∧(m : Int) ≤ _;omega),b0:=(by decide),v0:=(by show (0 : Int) ≤ 1;decide),v1:=(by show (1 : Int) ≤ 1000000000;decide),g0:=(by show (0 : Int) ≤ 0;decide),g1:=(by show (0 : Int) ≤ 1000000000;decide),n0:=h2,n1:=(by omega),c1:=(by decide),c2:=(by decide),k1:=(by show 1 ≤ 10000;decide),k2:=(by show 0 ≤ 10000;decide),op:=⟨by decide,by decide⟩,right:=right_g }
 ·exact { sh:=short_k m,len:=(by show 1 < 90000;decide),unt:=(fun x hx=>by obtain rfl:=List.mem_singleton.1 hx;show 0 ≤ (m : Int)∧(m : Int) ≤ _;omega),b0:=(by decide),v0:=(by show (0 : Int) ≤ 1;decide),v1:=(by show (1 : Int) ≤ 1000000000;decide),g0:=(by show (0 : Int) ≤ 0;decide),g1:=(by show (0 : Int) ≤ 1000000000;decide),n0:=h2,n1:=(by omega),c1:=(by decide),c2:=(by decide),k1:=(by show 1 ≤ 10000;decide),k2:=(by show 0 ≤ 10000;decide),op:=⟨by decide,by decide⟩,right:=right_t }
theorem fit_0 {j : Int} (h2 : 0 ≤ j) (h3 : j ≤ 100) : Fit 5000 ⟨[],1,0⟩ ttlC j:=
 { sh:=short_0,len:=(by decide),unt:=(fun x hx=>by cases hx),b0:=(by decide),v0:=(by decide),v1:=(by decide),g0:=(by decide),g1:=(by decide),n0:=h2,n1:=(by omega),c1:=(by decide),c2:=(by decide),k1:=(by show 1 ≤ 10000;decide),k2:=(by show 0 ≤ 10000;decide),op:=⟨by decide,by decide⟩,right:=right_t }
theorem told_9 : toldF ({ e:=9 } : RpC)={ e:=9 }:=toldF_small (by decide) (by decide) (by decide) (by decide) rfl
theorem told_g : toldF ({ v:=⟨#[118]⟩,ver:=1 } : RpC)={ v:=⟨#[118]⟩,ver:=1 }:=toldF_small (by decide) (by show 1 ≤ 500;decide) (by decide) (by decide) rfl
theorem told_t {n : Int} (h1 : 0 ≤ n) (h2 : n ≤ 100) : toldF ({ n:=n } : RpC)={ n:=n }:=toldF_small (show (0 : Int) ≤ 0∧(0 : Int) ≤ 15 by decide) (show 0 ≤ 500 by decide) (show _ ≤ n∧n ≤ _ by omega) (show (0 : Int) ≤ 0∧(0 : Int) ≤ 1000000000000 by decide) rfl
theorem clock_rest (n T : Int) (w : World) (hL : Laid w) (h1 : 1 ≤ n) (h2 : n ≤ 30) (h3 : 0 ≤ T) (h4 : T ≤ 40)
  (halive : ∀ W,Laid W→Calls Tryz.prog 7 #[] W fun e w'=>e=.returned (.bool true)∧Below W.heap.size W w') :
  Calls Tryz.prog 5 #[.int .i64 n,.int .i64 T] w fun e w'=>e=.returned (.bool true)∧Below w.heap.size w w':=by
 have ha:=halive w hL
 have HL:=Lib.hid hL
 clear halive hL
 go_enter Tryz.func5,Tryz.ntmps5
 go_wp2_with fail
 refine ha.mono ?_
 rintro e W1 ⟨rfl,hb1⟩
 have HB1:=Lib.hid hb1
 have z1:=hb1.size
 clear ha hb1
 go_wp2_with fail
 refine (two_any _).mono ?_
 rintro e W2 ⟨lb,rfl,hlb,hb2⟩
 have hpn:=port_new usersTwo lb 2 80 textTwo [ruleDeny,ruleBob,ruleAnn] 0 5000 20 W2 hlb usersTwo_ok parse_two ((HL.out.below rfl HB1.out).below rfl hb2) (by omega) (by omega) (by omega) (by omega)
 have HB2:=Lib.hid hb2
 have z2:=hb2.size
 clear hb2 hlb
 change Calls _ _ #[.agg #[.slice (some ⟨lb,0,none⟩) 2 2,_,_,_]] _ _ at hpn
 go_wp2_with fail
 refine hpn.mono ?_
 intro e W3 hN
 obtain ⟨p,mb,u,cb,rb,A,c,rfl,hS⟩:=StI.start (w0:=w) (most:=20) hN (HB1.out.trans (HB2.out.mono z1))
 obtain ⟨m,rfl⟩:=Int.eq_ofNat_of_zero_le (show 0 ≤ n by omega)
 have hp1:=hS.plain annB (setC m) 2 true 2 { sh:=short_0,len:=by decide,unt:=(fun x hx=>by cases hx),b0:=by decide,v0:=by decide,v1:=by decide,g0:=by decide,g1:=by decide,n0:=by decide,n1:=by decide,c1:=(by show (m : Int) ≤ _;omega),c2:=(by show _ ≤ (m : Int);omega),k1:=(by show 1 ≤ 10000;decide),k2:=(by show 1 ≤ 10000;decide),op:=⟨by show (1 : Int) ≤ 2;decide,by show (2 : Int) ≤ 13;decide⟩,right:=right_n m (by omega) } (fun h=>by cases h) (by decide) (by decide) (by decide) (by decide) (by decide) cls_2 dec_aw
 rw [do_setK h1] at hp1
 clear hpn hN hS
 dsimp only
 go_wp2_with fail
 refine hp1.mono ?_
 rintro e W4 ⟨A4,c4,b4,rfl,-,-,hS4⟩
 have ht1 : toldF ({ ver:=1 } : RpC)={ ver:=1 }:=toldF_small (by decide) (by decide) (by decide) (by decide) rfl
 rw [ht1]
 have hl1:=addL_len 20 [] ⟨annB,(setC m).op,(setC m).k,true⟩
 generalize addL 20 [] ⟨annB,(setC m).op,(setC m).k,true⟩=N1 at hS4 hl1
 have HS4:=Lib.hid hS4
 clear hS4 hp1 ht1
 dsimp only
 go_wp2
 go_loopg [7] T.toNat (fun gg s7 wr=>∃ j : Nat,s7=.int .i64 (j : Int)∧(j : Int) + (gg : Int)=T∧StI w p cb rb u mb A c rulesTwo 5000 ⟨[itK m],1,0⟩ 20 N1 (0 + 1) (j : Int) wr)
 case atStart=>exact ⟨0,rfl,by omega,HS4.out⟩
 case round=>
  obtain ⟨j,rfl,hj,hSj⟩:=hrel
  clear HS4
  rcases Nat.eq_zero_or_pos gk with hg0 | hg0
  ·obtain rfl : T=(j : Int):=by omega
   by_cases hov : (m : Int) < (j : Int)
   ·have HOV:=Lib.hid hov
    have hp2:=hSj.plain annB getC 1 true 2 (fit_K (by omega) (by omega) (by omega) (.inl rfl)) (fun h=>by cases h) (by decide) (by decide) hl1 (by decide) (by decide) cls_1 dec_ar
    rw [do_getO h1 HOV.out] at hp2
    have hl2:=addL_len 20 N1 ⟨annB,getC.op,getC.k,true⟩
    generalize addL 20 N1 ⟨annB,getC.op,getC.k,true⟩=N2 at hp2 hl2
    clear hSj
    go_wp2_with fail
    refine hp2.mono ?_
    rintro e W6 ⟨A6,c6,b6,rfl,-,-,hS6⟩
    dsimp only at hS6 ⊢
    rw [told_9]
    have hp3:=hS6.plain bobB ttlC 1 true 1 (fit_0 (by omega) (by omega)) (fun h=>by cases h) (by decide) (by decide) hl2 (by decide) (by decide) cls_10 dec_br
    rw [do_ttlO] at hp3
    generalize addL 20 N2 ⟨bobB,ttlC.op,ttlC.k,true⟩=N3 at hp3
    clear hS6 hp2
    dsimp only
    go_wp2_with fail
    refine hp3.mono ?_
    rintro e W7 ⟨A7,c7,b7,rfl,-,-,hS7⟩
    dsimp only at hS7 ⊢
    rw [told_9]
    have hnow:=fun W (t : Tch (fun _=>False) W7 W)=>(hS7.tchF t).now (by omega) (by omega)
    have HB7:=Lib.hid hS7.below
    clear hS7 hp3
    dsimp only
    go_wp2_with (go_at_call 24;refine (hnow _ (((Tch.refl (fun _=>False) W7).talloc).talloc)).mono ?_;rintro e W8 ⟨rfl,rfl⟩)
    go_ret
    exact ⟨rfl,(HB7.out.alloc HB7.out.size _).alloc (by simp;have:=HB7.out.size;omega) _⟩
   ·have HOV:=Lib.hid hov
    have hp2:=hSj.plain annB getC 1 true 2 (fit_K (by omega) (by omega) (by omega) (.inl rfl)) (fun h=>by cases h) (by decide) (by decide) hl1 (by decide) (by decide) cls_1 dec_ar
    rw [do_getK (n:=(m : Int)) (T:=(j : Int)) (by have:=HOV.out;omega)] at hp2
    have hl2:=addL_len 20 N1 ⟨annB,getC.op,getC.k,true⟩
    generalize addL 20 N1 ⟨annB,getC.op,getC.k,true⟩=N2 at hp2 hl2
    clear hSj
    go_wp2_with fail
    refine hp2.mono ?_
    rintro e W6 ⟨A6,c6,b6,rfl,-,-,hS6⟩
    dsimp only at hS6 ⊢
    rw [told_g]
    have hp3:=hS6.plain bobB ttlC 1 true 1 (fit_K (by omega) (by omega) (by omega) (.inr rfl)) (fun h=>by cases h) (by decide) (by decide) hl2 (by decide) (by decide) cls_10 dec_br
    rw [do_ttlK (n:=(m : Int)) (T:=(j : Int)) h1 (by have:=HOV.out;omega)] at hp3
    generalize addL 20 N2 ⟨bobB,ttlC.op,ttlC.k,true⟩=N3 at hp3
    clear hS6 hp2
    dsimp only
    go_wp2_with fail
    refine hp3.mono ?_
    rintro e W7 ⟨A7,c7,b7,rfl,-,-,hS7⟩
    dsimp only at hS7 ⊢
    rw [told_t (by omega) (by omega)]
    have hnow:=fun W (t : Tch (fun _=>False) W7 W)=>(hS7.tchF t).now (by omega) (by omega)
    have HB7:=Lib.hid hS7.below
    clear hS7 hp3
    dsimp only
    go_wp2_with (go_at_call 24;refine (hnow _ (((Tch.refl (fun _=>False) W7).talloc).talloc)).mono ?_;rintro e W8 ⟨rfl,rfl⟩)
    go_ret
    exact ⟨rfl,(HB7.out.alloc HB7.out.size _).alloc (by simp;have:=HB7.out.size;omega) _⟩
  ·have hlt : (j : Int) < T:=by omega
   have htk:=hSj.tick (by omega) (by omega)
   clear hSj
   go_wp2_with fail
   refine htk.mono ?_
   rintro e W5 ⟨rfl,hS5⟩
   have HS5:=Lib.hid hS5
   clear hS5 htk
   go_wp2
   go_roundg (gk - 1)
   case measure=>omega
   case rel=>exact ⟨j + 1,by go_num,by omega,HS5.out⟩
end Go.Proofs.YtkekohmkaefdnaaGreatDoor
namespace Go.Proofs.YtkekohmkaefdnaaGreatDoor
open Go.RowKit Go.Maps Go.Shelf
theorem clock_any (n T : Int) (w : World) (hL : Laid w) (b0 : -9223372036854775808 ≤ n∧n ≤ 9223372036854775807) (b1 : -9223372036854775808 ≤ T∧T ≤ 9223372036854775807) :
  Calls Tryz.prog 5 #[.int .i64 n,.int .i64 T] w fun e w'=>e=.returned (.bool true)∧Below w.heap.size w w':=by
 by_cases hin : 1 ≤ n∧n ≤ 30∧0 ≤ T∧T ≤ 40
 ·exact clock_rest n T w hL hin.1 hin.2.1 hin.2.2.1 hin.2.2.2 alive_any
 ·have ha:=alive_any w hL
  clear hL b0 b1
  by_cases h0 : n < 1
  ·clear hin
   go_enter Tryz.func5,Tryz.ntmps5
   go_wp2_with (go_at_call 7;refine ha.mono ?_;rintro e w1 ⟨rfl,hb⟩)
   go_ret
   exact ⟨rfl,hb⟩
  have h0' : 1 ≤ n:=by omega
  by_cases h1 : 30 < n
  ·clear hin
   go_enter Tryz.func5,Tryz.ntmps5
   go_wp2_with (go_at_call 7;refine ha.mono ?_;rintro e w1 ⟨rfl,hb⟩)
   go_ret
   exact ⟨rfl,hb⟩
  have h1' : n ≤ 30:=by omega
  by_cases h2 : T < 0
  ·clear hin
   go_enter Tryz.func5,Tryz.ntmps5
   go_wp2_with (go_at_call 7;refine ha.mono ?_;rintro e w1 ⟨rfl,hb⟩)
   go_ret
   exact ⟨rfl,hb⟩
  have h2' : 0 ≤ T:=by omega
  have h3 : 40 < T:=by omega
  clear hin
  go_enter Tryz.func5,Tryz.ntmps5
  go_wp2_with (go_at_call 7;refine ha.mono ?_;rintro e w1 ⟨rfl,hb⟩)
  go_ret
  exact ⟨rfl,hb⟩
end Go.Proofs.YtkekohmkaefdnaaGreatDoor
namespace Go.Proofs.YtkekohmkaefdnaaGreatDoor.portClock
open Go.ChangeShapes Go.WideShapes Go.ChangeAt Go.RowKit
noncomputable abbrev P : Program:=Tryz.pinned.checked.prog
noncomputable abbrev f : FuncId:=5
noncomputable abbrev fn : Func:=Tryz.f5
noncomputable abbrev s : ChangeSpec:=Rows.portClockSpec
noncomputable abbrev c : OpenClaim:=Rows.portClockRow
theorem j0 : c.wf (OpenSpec.ofChange s)=true:=by kernel_rfl
theorem j1 : laidOutB P=true:=by kernel_rfl
theorem j2 : mapsRowed P=true:=by kernel_rfl
theorem j3 : fn.params.all (P.readableRec ·)=true:=by kernel_rfl
theorem j4 : namedTie P c.named s.vars=true:=by kernel_rfl
theorem j5 : (c.stops == [])=true:=by kernel_rfl
theorem j6 : (P.stops == [])=true:=by kernel_rfl
theorem j7 : (c.knobs == [])=true:=by kernel_rfl
theorem j8 : (P.stopKnobs == [])=true:=by kernel_rfl
theorem j9 : (c.inPlace == P.inPlace f)=true:=by kernel_rfl
theorem j10 : (c.unfollowed == P.unfollowed f)=true:=by kernel_rfl
theorem j11 : (c.recurses == P.recurses f)=true:=by kernel_rfl
theorem j12 : (c.named == P.varsNamed f)=true:=by kernel_rfl
theorem j13 : (c.maps == (fn.params.toList ++ s.plain.varTypes P).any (P.mapsRec ·))=true:=by kernel_rfl
theorem j14 : (c.ifaces == (fn.params.toList ++ s.plain.varTypes P).any (P.ifacesRec ·))=true:=by kernel_rfl
theorem j15 : (c.mapsOut == P.mapsAmong fn.resultTypes.toList)=true:=by kernel_rfl
theorem j16 : (c.loops == (fn.params.toList ++ s.plain.varTypes P).any (P.loopsFrom ·))=true:=by kernel_rfl
theorem j17 : (c.wideKeys == (fn.params.toList ++ s.plain.varTypes P ++ fn.resultTypes.toList).any (P.wideKeysFrom ·))=true:=by kernel_rfl
theorem j18 : s.vars.all (P.varReadable ·)=true:=by kernel_rfl
theorem j19 : fn.resultTypes.all (fun t=>P.readableRec t && decide (t < P.types.size))=true:=by kernel_rfl
theorem j20 : (c.ifacesOut == fn.resultTypes.toList.any (P.ifacesRec ·))=true:=by kernel_rfl
theorem j21 : (c.loopsOut == fn.resultTypes.toList.any (P.loopsFrom ·))=true:=by kernel_rfl
theorem j22 : (c.plainKeys == P.plainKeys)=true:=by kernel_rfl
theorem j23 : c.shortTexts.isNone=true:=by kernel_rfl
theorem j24 : P.stopsHeard=true:=by kernel_rfl
theorem j25 : P.mayEnter=true:=by kernel_rfl
theorem j26 : (c.lifted == P.liftsFinal)=true:=by kernel_rfl
theorem j27 : (P.make == some c.make)=true:=by kernel_rfl
theorem j28 : (c.kinds == (if c.domain.isEmpty then [] else fn.params.toList.map fun t=>match P.underlying t with | some (.int k)=>some k | _=>none))=true:=by kernel_rfl
theorem j29 : (c.pinned == c.pinnedBy)=true:=by kernel_rfl
theorem j30 : (c.veiled == (fn.params.toList ++ s.plain.varTypes P ++ fn.resultTypes.toList).any (P.veiledRec ·))=true:=by kernel_rfl
theorem j31 : c.veiledFits P fn.params.toList (fn.params.toList ++ s.plain.varTypes P ++ fn.resultTypes.toList)=true:=by kernel_rfl
theorem band {a b : Bool} (ha : a=true) (hb : b=true) : (a && b)=true:=by rw [ha,hb];rfl
theorem joined : joinedFacts P f fn s c=true:=(band (band (band (band (band (band (band (band (band (band (band (band (band (band (band (band (band (band (band (band (band (band (band (band (band (band (band (band (band (band (band j0 j1) j2) j3) j4) j5) j6) j7) j8) j9) j10) j11) j12) j13) j14) j15) j16) j17) j18) j19) j20) j21) j22) j23) j24) j25) j26) j27) j28) j29) j30) j31)
theorem named_ : P.funcNamed c.func=some f:=by kernel_rfl
theorem instd : fn.isInstance P c.origin c.targs:=of_decide_eq_true (by kernel_rfl)
theorem wrapd : fn.isWrapper P c.wrapper c.mainSum:=by
 unfold Func.isWrapper
 rw [if_neg (of_decide_eq_false (by kernel_rfl))]
 exact ⟨rfl,rfl⟩
theorem wfText : c.wfByText (OpenSpec.ofChange s)=true:=by kernel_rfl
theorem mainIs_ : P.mainIs=some (true,("91446a9876f0cb0cf386a488eb498e0754d7d4215b5a921aadb6ea9a873e3c82" : String).toList):=by kernel_rfl
theorem goes_ : false=c.goesBy P:=by kernel_rfl
theorem looks_ : true=P.looks []:=by kernel_rfl
end Go.Proofs.YtkekohmkaefdnaaGreatDoor.portClock
