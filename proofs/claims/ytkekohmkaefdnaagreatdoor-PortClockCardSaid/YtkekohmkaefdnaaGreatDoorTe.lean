import Derived.Test.YtkekohmkaefdnaaGreatDoorBh
import Derived.Test.YtkekohmkaefdnaaGreatDoorNu
import Derived.Lib.ItoaLen
import Derived.Test.YtkekohmkaefdnaaGreatDoorTd
set_option linter.unusedSimpArgs false
set_option linter.unusedVariables false
set_option maxHeartbeats 8000000
set_option maxRecDepth 100000
namespace Go.Proofs.YtkekohmkaefdnaaGreatDoor
open Go.RowKit Go.Maps Go.Shelf Go.Sort Go.Lib Go.Proofs.YtkekohmkaefdnaaGreatDoorW.PrintWords Go.Proofs.YtkekohmkaefdnaaGreatDoorW.PrintLast
attribute [local go_sem ↓] Go.wp_at_zero Go.wp_at_succ
def digitsB (v : Int) : ByteArray:=⟨(Lib.itoa v).toArray⟩
theorem digitsB_size {v : Int} (h : -9223372036854775808 ≤ v∧v ≤ 9223372036854775807) : (digitsB v).size ≤ 21:=by
 have e : (digitsB v).size=(Lib.itoa v).length:=by simp [digitsB,ByteArray.size]
 rw [e]
 exact Lib.itoa_length_le v h.1 h.2
theorem numF_range {s : ByteArray} {v : Int} (h : numF s=some v) : -1000000000000 ≤ v∧v ≤ 1000000000000:=by
 unfold numF at h
 split at h
 ·split at h
  ·rename_i h1
   obtain rfl:=Option.some.inj h
   exact h1.2
  ·cases h
 ·cases h
def incrF (bud : Int) (s : CS) (x : It) (n : Int) : RpC × CS:=
 match numF x.v with
 | none=>({ e:=12 },s)
 | some v=>
  if v + n < -1000000000000 ∨ 1000000000000 < v + n then ({ e:=12 },s)
  else if bud < costI { x with v:=digitsB (v + n) } then ({ e:=13 },s)
  else ({ (writeF bud s { x with v:=digitsB (v + n) }).1 with n:=v + n },(writeF bud s { x with v:=digitsB (v + n) }).2)
theorem incr_gen (cb : Nat) (bud : Int) (s : CS) (O : Nat→Prop) (x : It) (n : Int) (w : World) (hC : CaI w cb bud s.L s.ver s.gone O) (hLd : ∀ W,Tch O w W→LaidN W) (hs : Short s.L) (hl : s.L.length < 90000) (hx : ShortI x) (hn0 : -1000000000000 ≤ n) (hn1 : n ≤ 1000000000000) (hb0 : 0 ≤ bud) (hv0 : 0 ≤ s.ver) (hv1 : s.ver ≤ 1000000000) (hg0 : 0 ≤ s.gone) (hg1 : s.gone ≤ 1000000000) :
  Calls Tryz.prog 153 #[.pointer (some ⟨cb,0,none⟩),x.val,.int .i64 n] w fun e w'=>e=.returned (repA (incrF bud s x n).1.e ⟨#[]⟩ (incrF bud s x n).1.n (incrF bud s x n).1.ver (.slice none 0 0))∧CaI w' cb bud (incrF bud s x n).2.L (incrF bud s x n).2.ver (incrF bud s x n).2.gone (Own O w w')∧Tch O w w':=by
 have hLT:=hC.lt
 have hxv:=hx.2
 obtain ⟨W0,hW0,ta,ca,cr,hsz⟩:=two_blocks w #[.string x.k,.string x.v,.int .i64 x.ver,.int .i64 x.unt] TItem #[.int .i64 0,.string ⟨#[]⟩,.int .i64 0,.int .i64 0,.slice none 0 0] TReply
 have uA:=ca.facts4
 have uR:=cr.facts5
 have hnum:=number_any x.v W0 (hLd W0 (ta.mono (fun _ _ h=>h.elim))) (by omega)
 have HLd:=Lib.hid hLd
 have CA:=Lib.hid ca
 have CR:=Lib.hid cr
 have TA:=Lib.hid ta
 have HC:=Lib.hid hC
 have HSZ:=Lib.hid hsz
 have hgl:=cr.lt
 clear hC ca cr ta hsz hLd
 cases hnf : numF x.v with
 | none=>
  have hF : incrF bud s x n=({ e:=12 },s):=by unfold incrF;rw [hnf]
  have HF:=Lib.hid hF
  rw [hnf] at hnum
  have HN:=Lib.hid hnf
  clear hF hnf
  go_enter Tryz.func153,Tryz.ntmps153
  go_wp2_with fail
  try rw [hW0]
  refine hnum.mono ?_
  rintro e w1 ⟨rfl,hb1⟩
  generalize hga : w.heap.size=ga at *
  have t1:=TA.out.tbelow hb1
  have r1:=CR.out.abelow hb1
  have u1:=r1.facts5
  obtain ⟨W9,hW9,a9,c9,t9⟩:=done5 (CaX.start HC.out t1) (t1.mono (S':=O) (fun _ _ h=>h.elim)) r1 (show w.heap.size ≤ ga + 1 by omega) (by rw [hga];exact hLT) (by rw [hga];omega) (.int .i64 12) (.string ⟨#[]⟩) (.int .i64 0) (.int .i64 0) (.slice none 0 0)
  have C9:=Lib.hid c9
  have T9:=Lib.hid t9
  have u9:=a9.facts5
  have HGA:=Lib.hid hga
  clear c9 t9 uA uR hnum hW0 hga t1 r1
  go_wp2
  refine bodyPost_ret (v:=repA 12 ⟨#[]⟩ 0 0 (.slice none 0 0)) (by simp [results,Tryz.results153,go_sem,u9]) rfl ?_
  rw [HF.out]
  exact ⟨rfl,C9.out,T9.out⟩
 | some v=>
  have hvr:=numF_range hnf
  rw [hnf] at hnum
  have hw1 : wrap64 (v + n)=v + n:=by unfold wrap64;omega
  have HW1:=Lib.hid hw1
  clear hw1
  by_cases hlo : v + n < -1000000000000
  ·have hF : incrF bud s x n=({ e:=12 },s):=by unfold incrF;rw [hnf];exact if_pos (.inl hlo)
   have HF:=Lib.hid hF
   have HN:=Lib.hid hnf
   clear hF hnf
   go_enter Tryz.func153,Tryz.ntmps153
   go_wp2_with fail
   try rw [hW0]
   refine hnum.mono ?_
   rintro e w1 ⟨rfl,hb1⟩
   generalize hga : w.heap.size=ga at *
   have t1:=TA.out.tbelow hb1
   have r1:=CR.out.abelow hb1
   have u1:=r1.facts5
   obtain ⟨W9,hW9,a9,c9,t9⟩:=done5 (CaX.start HC.out t1) (t1.mono (S':=O) (fun _ _ h=>h.elim)) r1 (show w.heap.size ≤ ga + 1 by omega) (by rw [hga];exact hLT) (by rw [hga];omega) (.int .i64 12) (.string ⟨#[]⟩) (.int .i64 0) (.int .i64 0) (.slice none 0 0)
   have C9:=Lib.hid c9
   have T9:=Lib.hid t9
   have u9:=a9.facts5
   have HGA:=Lib.hid hga
   clear c9 t9 uA uR hnum hW0 hga t1 r1
   go_wp2
   refine bodyPost_ret (v:=repA 12 ⟨#[]⟩ 0 0 (.slice none 0 0)) (by simp [results,Tryz.results153,go_sem,u9]) rfl ?_
   rw [HF.out]
   exact ⟨rfl,C9.out,T9.out⟩
  by_cases hhi : 1000000000000 < v + n
  ·have hF : incrF bud s x n=({ e:=12 },s):=by unfold incrF;rw [hnf];exact if_pos (.inr hhi)
   have HF:=Lib.hid hF
   have HN:=Lib.hid hnf
   clear hF hnf
   go_enter Tryz.func153,Tryz.ntmps153
   go_wp2_with fail
   try rw [hW0]
   refine hnum.mono ?_
   rintro e w1 ⟨rfl,hb1⟩
   generalize hga : w.heap.size=ga at *
   have t1:=TA.out.tbelow hb1
   have r1:=CR.out.abelow hb1
   have u1:=r1.facts5
   obtain ⟨W9,hW9,a9,c9,t9⟩:=done5 (CaX.start HC.out t1) (t1.mono (S':=O) (fun _ _ h=>h.elim)) r1 (show w.heap.size ≤ ga + 1 by omega) (by rw [hga];exact hLT) (by rw [hga];omega) (.int .i64 12) (.string ⟨#[]⟩) (.int .i64 0) (.int .i64 0) (.slice none 0 0)
   have C9:=Lib.hid c9
   have T9:=Lib.hid t9
   have u9:=a9.facts5
   have HGA:=Lib.hid hga
   clear c9 t9 uA uR hnum hW0 hga t1 r1
   go_wp2
   refine bodyPost_ret (v:=repA 12 ⟨#[]⟩ 0 0 (.slice none 0 0)) (by simp [results,Tryz.results153,go_sem,u9]) rfl ?_
   rw [HF.out]
   exact ⟨rfl,C9.out,T9.out⟩
  have hlo' : -1000000000000 ≤ v + n:=by omega
  have hhi' : v + n ≤ 1000000000000:=by omega
  obtain ⟨ee,vv,nn,s',hwf,hF,hcase⟩ : ∃ (ee vv nn : Int) (s' : CS),writeF bud s { x with v:=digitsB (v + n) }=({ e:=ee,ver:=vv },s')∧incrF bud s x n=({ e:=ee,n:=nn,ver:=vv },s')∧(ee=13∧nn=0 ∨ ee=0∧nn=v + n):=by
   have hF : incrF bud s x n=if bud < costI { x with v:=digitsB (v + n) } then ({ e:=13 },s) else ({ (writeF bud s { x with v:=digitsB (v + n) }).1 with n:=v + n },(writeF bud s { x with v:=digitsB (v + n) }).2):=by
    unfold incrF;rw [hnf];exact if_neg (by omega)
   by_cases hbig : bud < costI { x with v:=digitsB (v + n) }
   ·refine ⟨13,0,0,s,by unfold writeF;rw [if_pos hbig],by rw [hF,if_pos hbig],.inl ⟨rfl,rfl⟩⟩
   ·refine ⟨0,s.ver + 1,v + n,(writeF bud s { x with v:=digitsB (v + n) }).2,by unfold writeF;rw [if_neg hbig],?_,.inr ⟨rfl,rfl⟩⟩
    rw [hF,if_neg hbig]
    unfold writeF
    rw [if_neg hbig]
  have HF:=Lib.hid hF
  have HC':=Lib.hid hcase
  clear hF hcase
  have hsh : ShortI { x with v:=digitsB (v + n) }:=⟨hx.1,by have:=digitsB_size (v:=v + n) (by omega);show (digitsB (v + n)).size ≤ 10000;omega⟩
  go_enter Tryz.func153,Tryz.ntmps153
  go_wp2_with fail
  try rw [hW0]
  refine hnum.mono ?_
  rintro e w1 ⟨rfl,hb1⟩
  generalize hga : w.heap.size=ga at *
  have t1:=TA.out.tbelow hb1
  have r1:=CR.out.abelow hb1
  have a1:=CA.out.abelow hb1
  have u1:=r1.facts5
  have v1:=a1.facts4
  have hito : Calls Tryz.prog 224 #[.int .i64 (v + n)] w1 fun e w'=>e=.returned (.string (digitsB (v + n)))∧Below w1.heap.size w1 w':=(Tryz.strconv_Itoa (v + n) (by omega) (by omega) w1 (HLd.out w1 (t1.mono (fun _ _ h=>h.elim))).1).mono (by
   rintro e w' ⟨rfl,k,os,rfl⟩
   exact ⟨rfl,below_grow w1.heap.size w1 (Nat.le_refl _) k os⟩)
  generalize hdg : digitsB (v + n)=dg at hito hsh hwf
  have HWF:=Lib.hid hwf
  clear hwf
  have R1:=Lib.hid r1
  have A1:=Lib.hid a1
  have T1:=Lib.hid t1
  have HGA:=Lib.hid hga
  have HDG:=Lib.hid hdg
  have HNF:=Lib.hid hnf
  clear r1 a1 t1 hga hdg hnf hnum hW0 uA uR hb1
  go_wp2_with fail
  refine hito.mono ?_
  rintro e w2 ⟨rfl,hb2⟩
  have t2:=T1.out.tbelow hb2
  have r2:=R1.out.abelow hb2
  have a2:=A1.out.abelow hb2
  have v2:=a2.facts4
  have u2:=r2.facts5
  have t3 : Tch (fun _=>False) w (w2.setCell ⟨ga,1,none⟩ (.string dg)):=t2.tset (fun h=>by have h' : ga < w.heap.size:=h;rw [HGA.out] at h';omega)
  have a3 : At (w2.setCell ⟨ga,1,none⟩ (.string dg)) ga ({ x with v:=dg } : It).cells TItem:=a2.set 1 (.string dg)
  have r3:=r2.other ⟨ga,1,none⟩ (.string dg) (by show ga + 1 ≠ ga;omega)
  have hwr:=write_all cb bud s O { x with v:=dg } (w2.setCell ⟨ga,1,none⟩ (.string dg)) (HC.out.tch t3 (fun _ _ h=>h)) hs hl hsh hb0 hv0 hv1 hg0 hg1
  rw [HWF.out] at hwr
  have R3:=Lib.hid r3
  have T3:=Lib.hid t3
  clear r3 t3 t2 r2 a2 a3 hb2 hito u1 v1
  go_wp2_with fail
  obtain ⟨W3,hW3⟩ : ∃ W3,w2.setCell ⟨ga,1,none⟩ (.string dg)=W3:=⟨_,rfl⟩
  have T3' : Hid (Tch (fun _=>False) w W3):=Lib.hid (hW3 ▸ T3.out)
  have R3' : Hid (At W3 (ga + 1) repL0 TReply):=Lib.hid (hW3 ▸ R3.out)
  rw [hW3] at hwr
  try rw [hW3]
  clear hW3 T3 R3
  refine hwr.mono ?_
  rintro e w7 ⟨rfl,hC7,t7⟩
  have hgw : ga + 1 < W3.heap.size:=R3'.out.lt
  obtain ⟨c7,t07⟩:=CaX.step (s:=s') (N:=fun k=>k=ga + 1) (fun k h=>.inl h) (fun k hk h=>by have:=hLT k h;omega) (fun k hk=>by omega) (T3'.out.mono (fun _ _ h=>h.elim)) (Tch.refl _ W3) t7 hC7
  have r7:=R3'.out.tch t7 (fun h=>by have:=hLT _ h;omega)
  have hg7:=r7.lt
  have ha : At (w7.alloc (.cells #[.int .i64 0,.string ⟨#[]⟩,.int .i64 0,.int .i64 0,.slice none 0 0] TReply)) w7.heap.size repL0 TReply:=At.new w7 _ _
  have tb7 : Tch (fun k=>w7.heap.size ≤ k) w7 (w7.alloc (.cells #[.int .i64 0,.string ⟨#[]⟩,.int .i64 0,.int .i64 0,.slice none 0 0] TReply)):=Tch.alloc _ _ _
  have q7:=t07.size
  obtain ⟨W4,hW4⟩ : ∃ W4,w7.alloc (.cells #[.int .i64 0,.string ⟨#[]⟩,.int .i64 0,.int .i64 0,.slice none 0 0] TReply)=W4:=⟨_,rfl⟩
  rw [hW4] at ha tb7
  have ha5:=at_set5 ha (.int .i64 ee) (.string ⟨#[]⟩) (.int .i64 0) (.int .i64 vv) (.slice none 0 0)
  have tb5:=tb7.tset5 (Nat.le_refl _) (.int .i64 ee) (.string ⟨#[]⟩) (.int .i64 0) (.int .i64 vv) (.slice none 0 0)
  obtain ⟨W5,hW5⟩ : ∃ W5,(((((W4.setCell ⟨w7.heap.size,0,none⟩ (.int .i64 ee)).setCell ⟨w7.heap.size,1,none⟩ (.string ⟨#[]⟩)).setCell ⟨w7.heap.size,2,none⟩ (.int .i64 0)).setCell ⟨w7.heap.size,3,none⟩ (.int .i64 vv)).setCell ⟨w7.heap.size,4,none⟩ (.slice none 0 0))=W5:=⟨_,rfl⟩
  rw [hW5] at ha5 tb5
  have c5:=c7.fresh.tch tb5 (fun k h=>.inr h)
  have t05:=t07.trans tb5 (fun k hk h=>by omega)
  have r5:=r7.tch tb5 (by omega)
  have u4:=ha.facts5
  have u5:=ha5.facts5
  have v5:=r5.facts5
  have hg5 : ga + 1 < w7.heap.size:=hg7
  rcases HC'.out with ⟨rfl,rfl⟩ | ⟨rfl,rfl⟩
  ·obtain ⟨W9,hW9,a9,c9,t9⟩:=done5 c5 t05 r5 (.inl rfl) q19_ q23_ (.int .i64 13) (.string ⟨#[]⟩) (.int .i64 0) (.int .i64 vv) (.slice none 0 0)
   have C9:=Lib.hid c9
   have T9:=Lib.hid t9
   have u9:=a9.facts5
   clear c9 t9 c5 t05 r5 ha5 ha tb5 tb7 c7 t07 r7 t7 hC7 hwr
   go_wp2
   refine bodyPost_ret (v:=repA 13 ⟨#[]⟩ 0 vv (.slice none 0 0)) (by simp [results,Tryz.results153,go_sem,u9]) rfl ?_
   rw [HF.out]
   exact ⟨rfl,C9.out,T9.out⟩
  ·have t6:=Tch.set W5 ⟨w7.heap.size,2,none⟩ (.int .i64 (v + n))
   have a6:=ha5.set 2 (.int .i64 (v + n))
   have c6:=c5.tch t6 (fun k h=>.inr (by have h' : k=w7.heap.size:=h;omega))
   have t06:=t05.trans t6 (fun k hk h=>by have h' : k=w7.heap.size:=h;omega)
   have r6:=r5.tch t6 (by show ga + 1 ≠ w7.heap.size;omega)
   obtain ⟨W6,hW6⟩ : ∃ W6,W5.setCell ⟨w7.heap.size,2,none⟩ (.int .i64 (v + n))=W6:=⟨_,rfl⟩
   rw [hW6] at t6 a6 c6 t06 r6
   have u6:=At.facts5 (a0:=.int .i64 0) (a1:=.string ⟨#[]⟩) (a2:=.int .i64 (v + n)) (a3:=.int .i64 vv) (a4:=.slice none 0 0) a6
   have v6:=r6.facts5
   obtain ⟨W9,hW9,a9,c9,t9⟩:=done5 c6 t06 r6 (.inl rfl) q19_ q23_ (.int .i64 0) (.string ⟨#[]⟩) (.int .i64 (v + n)) (.int .i64 vv) (.slice none 0 0)
   have C9:=Lib.hid c9
   have T9:=Lib.hid t9
   have u9:=a9.facts5
   clear c9 t9 c5 t05 r5 ha5 ha tb5 tb7 c7 t07 r7 t7 hC7 hwr t6 a6 c6 t06 r6
   go_wp2
   refine bodyPost_ret (v:=repA 0 ⟨#[]⟩ (v + n) vv (.slice none 0 0)) (by simp [results,Tryz.results153,go_sem,u9]) rfl ?_
   rw [HF.out]
   exact ⟨rfl,C9.out,T9.out⟩
end Go.Proofs.YtkekohmkaefdnaaGreatDoor
namespace Go.Proofs.YtkekohmkaefdnaaGreatDoor
open Go.RowKit Go.Maps Go.Shelf Go.Proofs.YtkekohmkaefdnaaGreatDoorW.PrintWords Go.Proofs.YtkekohmkaefdnaaGreatDoorW.PrintLast
attribute [local go_sem ↓] Go.wp_at_zero Go.wp_at_succ
def itemIs (bud : Int) (s : CS) (c : Cm) (now : Int) (was : It) : RpC × CS:=
 if c.op=1 then ({ v:=was.v,ver:=was.ver },⟨putL s.L was,s.ver,s.gone⟩)
 else if c.op=10 then (if was.unt=0 then ({ n:=-1 },s) else ({ n:=was.unt - now },s))
 else if c.op=5 then ({ },⟨cutL s.L c.k,s.ver,s.gone⟩)
 else if c.op=9 then ({ },⟨putL s.L { was with unt:=untilF c.n now },s.ver,s.gone⟩)
 else if c.op=7 then incrF bud s was c.n
 else behindF bud s was c.v
def itemF (bud : Int) (s : CS) (c : Cm) (now : Int) : RpC × CS:=
 if c.op=9∧c.n < 0 then ({ e:=1 },s)
 else match findK s.L c.k with
  | none=>({ e:=9 },s)
  | some was=>itemIs bud s c now was
theorem writeF_v (bud : Int) (s : CS) (x : It) : (writeF bud s x).1.v=⟨#[]⟩∧(writeF bud s x).1.n=0∧(writeF bud s x).1.ks=[]:=by
 unfold writeF;split <;> exact ⟨rfl,rfl,rfl⟩
theorem incrF_v (bud : Int) (s : CS) (x : It) (n : Int) : (incrF bud s x n).1.v=⟨#[]⟩:=by
 unfold incrF
 split
 ·rfl
 ·split
  ·rfl
  ·split
   ·rfl
   ·exact (writeF_v ..).1
theorem behindF_v (bud : Int) (s : CS) (x : It) (m : ByteArray) : (behindF bud s x m).1.v=⟨#[]⟩∧(behindF bud s x m).1.n=0:=by
 unfold behindF
 split
 ·exact ⟨rfl,rfl⟩
 ·exact ⟨(writeF_v ..).1,(writeF_v ..).2.1⟩
theorem item_gen (cb : Nat) (bud : Int) (s : CS) (O : Nat→Prop) (c : Cm) (now : Int) (w : World) (hC : CaI w cb bud s.L s.ver s.gone O) (hLd : c.op=7→∀ W,Tch O w W→LaidN W) (hs : Short s.L) (hl : s.L.length < 90000) (hU : ∀ x ∈ s.L,0 ≤ x.unt∧x.unt ≤ 2000000000000) (hop : c.op=1 ∨ c.op=5 ∨ c.op=7 ∨ c.op=8 ∨ c.op=9 ∨ c.op=10) (hk1 : c.k.size ≤ 10000) (hk2 : c.v.size ≤ 10000) (hb0 : 0 ≤ bud) (hv0 : 0 ≤ s.ver) (hv1 : s.ver ≤ 1000000000) (hg0 : 0 ≤ s.gone) (hg1 : s.gone ≤ 1000000000) (hn0 : 0 ≤ now) (hn1 : now ≤ 1000000000000) (hn2 : c.n ≤ 1000000000000) (hn3 : -1000000000000 ≤ c.n) :
  Calls Tryz.prog 118 #[.pointer (some ⟨cb,0,none⟩),c.val,.int .i64 now] w fun e w'=>e=.returned (repA (itemF bud s c now).1.e (itemF bud s c now).1.v (itemF bud s c now).1.n (itemF bud s c now).1.ver (.slice none 0 0))∧CaI w' cb bud (itemF bud s c now).2.L (itemF bud s c now).2.ver (itemF bud s c now).2.gone (Own O w w')∧Tch O w w':=by
 have hLT:=hC.lt
 have hcl:=hLT _ hC.own
 obtain ⟨W0,hW0,ta,ca,cr,hsz⟩:=two_blocks w #[.int .i64 c.op,.string c.k,.string c.v,.int .i64 c.n,.int .i64 c.ver] TCmd #[.int .i64 0,.string ⟨#[]⟩,.int .i64 0,.int .i64 0,.slice none 0 0] TReply
 have hC0:=hC.tch ta (fun _ _ h=>h)
 obtain ⟨tb,vo,bo,ss,Ot,hR⟩:=hC0
 have hget:=fun W (t : Tch (fun _=>False) W0 W)=>(hR.tch t (fun _ _ h=>h)).get hs c.k (by omega) W (Tch.refl _ W)
 rw [gotV_eq] at hget
 generalize hwas : (findK s.L c.k).getD it0=was at hget
 generalize his : (findK s.L c.k).isSome=is at hget
 have HWAS:=Lib.hid hwas
 have HIS:=Lib.hid his
 have CA:=Lib.hid ca
 have CR:=Lib.hid cr
 have TA:=Lib.hid ta
 have HR:=Lib.hid hR
 have HSZ:=Lib.hid hsz
 have hgl:=cr.lt
 have hOtb:=hR.sub _ hR.tab.ownT
 have htl : tb < W0.heap.size:=hR.lt _ hOtb
 have htw : tb < w.heap.size:=hLT _ hOtb
 have hct : cb ≠ tb:=fun e=>hR.nc (e ▸ hR.tab.ownT)
 clear hC ta ca cr hR hwas his hsz
 go_enter Tryz.func118,Tryz.ntmps118
 go_wp2
 try rw [hW0]
 generalize hga : w.heap.size=ga at *
 have mk : ∀ W' : World,Tch (fun k=>k=tb ∨ W0.heap.size ≤ k) W0 W'→(W'.cell? ⟨cb,1,none⟩=some (.pointer (some ⟨tb,0,none⟩))∧W'.cell? ⟨ga,1,none⟩=some (.string c.k)):=fun W' t=>⟨(HR.out.cells.tch t (fun h=>h.elim hct (fun h=>by have:=HR.out.cells.lt;omega))).cell 1 rfl,(CA.out.tch t (fun h=>h.elim (fun h=>by omega) (fun h=>by have:=CA.out.lt;omega))).cell 1 rfl⟩
 clear hW0
 have HGA:=Lib.hid hga
 clear hga
 go_region_held3 (fun W'=>W'.cell? ⟨cb,1,none⟩=some (.pointer (some ⟨tb,0,none⟩))∧W'.cell? ⟨ga,1,none⟩=some (.string c.k))
   ((refine mk _ ?h1;(case h1=>first | exact (Tch.refl _ W0).tdrew | exact (Tch.refl _ W0).talloc.tdrew | exact (((Tch.refl _ W0).tdrew).ttch tt3 (fun _ _ h=>.inl h)) | exact (((Tch.refl _ W0).tdrew).ttch tt3 (fun _ _ h=>.inl h)).talloc | exact (((Tch.refl _ W0).talloc.tdrew).ttch tt3 (fun _ _ h=>.inl h)) | exact (((Tch.refl _ W0).talloc.tdrew).ttch tt3 (fun _ _ h=>.inl h)).ttch (tch_set4 w3 W0.heap.size _ _ _ _) (fun k hk h=>by omega))))
   ((go_at_call 87;refine (hget _ ?_).mono ?_;(first | exact (Tch.refl _ W0).tdrew | exact (Tch.refl _ W0).talloc.tdrew);rintro e w3 ⟨rfl,hM3,tt3⟩;try (have za:=(at_new' W0 #[.string ⟨#[]⟩,.string ⟨#[]⟩,.int .i64 0,.int .i64 0] TItem W0.heap.size rfl).drew.tch tt3 (show ¬ W0.heap.size=tb by omega);have z0:=za.facts4)))
 ·have M:=mid_late (was:=was) HGA.out TA.out CA.out CR.out HSZ.out hLT hOtb hM3 tt3
  obtain ⟨w5,hw5⟩ : ∃ w5,w3.alloc (.cells #[.string was.k,.string was.v,.int .i64 was.ver,.int .i64 was.unt] TItem)=w5:=⟨_,rfl⟩
  rw [hw5] at M ⊢
  generalize w3.heap.size=ta at M ⊢
  clear hw5 hM3 tt3 mk hget
  have hga:=HGA.out
  have hgl5:=M.lt
  have uA:=M.cmd.facts5
  have uR:=M.rep.facts5
  have uI:=M.it.facts4
  have hN5 : ∀ k,(k=ga ∨ k=ga + 1 ∨ k=ta)→k < w5.heap.size:=by
   have q:=M.it.lt
   intro k hk
   omega
  have HM:=Lib.hid M
  clear M hga
  by_cases hbad : c.op=9∧c.n < 0
  ·have hF : itemF bud s c now=({ e:=1 },s):=by unfold itemF;rw [if_pos hbad]
   have HF:=Lib.hid hF
   obtain ⟨hop9,hn⟩:=hbad
   rw [hop9] at uA
   clear hF
   obtain ⟨W9,hW9,a9,c9,t9⟩:=done5 HM.out.ca HM.out.t HM.out.rep (.inr (.inl rfl)) q19_ q23_ (.int .i64 1) (.string ⟨#[]⟩) (.int .i64 0) (.int .i64 0) (.slice none 0 0)
   have C9:=Lib.hid c9
   have T9:=Lib.hid t9
   have u9:=a9.facts5
   clear c9 t9
   go_wp2
   try rw [hW9]
   refine bodyPost_ret (v:=repA 1 ⟨#[]⟩ 0 0 (.slice none 0 0)) q24_ rfl ?_
   rw [HF.out]
   try rw [hve]
   try rw [hve2]
   exact ⟨rfl,C9.out,T9.out⟩
  cases is with
  | false=>
   have hF : itemF bud s c now=({ e:=9 },s):=by
    unfold itemF
    rw [if_neg hbad]
    have h1:=HIS.out
    cases hf : findK s.L c.k with
    | none=>rfl
    | some x=>rw [hf] at h1;cases h1
   have HF:=Lib.hid hF
   clear hF
   rcases hop with hop | hop | hop | hop | hop | hop
   all_goals
    rw [hop] at uA
    try (have hn : ¬ c.n < 0:=fun h=>hbad ⟨hop,h⟩)
    clear hbad
    obtain ⟨W9,hW9,a9,c9,t9⟩:=done5 HM.out.ca HM.out.t HM.out.rep (.inr (.inl rfl)) q19_ q23_ (.int .i64 9) (.string ⟨#[]⟩) (.int .i64 0) (.int .i64 0) (.slice none 0 0)
    have C9:=Lib.hid c9
    have T9:=Lib.hid t9
    have u9:=a9.facts5
    clear c9 t9
    go_wp2
    try rw [hW9]
    refine bodyPost_ret (v:=repA 9 ⟨#[]⟩ 0 0 (.slice none 0 0)) q24_ rfl ?_
    rw [HF.out]
    try rw [hve]
    try rw [hve2]
    exact ⟨rfl,C9.out,T9.out⟩
  | true=>
   have hfk : findK s.L c.k=some was:=by
    have h1:=HIS.out
    have h2:=HWAS.out
    cases hf : findK s.L c.k with
    | none=>rw [hf] at h1;cases h1
    | some x=>rw [hf] at h2;exact congrArg some h2
   have hsw:=find_short hs hfk
   have huw:=hU was (findK_some hfk).1
   have HFK:=Lib.hid hfk
   have hI : itemF bud s c now=itemIs bud s c now was:=by unfold itemF;rw [if_neg hbad,hfk]
   clear hfk
   rcases hop with hop | hop | hop | hop | hop | hop
   ·have hF : itemF bud s c now=({ v:=was.v,ver:=was.ver },⟨putL s.L was,s.ver,s.gone⟩):=by rw [hI];unfold itemIs;rw [if_pos hop]
    have HF:=Lib.hid hF
    rw [hop] at uA
    clear hF hI hbad
    obtain ⟨O5,h5,hO5,nO5⟩:=HM.out.ca
    have hput:=put_gen cb bud s.L s.ver s.gone O5 was w5 h5 hs hl hsw
    go_wp2_with fail
    refine hput.mono ?_
    rintro e w7 ⟨rfl,hC7,t7⟩
    obtain ⟨c7,t07⟩:=CaX.step (s:=⟨putL s.L was,s.ver,s.gone⟩) hO5 nO5 hN5 HM.out.t (Tch.refl _ w5) t7 hC7
    have r7:=HM.out.rep.tch t7 (nO5 _ (.inr (.inl rfl)))
    have i7:=HM.out.it.tch t7 (nO5 _ (.inr (.inr rfl)))
    have u7:=r7.facts5
    have v7:=i7.facts4
    clear uA uR uI hput h5 hC7 t7
    obtain ⟨W9,hW9,a9,c9,t9⟩:=done5 c7 t07 r7 (.inr (.inl rfl)) q19_ q23_ (.int .i64 0) (.string was.v) (.int .i64 0) (.int .i64 was.ver) (.slice none 0 0)
    have C9:=Lib.hid c9
    have T9:=Lib.hid t9
    have u9:=a9.facts5
    clear c9 t9
    go_wp2
    try rw [hW9]
    refine bodyPost_ret (v:=repA 0 was.v 0 was.ver (.slice none 0 0)) q24_ rfl ?_
    rw [HF.out]
    try rw [hve]
    try rw [hve2]
    exact ⟨rfl,C9.out,T9.out⟩
   ·have hF : itemF bud s c now=({ },⟨cutL s.L c.k,s.ver,s.gone⟩):=by rw [hI];unfold itemIs;rw [if_neg (by omega),if_neg (by omega),if_pos hop]
    have HF:=Lib.hid hF
    rw [hop] at uA
    clear hF hI hbad
    obtain ⟨O5,h5,hO5,nO5⟩:=HM.out.ca
    have hdel:=del_gen cb bud s.L s.ver s.gone O5 c.k w5 h5 (by omega) hs
    go_wp2_with fail
    refine hdel.mono ?_
    rintro e w7 ⟨rfl,hC7,t7⟩
    obtain ⟨c7,t07⟩:=CaX.step (s:=⟨cutL s.L c.k,s.ver,s.gone⟩) hO5 nO5 hN5 HM.out.t (Tch.refl _ w5) t7 hC7
    have r7:=HM.out.rep.tch t7 (nO5 _ (.inr (.inl rfl)))
    have u7:=r7.facts5
    clear uA uR uI hdel h5 hC7 t7
    obtain ⟨W9,hW9,a9,c9,t9⟩:=done5 c7 t07 r7 (.inr (.inl rfl)) q19_ q23_ (.int .i64 0) (.string ⟨#[]⟩) (.int .i64 0) (.int .i64 0) (.slice none 0 0)
    have C9:=Lib.hid c9
    have T9:=Lib.hid t9
    have u9:=a9.facts5
    clear c9 t9
    go_wp2
    try rw [hW9]
    refine bodyPost_ret (v:=repA 0 ⟨#[]⟩ 0 0 (.slice none 0 0)) q24_ rfl ?_
    rw [HF.out]
    try rw [hve]
    try rw [hve2]
    exact ⟨rfl,C9.out,T9.out⟩
   ·have hF : itemF bud s c now=incrF bud s was c.n:=by rw [hI];unfold itemIs;rw [if_neg (by omega),if_neg (by omega),if_neg (by omega),if_neg (by omega),if_pos hop]
    have HF:=Lib.hid hF
    rw [hop] at uA
    clear hF hI hbad
    obtain ⟨O5,h5,hO5,nO5⟩:=HM.out.ca
    have hin:=incr_gen cb bud s O5 was c.n w5 h5 (fun W tW=>hLd hop W (HM.out.t.trans tW (fun k hk h=>Own.old (hO5 k h) hk))) hs hl hsw hn3 hn2 hb0 hv0 hv1 hg0 hg1
    go_wp2_with fail
    refine hin.mono ?_
    rintro e w7 ⟨rfl,hC7,t7⟩
    obtain ⟨c7,t07⟩:=CaX.step (s:=(incrF bud s was c.n).2) hO5 nO5 hN5 HM.out.t (Tch.refl _ w5) t7 hC7
    have r7:=HM.out.rep.tch t7 (nO5 _ (.inr (.inl rfl)))
    have u7:=r7.facts5
    have hve : (incrF bud s was c.n).1.v=⟨#[]⟩:=incrF_v ..
    clear uA uR uI hin h5 hC7 t7
    obtain ⟨W9,hW9,a9,c9,t9⟩:=done5 c7 t07 r7 (.inr (.inl rfl)) q19_ q23_ (.int .i64 (incrF bud s was c.n).1.e) (.string ⟨#[]⟩) (.int .i64 (incrF bud s was c.n).1.n) (.int .i64 (incrF bud s was c.n).1.ver) (.slice none 0 0)
    have C9:=Lib.hid c9
    have T9:=Lib.hid t9
    have u9:=a9.facts5
    clear c9 t9
    go_wp2
    try rw [hW9]
    refine bodyPost_ret (v:=repA (incrF bud s was c.n).1.e ⟨#[]⟩ (incrF bud s was c.n).1.n (incrF bud s was c.n).1.ver (.slice none 0 0)) q24_ rfl ?_
    rw [HF.out]
    try rw [hve]
    try rw [hve2]
    exact ⟨rfl,C9.out,T9.out⟩
   ·have hF : itemF bud s c now=behindF bud s was c.v:=by rw [hI];unfold itemIs;rw [if_neg (by omega),if_neg (by omega),if_neg (by omega),if_neg (by omega),if_neg (by omega)]
    have HF:=Lib.hid hF
    rw [hop] at uA
    clear hF hI hbad
    obtain ⟨O5,h5,hO5,nO5⟩:=HM.out.ca
    have hbe:=behind_gen cb bud s O5 was c.v w5 h5 hs hl hsw hk2 hb0 hv0 hv1 hg0 hg1
    go_wp2_with fail
    refine hbe.mono ?_
    rintro e w7 ⟨rfl,hC7,t7⟩
    obtain ⟨c7,t07⟩:=CaX.step (s:=(behindF bud s was c.v).2) hO5 nO5 hN5 HM.out.t (Tch.refl _ w5) t7 hC7
    have r7:=HM.out.rep.tch t7 (nO5 _ (.inr (.inl rfl)))
    have u7:=r7.facts5
    have hve:=(behindF_v bud s was c.v).1
    have hve2:=(behindF_v bud s was c.v).2
    clear uA uR uI hbe h5 hC7 t7
    obtain ⟨W9,hW9,a9,c9,t9⟩:=done5 c7 t07 r7 (.inr (.inl rfl)) q19_ q23_ (.int .i64 (behindF bud s was c.v).1.e) (.string ⟨#[]⟩) (.int .i64 0) (.int .i64 (behindF bud s was c.v).1.ver) (.slice none 0 0)
    have C9:=Lib.hid c9
    have T9:=Lib.hid t9
    have u9:=a9.facts5
    clear c9 t9
    go_wp2
    try rw [hW9]
    refine bodyPost_ret (v:=repA (behindF bud s was c.v).1.e ⟨#[]⟩ 0 (behindF bud s was c.v).1.ver (.slice none 0 0)) q24_ rfl ?_
    rw [HF.out]
    try rw [hve]
    try rw [hve2]
    exact ⟨rfl,C9.out,T9.out⟩
   ·have hn : ¬ c.n < 0:=fun h=>hbad ⟨hop,h⟩
    have hF : itemF bud s c now=({ },⟨putL s.L { was with unt:=untilF c.n now },s.ver,s.gone⟩):=by rw [hI];unfold itemIs;rw [if_neg (by omega),if_neg (by omega),if_neg (by omega),if_pos hop]
    have HF:=Lib.hid hF
    rw [hop] at uA
    clear hF hI hbad
    obtain ⟨O5,h5,hO5,nO5⟩:=HM.out.ca
    have hun:=Pb.cache_until.calls c.n now (untilF c.n now) w5 (until_some (by omega) hn2 hn0 hn1)
    go_wp2_with fail
    refine hun.mono ?_
    rintro e w6 ⟨rfl,n6,rfl⟩
    have t6 : Tch (fun k=>k=ta) w5 ((w5.drewN n6).setCell ⟨ta,3,none⟩ (.int .i64 (untilF c.n now))):=(Tch.drewN (fun k=>k=ta) w5 n6).trans (Tch.set _ ⟨ta,3,none⟩ _) (fun _ _ h=>h)
    have i6 : At ((w5.drewN n6).setCell ⟨ta,3,none⟩ (.int .i64 (untilF c.n now))) ta ({ was with unt:=untilF c.n now } : It).cells TItem:=(HM.out.it.drewN n6).set 3 _
    have h6:=h5.tch t6 (fun k hk e=>nO5 _ (.inr (.inr rfl)) (e ▸ hk))
    have hput:=put_gen cb bud s.L s.ver s.gone O5 { was with unt:=untilF c.n now } ((w5.drewN n6).setCell ⟨ta,3,none⟩ (.int .i64 (untilF c.n now))) h6 hs hl hsw
    have t06:=HM.out.t.trans t6 (fun k hk h=>by have:=HGA.out;omega)
    have r6:=HM.out.rep.tch t6 (by omega)
    have i6':=At.facts4 (a0:=.string was.k) (a1:=.string was.v) (a2:=.int .i64 was.ver) (a3:=.int .i64 (untilF c.n now)) i6
    obtain ⟨W6,hW6⟩ : ∃ W6,(w5.drewN n6).setCell ⟨ta,3,none⟩ (.int .i64 (untilF c.n now))=W6:=⟨_,rfl⟩
    rw [hW6] at t6 hput t06 r6 i6 i6'
    have q6:=t6.size
    have T6:=Lib.hid t06
    have R6:=Lib.hid r6
    clear uA uR hun h5 h6 t6 t06 r6 i6
    go_wp2_with fail
    clear uI
    try rw [hW6]
    refine hput.mono ?_
    rintro e w7 ⟨rfl,hC7,t7⟩
    obtain ⟨c7,t07⟩:=CaX.step (s:=⟨putL s.L { was with unt:=untilF c.n now },s.ver,s.gone⟩) (fun k h=>(hO5 k h).elim .inl (fun h=>.inr ⟨h.1,Nat.lt_of_lt_of_le h.2 q6⟩)) nO5 (fun k hk=>Nat.lt_of_lt_of_le (hN5 k hk) q6) T6.out (Tch.refl _ W6) t7 hC7
    have r7:=R6.out.tch t7 (nO5 _ (.inr (.inl rfl)))
    have u7:=r7.facts5
    clear hput hC7 t7 i6' hW6
    obtain ⟨W9,hW9,a9,c9,t9⟩:=done5 c7 t07 r7 (.inr (.inl rfl)) q19_ q23_ (.int .i64 0) (.string ⟨#[]⟩) (.int .i64 0) (.int .i64 0) (.slice none 0 0)
    have C9:=Lib.hid c9
    have T9:=Lib.hid t9
    have u9:=a9.facts5
    clear c9 t9
    go_wp2
    try rw [hW9]
    refine bodyPost_ret (v:=repA 0 ⟨#[]⟩ 0 0 (.slice none 0 0)) q24_ rfl ?_
    rw [HF.out]
    try rw [hve]
    try rw [hve2]
    exact ⟨rfl,C9.out,T9.out⟩
   ·by_cases hu : was.unt=0
    ·have hF : itemF bud s c now=({ n:=-1 },s):=by rw [hI];unfold itemIs;rw [if_neg (by omega),if_pos hop,if_pos hu]
     have HF:=Lib.hid hF
     rw [hop] at uA
     rw [hu] at uI
     clear hF hI hbad
     obtain ⟨W9,hW9,a9,c9,t9⟩:=done5 HM.out.ca HM.out.t HM.out.rep (.inr (.inl rfl)) q19_ q23_ (.int .i64 0) (.string ⟨#[]⟩) (.int .i64 (-1)) (.int .i64 0) (.slice none 0 0)
     have C9:=Lib.hid c9
     have T9:=Lib.hid t9
     have u9:=a9.facts5
     clear c9 t9
     go_wp2
     try rw [hW9]
     refine bodyPost_ret (v:=repA 0 ⟨#[]⟩ (-1) 0 (.slice none 0 0)) q24_ rfl ?_
     rw [HF.out]
     try rw [hve]
     try rw [hve2]
     exact ⟨rfl,C9.out,T9.out⟩
    ·have hF : itemF bud s c now=({ n:=was.unt - now },s):=by rw [hI];unfold itemIs;rw [if_neg (by omega),if_pos hop,if_neg hu]
     have HF:=Lib.hid hF
     have hw1 : wrap64 (was.unt - now)=was.unt - now:=by unfold wrap64;omega
     have hu' : (was.unt == 0)=false:=by simpa using hu
     rw [hop] at uA
     clear hF hI hbad hu
     obtain ⟨W9,hW9,a9,c9,t9⟩:=done5 HM.out.ca HM.out.t HM.out.rep (.inr (.inl rfl)) q19_ q23_ (.int .i64 0) (.string ⟨#[]⟩) (.int .i64 (was.unt - now)) (.int .i64 0) (.slice none 0 0)
     have C9:=Lib.hid c9
     have T9:=Lib.hid t9
     have u9:=a9.facts5
     clear c9 t9
     go_wp2
     try rw [hW9]
     refine bodyPost_ret (v:=repA 0 ⟨#[]⟩ (was.unt - now) 0 (.slice none 0 0)) q24_ rfl ?_
     rw [HF.out]
     try rw [hve]
     try rw [hve2]
     exact ⟨rfl,C9.out,T9.out⟩
 ·have M:=mid_early (was:=was) HGA.out TA.out CA.out CR.out HSZ.out hLT hOtb hM3 tt3
  obtain ⟨w5,hw5⟩ : ∃ w5,((((w3.setCell ⟨W0.heap.size,0,none⟩ (.string was.k)).setCell ⟨W0.heap.size,1,none⟩ (.string was.v)).setCell ⟨W0.heap.size,2,none⟩ (.int .i64 was.ver)).setCell ⟨W0.heap.size,3,none⟩ (.int .i64 was.unt))=w5:=⟨_,rfl⟩
  rw [hw5] at M ⊢
  generalize hta : W0.heap.size=ta at M ⊢
  clear hw5 hM3 tt3 mk hget hta za z0
  have hga:=HGA.out
  have hgl5:=M.lt
  have uA:=M.cmd.facts5
  have uR:=M.rep.facts5
  have uI:=M.it.facts4
  have hN5 : ∀ k,(k=ga ∨ k=ga + 1 ∨ k=ta)→k < w5.heap.size:=by
   have q:=M.it.lt
   intro k hk
   omega
  have HM:=Lib.hid M
  clear M hga
  by_cases hbad : c.op=9∧c.n < 0
  ·have hF : itemF bud s c now=({ e:=1 },s):=by unfold itemF;rw [if_pos hbad]
   have HF:=Lib.hid hF
   obtain ⟨hop9,hn⟩:=hbad
   rw [hop9] at uA
   clear hF
   obtain ⟨W9,hW9,a9,c9,t9⟩:=done5 HM.out.ca HM.out.t HM.out.rep (.inr (.inl rfl)) q19_ q23_ (.int .i64 1) (.string ⟨#[]⟩) (.int .i64 0) (.int .i64 0) (.slice none 0 0)
   have C9:=Lib.hid c9
   have T9:=Lib.hid t9
   have u9:=a9.facts5
   clear c9 t9
   go_wp2
   try rw [hW9]
   refine bodyPost_ret (v:=repA 1 ⟨#[]⟩ 0 0 (.slice none 0 0)) q24_ rfl ?_
   rw [HF.out]
   try rw [hve]
   try rw [hve2]
   exact ⟨rfl,C9.out,T9.out⟩
  cases is with
  | false=>
   have hF : itemF bud s c now=({ e:=9 },s):=by
    unfold itemF
    rw [if_neg hbad]
    have h1:=HIS.out
    cases hf : findK s.L c.k with
    | none=>rfl
    | some x=>rw [hf] at h1;cases h1
   have HF:=Lib.hid hF
   clear hF
   rcases hop with hop | hop | hop | hop | hop | hop
   all_goals
    rw [hop] at uA
    try (have hn : ¬ c.n < 0:=fun h=>hbad ⟨hop,h⟩)
    clear hbad
    obtain ⟨W9,hW9,a9,c9,t9⟩:=done5 HM.out.ca HM.out.t HM.out.rep (.inr (.inl rfl)) q19_ q23_ (.int .i64 9) (.string ⟨#[]⟩) (.int .i64 0) (.int .i64 0) (.slice none 0 0)
    have C9:=Lib.hid c9
    have T9:=Lib.hid t9
    have u9:=a9.facts5
    clear c9 t9
    go_wp2
    try rw [hW9]
    refine bodyPost_ret (v:=repA 9 ⟨#[]⟩ 0 0 (.slice none 0 0)) q24_ rfl ?_
    rw [HF.out]
    try rw [hve]
    try rw [hve2]
    exact ⟨rfl,C9.out,T9.out⟩
  | true=>
   have hfk : findK s.L c.k=some was:=by
    have h1:=HIS.out
    have h2:=HWAS.out
    cases hf : findK s.L c.k with
    | none=>rw [hf] at h1;cases h1
    | some x=>rw [hf] at h2;exact congrArg some h2
   have hsw:=find_short hs hfk
   have huw:=hU was (findK_some hfk).1
   have HFK:=Lib.hid hfk
   have hI : itemF bud s c now=itemIs bud s c now was:=by unfold itemF;rw [if_neg hbad,hfk]
   clear hfk
   rcases hop with hop | hop | hop | hop | hop | hop
   ·have hF : itemF bud s c now=({ v:=was.v,ver:=was.ver },⟨putL s.L was,s.ver,s.gone⟩):=by rw [hI];unfold itemIs;rw [if_pos hop]
    have HF:=Lib.hid hF
    rw [hop] at uA
    clear hF hI hbad
    obtain ⟨O5,h5,hO5,nO5⟩:=HM.out.ca
    have hput:=put_gen cb bud s.L s.ver s.gone O5 was w5 h5 hs hl hsw
    go_wp2_with fail
    refine hput.mono ?_
    rintro e w7 ⟨rfl,hC7,t7⟩
    obtain ⟨c7,t07⟩:=CaX.step (s:=⟨putL s.L was,s.ver,s.gone⟩) hO5 nO5 hN5 HM.out.t (Tch.refl _ w5) t7 hC7
    have r7:=HM.out.rep.tch t7 (nO5 _ (.inr (.inl rfl)))
    have i7:=HM.out.it.tch t7 (nO5 _ (.inr (.inr rfl)))
    have u7:=r7.facts5
    have v7:=i7.facts4
    clear uA uR uI hput h5 hC7 t7
    obtain ⟨W9,hW9,a9,c9,t9⟩:=done5 c7 t07 r7 (.inr (.inl rfl)) q19_ q23_ (.int .i64 0) (.string was.v) (.int .i64 0) (.int .i64 was.ver) (.slice none 0 0)
    have C9:=Lib.hid c9
    have T9:=Lib.hid t9
    have u9:=a9.facts5
    clear c9 t9
    go_wp2
    try rw [hW9]
    refine bodyPost_ret (v:=repA 0 was.v 0 was.ver (.slice none 0 0)) q24_ rfl ?_
    rw [HF.out]
    try rw [hve]
    try rw [hve2]
    exact ⟨rfl,C9.out,T9.out⟩
   ·have hF : itemF bud s c now=({ },⟨cutL s.L c.k,s.ver,s.gone⟩):=by rw [hI];unfold itemIs;rw [if_neg (by omega),if_neg (by omega),if_pos hop]
    have HF:=Lib.hid hF
    rw [hop] at uA
    clear hF hI hbad
    obtain ⟨O5,h5,hO5,nO5⟩:=HM.out.ca
    have hdel:=del_gen cb bud s.L s.ver s.gone O5 c.k w5 h5 (by omega) hs
    go_wp2_with fail
    refine hdel.mono ?_
    rintro e w7 ⟨rfl,hC7,t7⟩
    obtain ⟨c7,t07⟩:=CaX.step (s:=⟨cutL s.L c.k,s.ver,s.gone⟩) hO5 nO5 hN5 HM.out.t (Tch.refl _ w5) t7 hC7
    have r7:=HM.out.rep.tch t7 (nO5 _ (.inr (.inl rfl)))
    have u7:=r7.facts5
    clear uA uR uI hdel h5 hC7 t7
    obtain ⟨W9,hW9,a9,c9,t9⟩:=done5 c7 t07 r7 (.inr (.inl rfl)) q19_ q23_ (.int .i64 0) (.string ⟨#[]⟩) (.int .i64 0) (.int .i64 0) (.slice none 0 0)
    have C9:=Lib.hid c9
    have T9:=Lib.hid t9
    have u9:=a9.facts5
    clear c9 t9
    go_wp2
    try rw [hW9]
    refine bodyPost_ret (v:=repA 0 ⟨#[]⟩ 0 0 (.slice none 0 0)) q24_ rfl ?_
    rw [HF.out]
    try rw [hve]
    try rw [hve2]
    exact ⟨rfl,C9.out,T9.out⟩
   ·have hF : itemF bud s c now=incrF bud s was c.n:=by rw [hI];unfold itemIs;rw [if_neg (by omega),if_neg (by omega),if_neg (by omega),if_neg (by omega),if_pos hop]
    have HF:=Lib.hid hF
    rw [hop] at uA
    clear hF hI hbad
    obtain ⟨O5,h5,hO5,nO5⟩:=HM.out.ca
    have hin:=incr_gen cb bud s O5 was c.n w5 h5 (fun W tW=>hLd hop W (HM.out.t.trans tW (fun k hk h=>Own.old (hO5 k h) hk))) hs hl hsw hn3 hn2 hb0 hv0 hv1 hg0 hg1
    go_wp2_with fail
    refine hin.mono ?_
    rintro e w7 ⟨rfl,hC7,t7⟩
    obtain ⟨c7,t07⟩:=CaX.step (s:=(incrF bud s was c.n).2) hO5 nO5 hN5 HM.out.t (Tch.refl _ w5) t7 hC7
    have r7:=HM.out.rep.tch t7 (nO5 _ (.inr (.inl rfl)))
    have u7:=r7.facts5
    have hve : (incrF bud s was c.n).1.v=⟨#[]⟩:=incrF_v ..
    clear uA uR uI hin h5 hC7 t7
    obtain ⟨W9,hW9,a9,c9,t9⟩:=done5 c7 t07 r7 (.inr (.inl rfl)) q19_ q23_ (.int .i64 (incrF bud s was c.n).1.e) (.string ⟨#[]⟩) (.int .i64 (incrF bud s was c.n).1.n) (.int .i64 (incrF bud s was c.n).1.ver) (.slice none 0 0)
    have C9:=Lib.hid c9
    have T9:=Lib.hid t9
    have u9:=a9.facts5
    clear c9 t9
    go_wp2
    try rw [hW9]
    refine bodyPost_ret (v:=repA (incrF bud s was c.n).1.e ⟨#[]⟩ (incrF bud s was c.n).1.n (incrF bud s was c.n).1.ver (.slice none 0 0)) q24_ rfl ?_
    rw [HF.out]
    try rw [hve]
    try rw [hve2]
    exact ⟨rfl,C9.out,T9.out⟩
   ·have hF : itemF bud s c now=behindF bud s was c.v:=by rw [hI];unfold itemIs;rw [if_neg (by omega),if_neg (by omega),if_neg (by omega),if_neg (by omega),if_neg (by omega)]
    have HF:=Lib.hid hF
    rw [hop] at uA
    clear hF hI hbad
    obtain ⟨O5,h5,hO5,nO5⟩:=HM.out.ca
    have hbe:=behind_gen cb bud s O5 was c.v w5 h5 hs hl hsw hk2 hb0 hv0 hv1 hg0 hg1
    go_wp2_with fail
    refine hbe.mono ?_
    rintro e w7 ⟨rfl,hC7,t7⟩
    obtain ⟨c7,t07⟩:=CaX.step (s:=(behindF bud s was c.v).2) hO5 nO5 hN5 HM.out.t (Tch.refl _ w5) t7 hC7
    have r7:=HM.out.rep.tch t7 (nO5 _ (.inr (.inl rfl)))
    have u7:=r7.facts5
    have hve:=(behindF_v bud s was c.v).1
    have hve2:=(behindF_v bud s was c.v).2
    clear uA uR uI hbe h5 hC7 t7
    obtain ⟨W9,hW9,a9,c9,t9⟩:=done5 c7 t07 r7 (.inr (.inl rfl)) q19_ q23_ (.int .i64 (behindF bud s was c.v).1.e) (.string ⟨#[]⟩) (.int .i64 0) (.int .i64 (behindF bud s was c.v).1.ver) (.slice none 0 0)
    have C9:=Lib.hid c9
    have T9:=Lib.hid t9
    have u9:=a9.facts5
    clear c9 t9
    go_wp2
    try rw [hW9]
    refine bodyPost_ret (v:=repA (behindF bud s was c.v).1.e ⟨#[]⟩ 0 (behindF bud s was c.v).1.ver (.slice none 0 0)) q24_ rfl ?_
    rw [HF.out]
    try rw [hve]
    try rw [hve2]
    exact ⟨rfl,C9.out,T9.out⟩
   ·have hn : ¬ c.n < 0:=fun h=>hbad ⟨hop,h⟩
    have hF : itemF bud s c now=({ },⟨putL s.L { was with unt:=untilF c.n now },s.ver,s.gone⟩):=by rw [hI];unfold itemIs;rw [if_neg (by omega),if_neg (by omega),if_neg (by omega),if_pos hop]
    have HF:=Lib.hid hF
    rw [hop] at uA
    clear hF hI hbad
    obtain ⟨O5,h5,hO5,nO5⟩:=HM.out.ca
    have hun:=Pb.cache_until.calls c.n now (untilF c.n now) w5 (until_some (by omega) hn2 hn0 hn1)
    go_wp2_with fail
    refine hun.mono ?_
    rintro e w6 ⟨rfl,n6,rfl⟩
    have t6 : Tch (fun k=>k=ta) w5 ((w5.drewN n6).setCell ⟨ta,3,none⟩ (.int .i64 (untilF c.n now))):=(Tch.drewN (fun k=>k=ta) w5 n6).trans (Tch.set _ ⟨ta,3,none⟩ _) (fun _ _ h=>h)
    have i6 : At ((w5.drewN n6).setCell ⟨ta,3,none⟩ (.int .i64 (untilF c.n now))) ta ({ was with unt:=untilF c.n now } : It).cells TItem:=(HM.out.it.drewN n6).set 3 _
    have h6:=h5.tch t6 (fun k hk e=>nO5 _ (.inr (.inr rfl)) (e ▸ hk))
    have hput:=put_gen cb bud s.L s.ver s.gone O5 { was with unt:=untilF c.n now } ((w5.drewN n6).setCell ⟨ta,3,none⟩ (.int .i64 (untilF c.n now))) h6 hs hl hsw
    have t06:=HM.out.t.trans t6 (fun k hk h=>by have:=HGA.out;omega)
    have r6:=HM.out.rep.tch t6 (by omega)
    have i6':=At.facts4 (a0:=.string was.k) (a1:=.string was.v) (a2:=.int .i64 was.ver) (a3:=.int .i64 (untilF c.n now)) i6
    obtain ⟨W6,hW6⟩ : ∃ W6,(w5.drewN n6).setCell ⟨ta,3,none⟩ (.int .i64 (untilF c.n now))=W6:=⟨_,rfl⟩
    rw [hW6] at t6 hput t06 r6 i6 i6'
    have q6:=t6.size
    have T6:=Lib.hid t06
    have R6:=Lib.hid r6
    clear uA uR hun h5 h6 t6 t06 r6 i6
    go_wp2_with fail
    clear uI
    try rw [hW6]
    refine hput.mono ?_
    rintro e w7 ⟨rfl,hC7,t7⟩
    obtain ⟨c7,t07⟩:=CaX.step (s:=⟨putL s.L { was with unt:=untilF c.n now },s.ver,s.gone⟩) (fun k h=>(hO5 k h).elim .inl (fun h=>.inr ⟨h.1,Nat.lt_of_lt_of_le h.2 q6⟩)) nO5 (fun k hk=>Nat.lt_of_lt_of_le (hN5 k hk) q6) T6.out (Tch.refl _ W6) t7 hC7
    have r7:=R6.out.tch t7 (nO5 _ (.inr (.inl rfl)))
    have u7:=r7.facts5
    clear hput hC7 t7 i6' hW6
    obtain ⟨W9,hW9,a9,c9,t9⟩:=done5 c7 t07 r7 (.inr (.inl rfl)) q19_ q23_ (.int .i64 0) (.string ⟨#[]⟩) (.int .i64 0) (.int .i64 0) (.slice none 0 0)
    have C9:=Lib.hid c9
    have T9:=Lib.hid t9
    have u9:=a9.facts5
    clear c9 t9
    go_wp2
    try rw [hW9]
    refine bodyPost_ret (v:=repA 0 ⟨#[]⟩ 0 0 (.slice none 0 0)) q24_ rfl ?_
    rw [HF.out]
    try rw [hve]
    try rw [hve2]
    exact ⟨rfl,C9.out,T9.out⟩
   ·by_cases hu : was.unt=0
    ·have hF : itemF bud s c now=({ n:=-1 },s):=by rw [hI];unfold itemIs;rw [if_neg (by omega),if_pos hop,if_pos hu]
     have HF:=Lib.hid hF
     rw [hop] at uA
     rw [hu] at uI
     clear hF hI hbad
     obtain ⟨W9,hW9,a9,c9,t9⟩:=done5 HM.out.ca HM.out.t HM.out.rep (.inr (.inl rfl)) q19_ q23_ (.int .i64 0) (.string ⟨#[]⟩) (.int .i64 (-1)) (.int .i64 0) (.slice none 0 0)
     have C9:=Lib.hid c9
     have T9:=Lib.hid t9
     have u9:=a9.facts5
     clear c9 t9
     go_wp2
     try rw [hW9]
     refine bodyPost_ret (v:=repA 0 ⟨#[]⟩ (-1) 0 (.slice none 0 0)) q24_ rfl ?_
     rw [HF.out]
     try rw [hve]
     try rw [hve2]
     exact ⟨rfl,C9.out,T9.out⟩
    ·have hF : itemF bud s c now=({ n:=was.unt - now },s):=by rw [hI];unfold itemIs;rw [if_neg (by omega),if_pos hop,if_neg hu]
     have HF:=Lib.hid hF
     have hw1 : wrap64 (was.unt - now)=was.unt - now:=by unfold wrap64;omega
     have hu' : (was.unt == 0)=false:=by simpa using hu
     rw [hop] at uA
     clear hF hI hbad hu
     obtain ⟨W9,hW9,a9,c9,t9⟩:=done5 HM.out.ca HM.out.t HM.out.rep (.inr (.inl rfl)) q19_ q23_ (.int .i64 0) (.string ⟨#[]⟩) (.int .i64 (was.unt - now)) (.int .i64 0) (.slice none 0 0)
     have C9:=Lib.hid c9
     have T9:=Lib.hid t9
     have u9:=a9.facts5
     clear c9 t9
     go_wp2
     try rw [hW9]
     refine bodyPost_ret (v:=repA 0 ⟨#[]⟩ (was.unt - now) 0 (.slice none 0 0)) q24_ rfl ?_
     rw [HF.out]
     try rw [hve]
     try rw [hve2]
     exact ⟨rfl,C9.out,T9.out⟩
end Go.Proofs.YtkekohmkaefdnaaGreatDoor
namespace Go.Proofs.YtkekohmkaefdnaaGreatDoor
open Go.RowKit Go.Maps Go.Shelf Go.Proofs.YtkekohmkaefdnaaGreatDoorW.PrintWords Go.Proofs.YtkekohmkaefdnaaGreatDoorW.PrintLast
attribute [local go_sem ↓] Go.wp_at_zero Go.wp_at_succ
def doS (bud : Int) (s : CS) (c : Cm) (now : Int) : RpC × CS:=
 if c.op=2 ∨ c.op=3 ∨ c.op=4 ∨ c.op=6 then setF bud s c now
 else if c.op=11 then (scanF s c,s)
 else if c.op=12 then ({ n:=s.L.length },⟨[],s.ver,s.gone⟩)
 else if c.op=13 then ({ n:=s.L.length,ver:=usedL s.L },s)
 else itemF bud s c now
def doF (bud : Int) (s : CS) (c : Cm) (now : Int) : RpC × CS:=doS bud ⟨sweepL now s.L,s.ver,s.gone⟩ c now
theorem setF_v (bud : Int) (s : CS) (c : Cm) (now : Int) : (setF bud s c now).1.v=⟨#[]⟩∧(setF bud s c now).1.n=0∧(setF bud s c now).1.ks=[]:=by
 unfold setF
 repeat (split;exact ⟨rfl,rfl,rfl⟩)
 exact writeF_v ..
theorem scanF_v (s : CS) (c : Cm) : (scanF s c).v=⟨#[]⟩∧(scanF s c).n=0∧(scanF s c).ver=0:=by
 unfold scanF;split <;> exact ⟨rfl,rfl,rfl⟩
theorem writeF_ks (bud : Int) (s : CS) (x : It) : (writeF bud s x).1.ks=[]:=(writeF_v ..).2.2
theorem itemF_v (bud : Int) (s : CS) (c : Cm) (now : Int) : (itemF bud s c now).1.ks=[]:=by
 unfold itemF
 split
 ·rfl
 ·split
  ·rfl
  ·unfold itemIs
   repeat (split;(first | rfl | (split <;> rfl)))
   split
   ·unfold incrF
    split
    ·rfl
    ·split
     ·rfl
     ·split
      ·rfl
      ·exact writeF_ks ..
   ·unfold behindF
    split
    ·rfl
    ·exact writeF_ks ..
theorem CaX.sub {w w5 : World} {O N N' : Nat→Prop} {cb : Nat} {bud : Int} {s : CS} (h : CaX w w5 O cb bud s N) (hn : ∀ k,N' k→N k) : CaX w w5 O cb bud s N':=by
 obtain ⟨O5,h1,h2,h3⟩:=h
 exact ⟨O5,h1,h2,fun k hk=>h3 k (hn k hk)⟩
theorem CaX.none_ {w w5 : World} {O N : Nat→Prop} {cb : Nat} {bud : Int} {s : CS} (h : CaX w w5 O cb bud s N) : CaX w w5 O cb bud s (fun k=>(none : Option Nat)=some k):=h.sub (fun k hk=>by cases hk)
theorem done5X {w w7 : World} {O N : Nat→Prop} {cb : Nat} {bud : Int} {s : CS} {g : Nat} {x0 x1 x2 x3 x4 : Value} (hX : CaX w w7 O cb bud s N) (t : Tch O w w7) (hr : At w7 g [x0,x1,x2,x3,x4] TReply) (hN : N g) (hg : w.heap.size ≤ g) (v0 v1 v2 v3 v4 : Value) :
  ∃ W9,(((((w7.setCell ⟨g,0,none⟩ v0).setCell ⟨g,1,none⟩ v1).setCell ⟨g,2,none⟩ v2).setCell ⟨g,3,none⟩ v3).setCell ⟨g,4,none⟩ v4)=W9∧At W9 g [v0,v1,v2,v3,v4] TReply∧CaX w W9 O cb bud s N∧Tch O w W9:=
 ⟨_,rfl,at_set5 hr _ _ _ _ _,hX.set5 hN v0 v1 v2 v3 v4,t.tset5 hg v0 v1 v2 v3 v4⟩
theorem len_gen (tb : Nat) (ss : List (List It)) (n : Int) (O : Nat→Prop) (w : World) (hT : TabI w tb ss n O) :
  Calls Tryz.prog 117 #[.pointer (some ⟨tb,0,none⟩)] w fun e w'=>e=.returned (.int .i64 n)∧w'=w:=by
 have hc : ∃ d v,At w tb (tableV d v n) TTable:=by
  rcases hT with ⟨h,_,rfl,_⟩ | ⟨sb,vs,bs,h⟩
  ·exact ⟨_,_,h⟩
  ·exact ⟨_,_,h.tab⟩
 obtain ⟨d,v,h⟩:=hc
 have hl:=i64_load ⟨tb,5,none⟩ n w (h.cell 5 rfl)
 go_enter Tryz.func117,Tryz.ntmps117
 go_wp2_with (go_at_call 65;refine hl.mono ?_;rintro e w' ⟨rfl,rfl⟩)
 go_ret
 exact ⟨rfl,rfl⟩
theorem CaI.empty {w : World} {cb tb : Nat} {bud ver gone : Int} (hc : At w cb (cacheV bud tb (.slice none 0 0) 0 ver gone) TCache) (ht : At w tb (tableV false (.slice none 0 0) 0) TTable) : CaI w cb bud [] ver gone (fun k=>k=cb ∨ k=tb):=by
 have hne : cb ≠ tb:=at_ne2 hc ht (by decide)
 refine ⟨tb,.slice none 0 0,none,slots8,fun k=>k=tb,?_⟩
 exact { cells:=hc,order:=.nil,tab:=.inl ⟨ht,rfl,rfl,rfl,fun k hk=>hk ▸ ht.lt⟩,ok:=TabOK.start,sub:=fun k hk=>.inr hk,oc:=.inl rfl,oo:=(fun g hg=>by cases hg),nc:=hne,no:=(fun g hg=>by cases hg),lt:=fun k hk=>hk.elim (fun e=>e ▸ hc.lt) (fun e=>e ▸ ht.lt),sl:=by decide }
def DoE (w : World) (cb : Nat) (bud : Int) (O : Nat→Prop) (r : RpC) (s : CS) (e : Ending) (w' : World) : Prop:=
 ∃ (v : Value) (b : Option Nat),e=.returned (repA r.e r.v r.n r.ver v)∧StrIs w' v r.ks b∧CaX w w' O cb bud s (fun k=>b=some k)∧Tch O w w'∧∀ g,b=some g→w.heap.size ≤ g
theorem do_gen (cb : Nat) (bud : Int) (s : CS) (O : Nat→Prop) (c : Cm) (now : Int) (w : World) (hC : CaI w cb bud s.L s.ver s.gone O) (hright : Pb.command_Right.f 60 c.op c.k c.v c.n c.ver=some true) (hLd : c.op=7→∀ W,Tch O w W→LaidN W) (hs : Short s.L) (hl : s.L.length < 90000) (hU : ∀ x ∈ s.L,0 ≤ x.unt∧x.unt ≤ 2000000000000) (hop0 : 1 ≤ c.op∧c.op ≤ 13) (hk1 : c.k.size ≤ 10000) (hk2 : c.v.size ≤ 10000) (hb0 : 0 ≤ bud) (hv0 : 0 ≤ s.ver) (hv1 : s.ver ≤ 1000000000) (hg0 : 0 ≤ s.gone) (hg1 : s.gone ≤ 1000000000) (hn0 : 0 ≤ now) (hn1 : now ≤ 1000000000000) (hn2 : c.n ≤ 1000000000000) (hn3 : -1000000000000 ≤ c.n) :
  Calls Tryz.prog 84 #[.pointer (some ⟨cb,0,none⟩),c.val,.int .i64 now] w (DoE w cb bud O (doF bud s c now).1 (doF bud s c now).2):=by
 have hLT:=hC.lt
 have hcl:=hLT _ hC.own
 obtain ⟨W0,hW0,ta,ca,cr,hsz⟩:=two_blocks w #[.int .i64 c.op,.string c.k,.string c.v,.int .i64 c.n,.int .i64 c.ver] TCmd #[.int .i64 0,.string ⟨#[]⟩,.int .i64 0,.int .i64 0,.slice none 0 0] TReply
 have hC0:=hC.tch ta (fun _ _ h=>h)
 obtain ⟨tb,vo,bo,ss,Ot,hR⟩:=hC0
 have uC:=hR.cells.cell 1 rfl
 have uA:=ca.facts5
 have uR:=cr.facts5
 have hri:=Pb.command_Right.calls 60 c.op c.k c.v c.n c.ver true W0 hright
 have HC:=Lib.hid hC
 have CA:=Lib.hid ca
 have CR:=Lib.hid cr
 have TA:=Lib.hid ta
 have HSZ:=Lib.hid hsz
 have hgl:=cr.lt
 clear hC ca cr ta hsz hR
 go_enter Tryz.func84,Tryz.ntmps84
 go_wp2_with fail
 try rw [hW0]
 refine hri.mono ?_
 rintro e w1 ⟨rfl,hb1⟩
 generalize hga : w.heap.size=ga at *
 have t1:=TA.out.tbelow hb1
 have a1:=CA.out.abelow hb1
 have r1:=CR.out.abelow hb1
 have hC1:=HC.out.tch t1 (fun _ _ h=>h)
 have hsw:=sweep_gen cb bud s.L s.ver s.gone now O w1 hC1 hs
 have hq1 : ga + 1 < w1.heap.size:=r1.lt
 have A1:=Lib.hid a1
 have R1:=Lib.hid r1
 have T1:=Lib.hid t1
 have HGA:=Lib.hid hga
 clear a1 r1 t1 hC1 hb1 hri uA uR uC hW0 hga
 go_wp2_with fail
 refine hsw.mono ?_
 rintro e w2 ⟨rfl,hC2,t2⟩
 have hss : Short (sweepL now s.L):=sweep_short hs
 have hsl : (sweepL now s.L).length < 90000:=Nat.lt_of_le_of_lt (List.length_filter_le _ _) hl
 have hU1 : ∀ x ∈ sweepL now s.L,0 ≤ x.unt∧x.unt ≤ 2000000000000:=fun x hx=>hU x (List.mem_filter.1 hx).1
 have hdo : doF bud s c now=doS bud ⟨sweepL now s.L,s.ver,s.gone⟩ c now:=rfl
 have hnO : ∀ k,ga ≤ k→¬ O k:=fun k hk h=>by have:=hLT k h;omega
 obtain ⟨x2,t02⟩:=CaX.step (s:=⟨sweepL now s.L,s.ver,s.gone⟩) (N:=fun k=>k=ga ∨ k=ga + 1) (fun k h=>.inl h) (fun k hk h=>hnO k (by omega) h) (fun k hk=>by omega) (T1.out.mono (fun _ _ h=>h.elim)) (Tch.refl _ w1) t2 hC2
 have a2:=A1.out.tch t2 (hnO _ (by omega))
 have r2:=R1.out.tch t2 (hnO _ (by omega))
 have uA:=a2.facts5
 have uR:=r2.facts5
 have hq2 : ga + 1 < w2.heap.size:=r2.lt
 generalize hs1 : (⟨sweepL now s.L,s.ver,s.gone⟩ : CS)=s1 at x2 hdo
 have hL1 : sweepL now s.L=s1.L:=by rw [← hs1]
 have hv1' : s.ver=s1.ver:=by rw [← hs1]
 have hg1' : s.gone=s1.gone:=by rw [← hs1]
 rw [hL1] at hss hsl hU1
 rw [hv1'] at hv0 hv1
 rw [hg1'] at hg0 hg1
 have HDO:=Lib.hid hdo
 have X2:=Lib.hid x2
 have T2:=Lib.hid t02
 have A2:=Lib.hid a2
 have R2:=Lib.hid r2
 clear x2 t02 a2 r2 hC2 t2 hdo hL1 hv1' hg1' hs1 hsw
 obtain ⟨O5,h5,hO5,nO5⟩:=X2.out
 have hN2 : ∀ k,(k=ga ∨ k=ga + 1)→k < w2.heap.size:=fun k hk=>by omega
 have hLd2 : ∀ W,Tch O5 w2 W→Tch O w W:=fun W tW=>T2.out.trans tW (fun k hk h=>Own.old (hO5 k h) hk)
 have HO5:=Lib.hid hO5
 have HNO:=Lib.hid nO5
 have HLd2:=Lib.hid hLd2
 clear hO5 nO5 hLd2
 have hopc : (c.op=2 ∨ c.op=3 ∨ c.op=4 ∨ c.op=6) ∨ c.op=11 ∨ c.op=12 ∨ c.op=13 ∨ (c.op=1 ∨ c.op=5 ∨ c.op=7 ∨ c.op=8 ∨ c.op=9 ∨ c.op=10):=by omega
 rcases hopc with hop | hop | hop | hop | hop
 ·have hF : doS bud s1 c now=setF bud s1 c now:=by unfold doS;rw [if_pos hop]
  have HF:=Lib.hid hF
  have hcon:=set_gen cb bud s1 O5 c now w2 h5 hss hsl hop hk1 hk2 hb0 hv0 hv1 hg0 hg1 hn0 hn1 hn2
  have hv3:=setF_v bud s1 c now
  clear hF
  rcases hop with hop | hop | hop | hop
  all_goals
   rw [hop] at uA
   go_wp2_with fail
   have hcon':=hcon
   unfold Cm.val at hcon'
   rw [hop] at hcon'
   refine hcon'.mono ?_
   clear hcon hcon'
   rintro e w7 ⟨rfl,hC7,t7⟩
   obtain ⟨x7,t07⟩:=CaX.step (s:=(setF bud s1 c now).2) HO5.out HNO.out hN2 T2.out (Tch.refl _ w2) t7 hC7
   have r7:=R2.out.tch t7 (HNO.out _ (.inr rfl))
   have u7:=r7.facts5
   clear uA uR h5 hC7 t7
   obtain ⟨W9,hW9,a9,x9,t9⟩:=done5X x7 t07 r7 (.inr rfl) q23_ (.int .i64 (setF bud s1 c now).1.e) (.string ⟨#[]⟩) (.int .i64 0) (.int .i64 (setF bud s1 c now).1.ver) (.slice none 0 0)
   have X9:=Lib.hid x9
   have T9:=Lib.hid t9
   have u9:=a9.facts5
   clear x9 t9
   go_wp2
   try rw [hW9]
   refine bodyPost_ret (v:=repA (setF bud s1 c now).1.e ⟨#[]⟩ 0 (setF bud s1 c now).1.ver (.slice none 0 0)) (by simp [results,Tryz.results84,go_sem,u9]) rfl ?_
   rw [HDO.out,HF.out]
   exact ⟨_,none,by rw [hv3.1,hv3.2.1],by rw [hv3.2.2];exact .nil,X9.out.none_,T9.out,fun g h=>by cases h⟩
 ·have hF : doS bud s1 c now=(scanF s1 c,s1):=by unfold doS;rw [if_neg (by omega),if_pos hop]
  have HF:=Lib.hid hF
  have hcon:=scan_gen cb bud s1 O5 c w2 h5 hss hk1 hk2
  have hv3:=scanF_v s1 c
  clear hF
  rw [hop] at uA
  go_wp2_with fail
  unfold Cm.val at hcon
  rw [hop] at hcon
  refine hcon.mono ?_
  clear hcon
  rintro e w7 ⟨vk,rfl,t7,bk,hk7,hbk⟩
  obtain ⟨A,cc,rfl⟩:=hk7.formL
  have x7:=X2.out.fresh.tch t7 (fun _ h=>h.elim)
  have x7' : CaX w w7 O cb bud s1 (fun k=>k=ga + 1 ∨ bk=some k):=x7.sub (fun k hk=>hk.elim (fun e=>.inl (.inr e)) (fun e=>.inr (hbk k e)))
  have t07:=T2.out.trans t7 (fun _ _ h=>h.elim)
  have r7:=R2.out.tch t7 (fun h=>h)
  have u7:=r7.facts5
  have hnk : ∀ g,bk=some g→g ≠ ga + 1:=fun g hg e=>by have:=hbk g hg;omega
  have hwk : ∀ g,bk=some g→w.heap.size ≤ g:=fun g hg=>by have:=hbk g hg;have:=HGA.out;omega
  have t5k:=tch_set5 w7 (ga + 1) (.int .i64 (scanF s1 c).e) (.string ⟨#[]⟩) (.int .i64 0) (.int .i64 0) (.slice A (scanF s1 c).ks.length cc)
  have hk9:=hk7.tch t5k (fun g hg e=>hnk g hg e)
  clear uA uR h5 hk7 t7 x7
  obtain ⟨W9,hW9,a9,x9,t9⟩:=done5X x7' t07 r7 (.inl rfl) q23_ (.int .i64 (scanF s1 c).e) (.string ⟨#[]⟩) (.int .i64 0) (.int .i64 0) (.slice A (scanF s1 c).ks.length cc)
  have X9:=Lib.hid x9
  have hW9':=hW9
  have HW9:=Lib.hid hW9'
  clear hW9'
  have T9:=Lib.hid t9
  have u9:=a9.facts5
  clear x9 t9
  go_wp2
  try rw [hW9]
  refine bodyPost_ret (v:=repA (scanF s1 c).e ⟨#[]⟩ 0 0 (.slice A (scanF s1 c).ks.length cc)) (by simp [results,Tryz.results84,go_sem,u9]) rfl ?_
  rw [HW9.out] at hk9
  rw [HDO.out,HF.out]
  exact ⟨_,bk,by rw [hv3.1,hv3.2.1,hv3.2.2],hk9,X9.out.sub (fun k hk=>.inr hk),T9.out,hwk⟩
 ·have hF : doS bud s1 c now=({ n:=s1.L.length },⟨[],s1.ver,s1.gone⟩):=by unfold doS;rw [if_neg (by omega),if_neg (by omega),if_pos hop]
  have HF:=Lib.hid hF
  rw [hop] at uA
  clear hF
  obtain ⟨tb5,vo5,bo5,ss5,Ot5,h5R⟩:=h5
  have hlen:=fun W (t : Tch (fun _=>False) w2 W)=>len_gen tb5 ss5 (s1.L.length : Int) Ot5 W (h5R.tab.tch t (fun _ _ h=>h))
  have hcell:=h5R.cells
  have hsub:=h5R.oc
  have HCE:=Lib.hid hcell
  have c5:=hcell.facts6
  have hne5 : cb ≠ ga + 1:=fun e=>HNO.out _ (.inr rfl) (e ▸ hsub)
  have hcl2:=hcell.lt
  clear h5R hcell
  have hOcb:=HC.out.own
  have q2:=T2.out.size
  have g1:=((HCE.out.set 1 (.pointer (some ⟨w2.heap.size,0,none⟩))).set 2 (.slice none 0 0)).set 3 (.int .i64 0)
  have k1 : Tch (fun k=>k=cb) w2 (((w2.setCell ⟨cb,1,none⟩ (.pointer (some ⟨w2.heap.size,0,none⟩))).setCell ⟨cb,2,none⟩ (.slice none 0 0)).setCell ⟨cb,3,none⟩ (.int .i64 0)):=((Tch.set w2 ⟨cb,1,none⟩ (.pointer (some ⟨w2.heap.size,0,none⟩))).trans (Tch.set _ ⟨cb,2,none⟩ _) (fun _ _ h=>h)).trans (Tch.set _ ⟨cb,3,none⟩ _) (fun _ _ h=>h)
  have hz1 : (((w2.setCell ⟨cb,1,none⟩ (.pointer (some ⟨w2.heap.size,0,none⟩))).setCell ⟨cb,2,none⟩ (.slice none 0 0)).setCell ⟨cb,3,none⟩ (.int .i64 0)).heap.size=w2.heap.size:=by simp
  have r3:=R2.out.tch k1 (by omega)
  obtain ⟨W3,hW3⟩ : ∃ W3,(((w2.setCell ⟨cb,1,none⟩ (.pointer (some ⟨w2.heap.size,0,none⟩))).setCell ⟨cb,2,none⟩ (.slice none 0 0)).setCell ⟨cb,3,none⟩ (.int .i64 0))=W3:=⟨_,rfl⟩
  rw [hW3] at g1 k1 hz1 r3
  have k2:=tch_set5 W3 (ga + 1) (.int .i64 0) (.string ⟨#[]⟩) (.int .i64 (s1.L.length : Int)) (.int .i64 0) (.slice none 0 0)
  have r4:=at_set5 r3 (.int .i64 0) (.string ⟨#[]⟩) (.int .i64 (s1.L.length : Int)) (.int .i64 0) (.slice none 0 0)
  have g2:=g1.tch k2 hne5
  have hz2 : (((((W3.setCell ⟨ga + 1,0,none⟩ (.int .i64 0)).setCell ⟨ga + 1,1,none⟩ (.string ⟨#[]⟩)).setCell ⟨ga + 1,2,none⟩ (.int .i64 (s1.L.length : Int))).setCell ⟨ga + 1,3,none⟩ (.int .i64 0)).setCell ⟨ga + 1,4,none⟩ (.slice none 0 0)).heap.size=w2.heap.size:=by simp [hz1]
  obtain ⟨W4,hW4⟩ : ∃ W4,(((((W3.setCell ⟨ga + 1,0,none⟩ (.int .i64 0)).setCell ⟨ga + 1,1,none⟩ (.string ⟨#[]⟩)).setCell ⟨ga + 1,2,none⟩ (.int .i64 (s1.L.length : Int))).setCell ⟨ga + 1,3,none⟩ (.int .i64 0)).setCell ⟨ga + 1,4,none⟩ (.slice none 0 0))=W4:=⟨_,rfl⟩
  rw [hW4] at k2 r4 g2 hz2
  have g3:=g2.alloc (.cells (tableV false (.slice none 0 0) 0).toArray TTable)
  have r5:=r4.alloc (.cells (tableV false (.slice none 0 0) 0).toArray TTable)
  have k3 : Tch (fun k=>k=cb ∨ k=ga + 1) w2 (W4.alloc (.cells (tableV false (.slice none 0 0) 0).toArray TTable)):=((k1.mono (fun _ _ h=>.inl h)).trans k2 (fun _ _ h=>.inr h)).talloc
  have e3:=At.new W4 (tableV false (.slice none 0 0) 0).toArray TTable
  rw [hz2] at e3
  have hz5 : (W4.alloc (.cells (tableV false (.slice none 0 0) 0).toArray TTable)).heap.size=w2.heap.size + 1:=by simp [hz2]
  obtain ⟨W5,hW5⟩ : ∃ W5,W4.alloc (.cells (tableV false (.slice none 0 0) 0).toArray TTable)=W5:=⟨_,rfl⟩
  rw [hW5] at g3 r5 k3 e3 hz5
  have hI5 : CaI W5 cb bud [] s1.ver s1.gone (fun k=>k=cb ∨ k=w2.heap.size):=CaI.empty g3 e3
  have t5 : Tch O w W5:=T2.out.trans k3 (fun k hk h=>h.elim (fun e=>e ▸ hOcb) (fun e=>by have:=HGA.out;omega))
  have x5 : CaX w W5 O cb bud ⟨[],s1.ver,s1.gone⟩ (fun k=>(none : Option Nat)=some k):=⟨_,hI5,fun k hk=>hk.elim (fun e=>.inl (e ▸ hOcb)) (fun e=>.inr ⟨by omega,by omega⟩),fun k hk=>by cases hk⟩
  have X5:=Lib.hid x5
  have T5:=Lib.hid t5
  have u9:=r5.facts5
  have hWW : (((((((((w2.setCell ⟨cb,1,none⟩ (.pointer (some ⟨w2.heap.size,0,none⟩))).setCell ⟨cb,2,none⟩ (.slice none 0 0)).setCell ⟨cb,3,none⟩ (.int .i64 0)).setCell ⟨ga + 1,0,none⟩ (.int .i64 0)).setCell ⟨ga + 1,1,none⟩ (.string ⟨#[]⟩)).setCell ⟨ga + 1,2,none⟩ (.int .i64 (s1.L.length : Int))).setCell ⟨ga + 1,3,none⟩ (.int .i64 0)).setCell ⟨ga + 1,4,none⟩ (.slice none 0 0)).alloc (.cells (tableV false (.slice none 0 0) 0).toArray TTable))=W5:=by rw [← hW5,← hW4,← hW3]
  have HWW:=Lib.hid hWW
  clear x5 t5 hI5 g1 g2 g3 k1 k2 k3 r3 r4 r5 e3 hz1 hz2 hz5 hW3 hW4 hW5 hWW q2
  go_wp2_with (first | (go_at_call 117;refine (hlen _ (Tch.refl _ _)).mono ?_;rintro e w' ⟨rfl,hw'⟩;obtain rfl:=hw'.symm) | (go_at_call 78;refine (table_new _).mono ?_;rintro e w' ⟨rfl,rfl⟩))
  rw [HWW.out]
  refine bodyPost_ret (v:=repA 0 ⟨#[]⟩ (s1.L.length : Int) 0 (.slice none 0 0)) (by simp [results,Tryz.results84,go_sem,u9]) rfl ?_
  rw [HDO.out,HF.out]
  exact ⟨_,none,rfl,.nil,X5.out,T5.out,fun g h=>by cases h⟩
 ·have hF : doS bud s1 c now=({ n:=s1.L.length,ver:=usedL s1.L },s1):=by unfold doS;rw [if_neg (by omega),if_neg (by omega),if_neg (by omega),if_pos hop]
  have HF:=Lib.hid hF
  rw [hop] at uA
  clear hF
  obtain ⟨tb5,vo5,bo5,ss5,Ot5,h5R⟩:=h5
  have hlen:=fun W (t : Tch (fun _=>False) w2 W)=>len_gen tb5 ss5 (s1.L.length : Int) Ot5 W (h5R.tab.tch t (fun _ _ h=>h))
  have hcell:=h5R.cells
  have c5:=hcell.facts6
  clear h5R
  have mk : ∀ W' : World,Tch (fun _=>False) w2 W'→(W'.cell? ⟨cb,1,none⟩=some (.pointer (some ⟨tb5,0,none⟩))∧W'.cell? ⟨cb,3,none⟩=some (.int .i64 (usedL s1.L))):=fun W' t=>⟨(hcell.tch t (fun h=>h)).cell 1 rfl,(hcell.tch t (fun h=>h)).cell 3 rfl⟩
  have u7:=R2.out.drew.facts5
  go_wp2
  refine start_ (n:=11) (S:=fun W'=>W'.cell? ⟨cb,1,none⟩=some (.pointer (some ⟨tb5,0,none⟩))∧W'.cell? ⟨cb,3,none⟩=some (.int .i64 (usedL s1.L))) (ds:=[10]) _ (by kernel_rfl) rfl rfl (mk _ (Tch.drew _ _)) (fun hHeld=>?_)
  refine pu_ 0 (some 70) ?_
  refine pu_ 1 (some 71) ?_
  refine pu_ 2 (some 72) ?_
  refine pu_ 5 (some 75) ?_
  refine pu_ 6 (some 76) ?_
  refine pu_ 7 (some 77) ?_
  refine ta_ 3 (some 73) hHeld ?_
  refine ta_ 8 (some 78) hHeld ?_
  refine on_ 4 (some 74) fun K hK=>?_
  go_simp;go_at_call 117;refine (hlen _ (Tch.drew _ _)).mono ?_;rintro e w7 ⟨rfl,hw7⟩;subst hw7;go_simp
  refine hK.out _ _ (mk _ (Tch.drew _ _)) (fun hHeld2_=>?_)
  clear hK K hHeld;have hHeld:=hHeld2_;clear hHeld2_
  refine nm_ (some 74) ?_
  refine pu_ 9 (some 79) ?_
  refine la_ 10 none fun K hK=>?_
  refine skip_ (w1:=?_) (by rfl) rfl ?_ ?_;rotate_left;· (go_simp;rfl)
  refine hK.out _ _ ?_
  clear hK K
  refine nm_ none ?_
  refine done_ (by kernel_rfl) ?_;clear hHeld
  obtain ⟨W9,hW9,a9,x9,t9⟩:=done5X X2.out T2.out R2.out (.inr rfl) q23_ (.int .i64 0) (.string ⟨#[]⟩) (.int .i64 (s1.L.length : Int)) (.int .i64 (usedL s1.L)) (.slice none 0 0)
  have X9:=Lib.hid (x9.tch (Tch.drew (fun _=>False) W9) (fun _ h=>h.elim))
  have T9:=Lib.hid t9.tdrew
  have u9:=a9.drew.facts5
  clear x9 t9
  try rw [hW9]
  go_wp2
  refine bodyPost_ret (v:=repA 0 ⟨#[]⟩ (s1.L.length : Int) (usedL s1.L) (.slice none 0 0)) (by simp [results,Tryz.results84,go_sem,u9]) rfl ?_
  rw [HDO.out,HF.out]
  exact ⟨_,none,rfl,.nil,X9.out.none_,T9.out,fun g h=>by cases h⟩
 ·have hF : doS bud s1 c now=itemF bud s1 c now:=by unfold doS;rw [if_neg (by omega),if_neg (by omega),if_neg (by omega),if_neg (by omega)]
  have HF:=Lib.hid hF
  have hcon:=item_gen cb bud s1 O5 c now w2 h5 (fun h7 W tW=>hLd h7 W (HLd2.out W tW)) hss hsl hU1 hop hk1 hk2 hb0 hv0 hv1 hg0 hg1 hn0 hn1 hn2 hn3
  have hv3:=itemF_v bud s1 c now
  clear hF
  rcases hop with hop | hop | hop | hop | hop | hop
  all_goals
   rw [hop] at uA
   go_wp2_with fail
   have hcon':=hcon
   unfold Cm.val at hcon'
   rw [hop] at hcon'
   refine hcon'.mono ?_
   clear hcon hcon'
   rintro e w7 ⟨rfl,hC7,t7⟩
   obtain ⟨x7,t07⟩:=CaX.step (s:=(itemF bud s1 c now).2) HO5.out HNO.out hN2 T2.out (Tch.refl _ w2) t7 hC7
   have r7:=R2.out.tch t7 (HNO.out _ (.inr rfl))
   have u7:=r7.facts5
   clear uA uR h5 hC7 t7
   obtain ⟨W9,hW9,a9,x9,t9⟩:=done5X x7 t07 r7 (.inr rfl) q23_ (.int .i64 (itemF bud s1 c now).1.e) (.string (itemF bud s1 c now).1.v) (.int .i64 (itemF bud s1 c now).1.n) (.int .i64 (itemF bud s1 c now).1.ver) (.slice none 0 0)
   have X9:=Lib.hid x9
   have T9:=Lib.hid t9
   have u9:=a9.facts5
   clear x9 t9
   go_wp2
   try rw [hW9]
   refine bodyPost_ret (v:=repA (itemF bud s1 c now).1.e (itemF bud s1 c now).1.v (itemF bud s1 c now).1.n (itemF bud s1 c now).1.ver (.slice none 0 0)) (by simp [results,Tryz.results84,go_sem,u9]) rfl ?_
   rw [HDO.out,HF.out]
   exact ⟨_,none,rfl,by rw [hv3];exact .nil,X9.out.none_,T9.out,fun g h=>by cases h⟩
end Go.Proofs.YtkekohmkaefdnaaGreatDoor
namespace Go.Proofs.YtkekohmkaefdnaaGreatDoor
open Go.RowKit Go.Maps Go.Shelf Go.Proofs.YtkekohmkaefdnaaGreatDoorW.PrintWords
attribute [local go_sem ↓] Go.wp_at_zero Go.wp_at_succ
def toldB (e : Int) (v : ByteArray) (n ver : Int) (ks : List ByteArray) : Bool:=decide (Rq.RepP e v n ver ks) && decide (20 + v.size + (Rq.keysL ks).length ≤ 2046)
def bytesF (e : Int) (v : ByteArray) (n ver : Int) (ks : List ByteArray) : ByteArray:=if Rq.RepP e v n ver ks then Rq.repS e v n ver ks else ⟨#[]⟩
theorem bytes_gen (e : Int) (v : ByteArray) (n ver : Int) (A : Option Addr) (c : Nat) (l : List ByteArray) (w : World) (hC : Kd.C Kd.string w A l.length l) (hc : l.length ≤ c) :
  Calls Tryz.prog 85 #[.agg #[.int .i64 e,.string v,.int .i64 n,.int .i64 ver,.slice A l.length c]] w fun x w'=>x=.returned (.tuple #[.string (bytesF e v n ver l),.bool (toldB e v n ver l)])∧Below w.heap.size w w':=by
 have ca : At (w.alloc (.cells #[.int .i64 e,.string v,.int .i64 n,.int .i64 ver,.slice A l.length c] TReply)) w.heap.size [.int .i64 e,.string v,.int .i64 n,.int .i64 ver,.slice A l.length c] TReply:=At.new w _ _
 have hb0 : Below w.heap.size w (w.alloc (.cells #[.int .i64 e,.string v,.int .i64 n,.int .i64 ver,.slice A l.length c] TReply)):=(Below.refl _ w).alloc (Nat.le_refl _) _
 have hC0:=Kd.C_below hC hb0
 obtain ⟨W0,hW0⟩ : ∃ W0,w.alloc (.cells #[.int .i64 e,.string v,.int .i64 n,.int .i64 ver,.slice A l.length c] TReply)=W0:=⟨_,rfl⟩
 rw [hW0] at ca hb0 hC0
 have u:=ca.facts5
 have HB0:=Lib.hid hb0
 clear ca hC hb0
 by_cases hR : Rq.RepP e v n ver l
 ·have hs:=Rq.repS_size e v n ver l
  have hpr:=Rq.command_PutReply.calls e v n ver A c l (Rq.repS e v n ver l) true W0 hC0 hc (by unfold Rq.command_PutReply.f;rw [if_pos hR])
  have hsz : (Rq.repS e v n ver l).size ≤ 100000:=by
   rw [hs]
   have h1:=Rq.keysL_len l hR.2.2.2.2.2
   have h2:=hR.2.2.2.1
   have h3:=hR.2.2.2.2.1
   omega
  have hF : bytesF e v n ver l=Rq.repS e v n ver l:=by unfold bytesF;rw [if_pos hR]
  have hT : toldB e v n ver l=decide ((Rq.repS e v n ver l).size ≤ 2046):=by unfold toldB;rw [decide_eq_true hR,Bool.true_and,hs]
  rw [hF,hT]
  generalize Rq.repS e v n ver l=bs at hpr hsz
  have hpd:=fun W=>pad_gen bs W hsz
  generalize (if bs.size ≤ 2046 then padF bs else ⟨#[]⟩)=pb at hpd
  generalize decide (bs.size ≤ 2046)=tb at hpd
  clear hs hF hT hR hC0
  go_enter Tryz.func85,Tryz.ntmps85
  go_wp2_with (first | (go_at_call 119;refine hpr.mono ?_;rintro x w1 ⟨rfl,hb1⟩) | (go_at_call 120;refine (hpd _).mono ?_;rintro x w2 ⟨rfl,hb2⟩))
  go_ret2
  exact ⟨rfl,HB0.out.trans ((hb1.trans (hb2.mono hb1.size)).mono HB0.out.size)⟩
 ·have hpr:=Rq.command_PutReply.calls e v n ver A c l ⟨#[]⟩ false W0 hC0 hc (by unfold Rq.command_PutReply.f;rw [if_neg hR])
  have hF : bytesF e v n ver l=⟨#[]⟩:=by unfold bytesF;rw [if_neg hR]
  have hT : toldB e v n ver l=false:=by unfold toldB;rw [decide_eq_false hR];rfl
  rw [hF,hT]
  clear hF hT hR hC0
  go_enter Tryz.func85,Tryz.ntmps85
  go_wp2_with (first | (go_at_call 119;refine hpr.mono ?_;rintro x w1 ⟨rfl,hb1⟩))
  go_ret2
  exact ⟨rfl,HB0.out.trans (hb1.mono HB0.out.size)⟩
def toldV (e : Int) (v : ByteArray) (n ver : Int) (A : Option Addr) (c : Nat) (l : List ByteArray) : Value:=if toldB e v n ver l=true then repA e v n ver (.slice A l.length c) else repA 13 ⟨#[]⟩ 0 0 (.slice none 0 0)
theorem told_gen (e : Int) (v : ByteArray) (n ver : Int) (A : Option Addr) (c : Nat) (l : List ByteArray) (w : World) (hC : Kd.C Kd.string w A l.length l) (hc : l.length ≤ c) :
  Calls Tryz.prog 40 #[.agg #[.int .i64 e,.string v,.int .i64 n,.int .i64 ver,.slice A l.length c]] w fun x w'=>x=.returned (toldV e v n ver A c l)∧Below w.heap.size w w':=by
 obtain ⟨W0,hW0,ta,ca,cr,hsz⟩:=two_blocks w #[.int .i64 e,.string v,.int .i64 n,.int .i64 ver,.slice A l.length c] TReply #[.int .i64 0,.string ⟨#[]⟩,.int .i64 0,.int .i64 0,.slice none 0 0] TReply
 have hC0:=Kd.C_below hC (ta.below' (fun _ h=>h.elim))
 have hby:=bytes_gen e v n ver A c l W0 hC0 hc
 have uA:=ca.facts5
 have uR:=cr.facts5
 have hgl:=cr.lt
 have CA:=Lib.hid ca
 have CR:=Lib.hid cr
 have TA:=Lib.hid ta
 have HSZ:=Lib.hid hsz
 clear ca cr ta hsz hC hC0
 generalize bytesF e v n ver l=bs at hby
 cases hT : toldB e v n ver l with
 | true=>
  have hV : toldV e v n ver A c l=repA e v n ver (.slice A l.length c):=by unfold toldV;rw [if_pos hT]
  rw [hV]
  rw [hT] at hby
  clear hV hT
  go_enter Tryz.func40,Tryz.ntmps40
  go_wp2_with fail
  try rw [hW0]
  refine hby.mono ?_
  rintro x w1 ⟨rfl,hb1⟩
  have a1:=CA.out.abelow hb1
  have r1:=CR.out.abelow hb1
  have u1:=a1.facts5
  have v1:=r1.facts5
  have t9:=(TA.out.tbelow hb1).tset5 (g:=w.heap.size + 1) (by omega) (.int .i64 e) (.string v) (.int .i64 n) (.int .i64 ver) (.slice A l.length c)
  have a9:=at_set5 r1 (.int .i64 e) (.string v) (.int .i64 n) (.int .i64 ver) (.slice A l.length c)
  obtain ⟨W9,hW9⟩ : ∃ W9,(((((w1.setCell ⟨w.heap.size + 1,0,none⟩ (.int .i64 e)).setCell ⟨w.heap.size + 1,1,none⟩ (.string v)).setCell ⟨w.heap.size + 1,2,none⟩ (.int .i64 n)).setCell ⟨w.heap.size + 1,3,none⟩ (.int .i64 ver)).setCell ⟨w.heap.size + 1,4,none⟩ (.slice A l.length c))=W9:=⟨_,rfl⟩
  rw [hW9] at t9 a9
  have u9:=a9.facts5
  have T9:=Lib.hid t9
  clear t9 a9 a1 r1 hb1 hby uA uR hW0
  go_wp2
  try rw [hW9]
  refine bodyPost_ret (v:=repA e v n ver (.slice A l.length c)) (by simp [results,Tryz.results40,go_sem,u9]) rfl ⟨rfl,T9.out.below' (fun _ h=>h.elim)⟩
 | false=>
  have hV : toldV e v n ver A c l=repA 13 ⟨#[]⟩ 0 0 (.slice none 0 0):=by unfold toldV;rw [if_neg (by rw [hT];simp)]
  rw [hV]
  rw [hT] at hby
  clear hV hT
  go_enter Tryz.func40,Tryz.ntmps40
  go_wp2_with fail
  try rw [hW0]
  refine hby.mono ?_
  rintro x w1 ⟨rfl,hb1⟩
  have r1:=CR.out.abelow hb1
  have v1:=r1.facts5
  have t9:=(TA.out.tbelow hb1).tset5 (g:=w.heap.size + 1) (by omega) (.int .i64 13) (.string ⟨#[]⟩) (.int .i64 0) (.int .i64 0) (.slice none 0 0)
  have a9:=at_set5 r1 (.int .i64 13) (.string ⟨#[]⟩) (.int .i64 0) (.int .i64 0) (.slice none 0 0)
  obtain ⟨W9,hW9⟩ : ∃ W9,(((((w1.setCell ⟨w.heap.size + 1,0,none⟩ (.int .i64 13)).setCell ⟨w.heap.size + 1,1,none⟩ (.string ⟨#[]⟩)).setCell ⟨w.heap.size + 1,2,none⟩ (.int .i64 0)).setCell ⟨w.heap.size + 1,3,none⟩ (.int .i64 0)).setCell ⟨w.heap.size + 1,4,none⟩ (.slice none 0 0))=W9:=⟨_,rfl⟩
  rw [hW9] at t9 a9
  have u9:=a9.facts5
  have T9:=Lib.hid t9
  clear t9 a9 r1 hb1 hby uA uR hW0
  go_wp2
  try rw [hW9]
  refine bodyPost_ret (v:=repA 13 ⟨#[]⟩ 0 0 (.slice none 0 0)) (by simp [results,Tryz.results40,go_sem,u9]) rfl ⟨rfl,T9.out.below' (fun _ h=>h.elim)⟩
end Go.Proofs.YtkekohmkaefdnaaGreatDoor
