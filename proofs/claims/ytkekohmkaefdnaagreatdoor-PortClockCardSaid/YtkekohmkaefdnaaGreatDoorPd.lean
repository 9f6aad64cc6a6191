import Derived.Test.YtkekohmkaefdnaaGreatDoorHp
import Derived.Test.YtkekohmkaefdnaaGreatDoorNw
import Derived.ArgAppend
import Derived.IntWalk
import Derived.Test.YtkekohmkaefdnaaGreatDoorTe
set_option linter.unusedSimpArgs false
set_option linter.unusedVariables false
namespace Go.Proofs.YtkekohmkaefdnaaGreatDoor
open Go.RowKit
structure Nt where
 u : ByteArray
 op : Int
 k : ByteArray
 al : Bool
namespace Nt
def cells (x : Nt) : List Value:=[.string x.u,.int .i64 x.op,.string x.k,.bool x.al]
abbrev val (x : Nt) : Value:=.agg #[.string x.u,.int .i64 x.op,.string x.k,.bool x.al]
end Nt
def rowN : List Nt→List Value
 | []=>[]
 | x :: l=>x.cells ++ rowN l
theorem rowN_length (l : List Nt) : (rowN l).length=4 * l.length:=by
 induction l with
 | nil=>rfl
 | cons x l ih=>rw [rowN,List.length_append,ih,List.length_cons,show x.cells.length=4 from rfl];omega
theorem rowN_append (l m : List Nt) : rowN (l ++ m)=rowN l ++ rowN m:=by
 induction l with
 | nil=>rfl
 | cons x l ih=>rw [List.cons_append,rowN,ih,rowN,List.append_assoc]
theorem rowN_one (x : Nt) : rowN [x]=x.cells:=by rw [rowN,rowN,List.append_nil]
inductive NtIs (w : World) : Value→List Nt→Option Nat→Prop
 | nil : NtIs w (.slice none 0 0) [] none
 | row (l : List Nt) (b q c : Nat) (pre zs : List Value) (h : At w b (pre ++ (rowN l ++ zs)) TNote) (hp : pre.length=q) (hc : l.length ≤ c) (hz : zs.length=4 * (c - l.length)) : NtIs w (.slice (some ⟨b,q,none⟩) l.length c) l (some b)
theorem NtIs.tch {w w1 : World} {v : Value} {l : List Nt} {b : Option Nat} {S : Nat→Prop} (h : NtIs w v l b) (t : Tch S w w1) (hb : ∀ g,b=some g→¬ S g) : NtIs w1 v l b:=by
 cases h with
 | nil=>exact .nil
 | row l b q c pre zs h hp hc hz=>exact .row l b q c pre zs (h.tch t (hb b rfl)) hp hc hz
theorem NtIs.lt {w : World} {v : Value} {l : List Nt} {g : Nat} (h : NtIs w v l (some g)) : g < w.heap.size:=by
 cases h with
 | row l b q c pre zs h hp hc hz=>exact h.lt
theorem NtIs.ne {w : World} {v : Value} {l : List Nt} {b : Option Nat} {k t : Nat} {cs : List Value} (h : NtIs w v l b) (hk : At w k cs t) (ht : t ≠ TNote) : b ≠ some k:=by
 intro e
 subst e
 cases h with
 | row l g q c pre zs h6 _ _ _=>exact at_ne2 h6 hk (fun e=>ht e.symm) rfl
theorem NtIs.of_own {w : World} {base : Nat} {v : Value} {l : List Nt} (hl : l ≠ []) (h : w.ownsRow base TNote 4 v l.length (rowN l)) : ∃ b,base ≤ b∧v.ownBlock=some b∧NtIs w v l (some b):=by
 obtain ⟨hl',⟨rfl,h0⟩ | ⟨g,cap,cur,rfl,hb,hh,hc,hm,hs,ht⟩⟩:=h
 ·exact absurd (List.length_eq_zero_iff.1 h0) hl
 ·refine ⟨g,hb,rfl,.row l g 0 cap [] (cur.toList.drop (l.length * 4)) ?_ rfl hc ?_⟩
  ·have e : rowN l ++ cur.toList.drop (l.length * 4)=cur.toList:=by rw [← ht,List.take_append_drop]
   unfold At
   rw [List.nil_append,e]
   exact hh
  ·rw [List.length_drop,Array.length_toList,hs];omega
theorem set4_in {A R : List Value} {z0 z1 z2 z3 x0 x1 x2 x3 : Value} {q : Nat} (h : A.length=q) : ((((A ++ z0 :: z1 :: z2 :: z3 :: R).set q x0).set (q + 1) x1).set (q + 2) x2).set (q + 3) x3=A ++ x0 :: x1 :: x2 :: x3 :: R:=by
 subst h
 rw [List.set_append_right _ _ (by omega),List.set_append_right _ _ (by omega),List.set_append_right _ _ (by omega),List.set_append_right _ _ (by omega)]
 simp
theorem NtIs.formB {w : World} {v : Value} {l : List Nt} {b : Nat} (h : NtIs w v l (some b)) : ∃ q c,v=.slice (some ⟨b,q,none⟩) l.length c:=by
 cases h with
 | row l b q c pre zs h hp hc hz=>exact ⟨q,c,rfl⟩
theorem NtIs.drop {w : World} {y : Nt} {l : List Nt} {b q c n : Nat} (hn : n=l.length) (h : NtIs w (.slice (some ⟨b,q,none⟩) (n + 1) c) (y :: l) (some b)) : NtIs w (.slice (some ⟨b,q + 4,none⟩) n (c - 1)) l (some b)∧n + 1 ≤ c:=by
 subst hn
 generalize hv : (Value.slice (some ⟨b,q,none⟩) (l.length + 1) c)=v at h
 generalize hL : y :: l=L at h
 cases h with
 | row L b' q' c' pre zs h hp hc hz=>
  subst hL
  cases hv
  rw [List.length_cons] at hc hz
  refine ⟨.row l b (q + 4) (c - 1) (pre ++ y.cells) zs ?_ (by rw [List.length_append,hp];rfl) (by omega) (by omega),hc⟩
  rw [List.append_assoc,← List.append_assoc y.cells]
  exact h
theorem run_append_note (w : World) {v : Value} {l : List Nt} {b : Option Nat} (hv : NtIs w v l b) (x : Nt) (ty : Nat) (ad : Addr) (c' : Nat) (hx : ∀ j u,x.cells[j]? = some u→w.cell? (ad.add j)=some u) (hl : l.length ≤ 1000) :
  ∃ (v' : Value) (b' : Nat) (w' : World),(Builtin.append_ #[60,60] ty #[v,.slice (some ad) 1 c']).run Tryz.prog w=.ok v' w'∧NtIs w' v' (l ++ [x]) (some b')∧(b=some b' ∨ w.heap.size ≤ b')∧Tch (fun k=>b=some k) w w':=by
 obtain ⟨i0,hi,hz0,hz1,hz2⟩:=info_parts info_note
 have h1 : ∀ u ∈ x.cells,u.oneCell'=true:=by
  intro u hu
  simp only [Nt.cells,List.mem_cons,List.not_mem_nil,or_false] at hu
  rcases hu with rfl | rfl | rfl | rfl <;> rfl
 have hcap : l.length + 1 ≤ maxLen:=by unfold maxLen;omega
 have hrow : ∀ m : List Value,rowN l ++ x.cells=rowN (l ++ [x]):=fun _=>by rw [rowN_append,rowN_one]
 cases hv with
 | nil=>
  obtain ⟨g,cap,w',hr,hown,hgr,hat,hlt⟩:=run_append_lies (P:=Tryz.prog) w 60 ty 0 TNote i0 _ 4 48 (Tryz.underlying60) hi hz0 hz1 hz2 rfl (by decide) (.slice none 0 0) 0 [] (World.ownsRow_nil _ _ _ _) ad 1 c' x.cells rfl hx h1 (by decide) hcap (by decide) (Nat.zero_le _) w.heap.size rfl
  obtain ⟨b',hb',hob,hN⟩:=NtIs.of_own (l:=[x]) (by simp) (by rw [rowN_one];exact hown)
  refine ⟨_,b',w',hr,hN,.inr ?_,Tch.of_grown hgr⟩
  have e : g=b':=by simpa [Value.ownBlock] using hob
  rcases hat with h | h
  ·simp [Value.ownBlock] at h
  ·omega
 | row l b q c pre zs hb hp hc hz=>
  by_cases hroom : l.length + 1 ≤ c
  ·have hlen : x.cells.length=1 * i0.size:=by rw [hz1];rfl
   have hcell : ∀ j,j < x.cells.length→(w.cell? ⟨b,q + l.length * i0.size + j,none⟩).isSome=true:=fun j hj=>by
    have hj' : j < 4:=hj
    have hlt : q + l.length * i0.size + j < (pre ++ (rowN l ++ zs)).length:=by
     rw [List.length_append,List.length_append,rowN_length,hz1]
     omega
    rw [hb.cell _ (List.getElem?_eq_getElem hlt)]
    rfl
   have hr:=run_append_room_cells (P:=Tryz.prog) w 60 ty TNote i0 (Tryz.underlying60) hi b q l.length c ad 1 c' x.cells hlen hx h1 hroom hcell (fun j _=>hb.frozen _)
   refine ⟨_,b,_,hr,?_,.inl rfl,(tch_setCells x.cells w b (q + l.length * i0.size)).mono (fun k _ e=>by rw [e])⟩
   obtain ⟨z0,z1,z2,z3,zs',rfl⟩ : ∃ z0 z1 z2 z3 zs',zs=z0 :: z1 :: z2 :: z3 :: zs':=by
    match zs,hz with
    | z0 :: z1 :: z2 :: z3 :: zs',_=>exact ⟨_,_,_,_,_,rfl⟩
    | [],h=>simp at h;omega
    | [_],h=>simp at h;omega
    | [_,_],h=>simp at h;omega
    | [_,_,_],h=>simp at h;omega
   have hq : q + l.length * i0.size=q + 4 * l.length:=by rw [hz1,Nat.mul_comm]
   rw [hq]
   have hA : (pre ++ rowN l).length=q + 4 * l.length:=by rw [List.length_append,rowN_length,hp]
   have h4:=(((hb.set (q + 4 * l.length) (.string x.u)).set (q + 4 * l.length + 1) (.int .i64 x.op)).set (q + 4 * l.length + 2) (.string x.k)).set (q + 4 * l.length + 3) (.bool x.al)
   rw [← List.append_assoc,set4_in hA] at h4
   have h5:=NtIs.row (w:=w.setCells b (q + 4 * l.length) x.cells) (l ++ [x]) b q c pre zs' (by
    rw [rowN_append,rowN_one]
    have e : pre ++ (rowN l ++ x.cells ++ zs')=pre ++ rowN l ++ (.string x.u) :: (.int .i64 x.op) :: (.string x.k) :: (.bool x.al) :: zs':=by
     simp [Nt.cells]
    rw [e]
    exact h4) hp (by rw [List.length_append,List.length_singleton];exact hroom) (by
    rw [List.length_append,List.length_singleton]
    simp only [List.length_cons] at hz
    omega)
   rw [List.length_append,List.length_singleton] at h5
   exact h5
  ·have holds : ∀ j u,(rowN l)[j]? = some u→w.cell? ((⟨b,q,none⟩ : Addr).add j)=some u:=fun j u hu=>by
    have hadd : (⟨b,q,none⟩ : Addr).add j=⟨b,q + j,none⟩:=by unfold Addr.add;split <;> simp_all
    rw [hadd]
    refine hb.cell _ ?_
    rw [List.getElem?_append_right (by omega),hp,Nat.add_sub_cancel_left,List.getElem?_append_left (by
     obtain ⟨hlt,_⟩:=List.getElem?_eq_some_iff.1 hu
     exact hlt)]
    exact hu
   obtain ⟨v',w',hr,hown,hgr⟩:=run_append_arg_grows (P:=Tryz.prog) w 60 ty TNote i0 _ 4 48 (Tryz.underlying60) hi hz0 hz1 hz2 rfl (by decide) ⟨b,q,none⟩ l.length c (rowN l) (by rw [rowN_length,Nat.mul_comm]) holds ad 1 c' x.cells rfl hx (by omega) hcap (by omega)
   obtain ⟨b',hb',hob,hN⟩:=NtIs.of_own (l:=l ++ [x]) (by simp) (by rw [rowN_append,rowN_one,List.length_append,List.length_singleton];exact hown)
   exact ⟨v',b',w',hr,hN,.inr hb',(Tch.of_grown hgr).mono (fun k _ h=>by cases h)⟩
theorem step_append_note {ops : Array Oper} {o : Oper} {a : Act} {w : World} {K : Act→World→Prop} {Q : Exit→Act→World→Prop} {E : Prop} (hgd : o.guard=none) (s x : Operand)
  (ho : o.op=.call { callee:=.builtin .append,args:=#[s,x],argTypes:=#[60,60] })
  {v : Value} {l : List Nt} {b : Option Nat} (hs : a.eval s=v) (hv : NtIs w v l b) (y : Nt) (ad : Addr) (c' : Nat) (hx : a.eval x=.slice (some ad) 1 c') (hy : ∀ j u,y.cells[j]? = some u→w.cell? (ad.add j)=some u) (hl : l.length ≤ 1000)
  (h : ∀ (q c b' : Nat) (w' : World),NtIs w' (.slice (some ⟨b',q,none⟩) (l.length + 1) c) (l ++ [y]) (some b')→(b=some b' ∨ w.heap.size ≤ b')→Tch (fun k=>b=some k) w w'→K (a.put o.dst (.slice (some ⟨b',q,none⟩) (l.length + 1) c)) w') :
  if Region.wanted o (yielded ops a.tmps)=true then Oper.wp Tryz.prog o a w K Q else E:=by
 have hw : Region.wanted o (yielded ops a.tmps)=true:=by simp [Region.wanted,hgd]
 rw [if_pos hw]
 obtain ⟨v',b',w',hr,h2,h3,h4⟩:=run_append_note w hv y o.type ad c' hy hl
 obtain ⟨q,c,rfl⟩:=h2.formB
 rw [List.length_append,List.length_singleton] at hr h2
 unfold Oper.wp execOp
 simp only [ho,resolve,invoke,builtin,Sem.run_bind,Sem.run_pure,Result.andThen_ok,List.map_toArray,List.map_cons,List.map_nil,hs,hx,hr]
 exact h q c b' w' h2 h3 h4
end Go.Proofs.YtkekohmkaefdnaaGreatDoor
namespace Go.Proofs.YtkekohmkaefdnaaGreatDoor
open Go.RowKit Go.Maps Go.Shelf Go.Proofs.YtkekohmkaefdnaaGreatDoorW.PrintWords Go.Proofs.YtkekohmkaefdnaaGreatDoorW.PrintLast
attribute [local go_sem ↓] Go.wp_at_zero Go.wp_at_succ
def addL (most : Nat) (l : List Nt) (x : Nt) : List Nt:=(l ++ [x]).drop (l.length + 1 - most)
def RiI (w : World) (rb most : Nat) (l : List Nt) (total : Int) (O : Nat→Prop) : Prop:=∃ v b,At w rb (ringV (most : Int) v total) TRing∧NtIs w v l b∧O rb∧(∀ g,b=some g→O g)∧∀ k,O k→k < w.heap.size
theorem NtIs.fits {w : World} {A : Option Addr} {n c : Nat} {l : List Nt} {b : Option Nat} (h : NtIs w (.slice A n c) l b) : n ≤ c∧n=l.length:=by
 generalize hv : (Value.slice A n c)=v at h
 cases h with
 | nil=>cases hv;exact ⟨Nat.le_refl _,rfl⟩
 | row l b' q' c' pre zs h hp hc hz=>cases hv;exact ⟨hc,rfl⟩
theorem RiI.lt {w : World} {rb most : Nat} {l : List Nt} {total : Int} {O : Nat→Prop} (h : RiI w rb most l total O) : ∀ k,O k→k < w.heap.size:=by
 obtain ⟨_,_,_,_,_,_,h⟩:=h
 exact h
theorem RiI.tch {w w1 : World} {rb most : Nat} {l : List Nt} {total : Int} {O S : Nat→Prop} (h : RiI w rb most l total O) (t : Tch S w w1) (hd : ∀ k,O k→¬ S k) : RiI w1 rb most l total O:=by
 obtain ⟨v,b,h1,h2,h3,h4,h5⟩:=h
 exact ⟨v,b,h1.tch t (hd _ h3),h2.tch t (fun g hg=>hd _ (h4 g hg)),h3,h4,fun k hk=>t.lt (h5 k hk)⟩
set_option maxHeartbeats 4000000 in
set_option maxRecDepth 100000 in
theorem ring_gen (rb most : Nat) (l : List Nt) (total : Int) (O : Nat→Prop) (x : Nt) (w : World) (hR : RiI w rb most l total O) (hm0 : 1 ≤ most) (hm1 : most ≤ 50) (hl : l.length ≤ most) (ht0 : 0 ≤ total) (ht1 : total ≤ 1000000000) :
  Calls Tryz.prog 83 #[.pointer (some ⟨rb,0,none⟩),x.val] w fun e w'=>e=.returned (.tuple #[])∧RiI w' rb most (addL most l x) (total + 1) (Own O w w')∧Tch O w w':=by
 have hLT:=hR.lt
 obtain ⟨v,b,hr,hn,hO1,hO2,_⟩:=hR
 have hrl:=hr.lt
 have t0 : Tch (fun _=>False) w (w.alloc (.cells #[.string x.u,.int .i64 x.op,.string x.k,.bool x.al] TNote)):=(Tch.refl _ w).talloc
 have ca : At (w.alloc (.cells #[.string x.u,.int .i64 x.op,.string x.k,.bool x.al] TNote)) w.heap.size x.cells TNote:=At.new w _ _
 obtain ⟨W0,hW0⟩ : ∃ W0,w.alloc (.cells #[.string x.u,.int .i64 x.op,.string x.k,.bool x.al] TNote)=W0:=⟨_,rfl⟩
 rw [hW0] at t0 ca
 have hr0:=hr.tch t0 (fun h=>h)
 have hn0:=hn.tch t0 (fun _ _ h=>h)
 have hadd:=i64_add ⟨rb,2,none⟩ total 1 (total + 1) W0 (hr0.cell 2 rfl) (hr0.frozen 2) q43_
 have hr1 : At (W0.setCell ⟨rb,2,none⟩ (.int .i64 (total + 1))) rb (ringV (most : Int) v (total + 1)) TRing:=hr0.set 2 (.int .i64 (total + 1))
 have hne : w.heap.size ≠ rb:=by omega
 have ca1:=ca.other ⟨rb,2,none⟩ (.int .i64 (total + 1)) hne
 have hbr : b ≠ some rb:=hn.ne hr (by decide)
 have hn1:=hn0.tch (Tch.set W0 ⟨rb,2,none⟩ (.int .i64 (total + 1))) (fun g hg e=>hbr (hg.trans (congrArg some e)))
 have t1 : Tch O w (W0.setCell ⟨rb,2,none⟩ (.int .i64 (total + 1))):=(t0.mono (fun _ _ h=>h.elim)).tset (fun _=>hO1)
 obtain ⟨W1,hW1⟩ : ∃ W1,W0.setCell ⟨rb,2,none⟩ (.int .i64 (total + 1))=W1:=⟨_,rfl⟩
 rw [hW1] at hr1 ca1 t1 hn1
 have hrl1:=hr1.lt
 have hal1:=ca1.lt
 have hbw : ∀ g,b=some g→g < w.heap.size:=fun g hg=>hLT g (hO2 g hg)
 have T1:=Lib.hid t1
 have R1:=Lib.hid hr1
 have A1:=Lib.hid ca1
 have N1:=Lib.hid hn1
 clear hr t0 ca hr0 hr1 ca1 t1 hn hn0 hn1
 go_enter Tryz.func83,Tryz.ntmps83
 go_wp2_with (go_at_call 55;refine hadd.mono ?_;rintro e w5 ⟨rfl,rfl⟩)
 try rw [hW1]
 generalize hga : w.heap.size=ga at *
 have HGA:=Lib.hid hga
 clear hW0 hW1 hadd hga
 have hbg : b ≠ some ga:=fun e=>by have:=hbw ga e;omega
 have mk : ∀ W' : World,Tch (fun k=>b=some k) W1 W'→(W'.cell? ⟨rb,1,none⟩=some v∧W'.cell? ⟨ga,0,none⟩=some (.string x.u)∧W'.cell? ⟨ga,1,none⟩=some (.int .i64 x.op)∧W'.cell? ⟨ga,2,none⟩=some (.string x.k)∧W'.cell? ⟨ga,3,none⟩=some (.bool x.al)):=fun W' t=>⟨(R1.out.tch t hbr).cell 1 rfl,(A1.out.tch t hbg).cell 0 rfl,(A1.out.tch t hbg).cell 1 rfl,(A1.out.tch t hbg).cell 2 rfl,(A1.out.tch t hbg).cell 3 rfl⟩
 have tN : Tch (fun _=>False) W1 (W1.alloc (.cells #[.string x.u,.int .i64 x.op,.string x.k,.bool x.al] TNote)).drew:=((Tch.refl (fun _=>False) W1).talloc).tdrew
 have hsz2 : (W1.alloc (.cells #[.string x.u,.int .i64 x.op,.string x.k,.bool x.al] TNote)).drew.heap.size=W1.heap.size + 1:=by simp
 have HSZ:=Lib.hid hsz2
 clear hsz2
 refine start_ (n:=11) (S:=fun W'=>W'.cell? ⟨rb,1,none⟩=some v∧W'.cell? ⟨ga,0,none⟩=some (.string x.u)∧W'.cell? ⟨ga,1,none⟩=some (.int .i64 x.op)∧W'.cell? ⟨ga,2,none⟩=some (.string x.k)∧W'.cell? ⟨ga,3,none⟩=some (.bool x.al)) (ds:=[10]) _ (by kernel_rfl) rfl rfl (mk _ (Tch.drew _ _)) (fun hHeld=>?_)
 refine pu_ 0 (some 10) ?_
 refine pu_ 1 (some 11) ?_
 refine pu_ 2 (some 12) ?_
 refine pu_ 3 (some 13) ?_
 refine ta_ 4 (some 14) hHeld ?_
 refine ta_ 5 (some 15) hHeld ?_
 refine on_ 6 (some 16) fun K hK=>?_
 go_simp
 refine hK.out _ _ (mk _ (tN.mono (fun _ _ h=>h.elim))) (fun hHeld2_=>?_)
 clear hK K hHeld;have hHeld:=hHeld2_;clear hHeld2_
 refine nm_ (some 16) ?_
 refine on_ 7 (some 17) fun K hK=>?_
 refine step_append_note (by rfl) _ _ (by rfl) (v:=v) (l:=l) (b:=b) (by rfl) (N1.out.tch tN (fun _ _ h=>h)) x ⟨W1.heap.size,0,none⟩ 1 (by rfl) (World.news_of_block (cs:=#[.string x.u,.int .i64 x.op,.string x.k,.bool x.al]) (t:=TNote) (fr:=(0,0)) (heap_alloc_new W1 _)) (by omega) ?_;intro q c b' w8 hn8 hb8 t8;have t18:=(tN.mono (S':=fun k=>b=some k) (fun _ _ h=>h.elim)).trans t8 (fun _ _ h=>h);have r8:=R1.out.tch t18 hbr;have u8:=r8.facts3
 refine hK.out _ _ (mk _ t18) (fun hHeld2_=>?_)
 clear hK K hHeld;have hHeld:=hHeld2_;clear hHeld2_
 refine nm_ (some 17) ?_
 refine pu_ 8 (some 18) ?_
 refine pu_ 9 (some 19) ?_
 refine la_ 10 none fun K hK=>?_
 refine skip_ (w1:=?_) (by rfl) rfl ?_ ?_;rotate_left;· (go_simp;rfl)
 refine hK.out _ _ ?_
 clear hK K
 refine nm_ none ?_
 refine done_ (by kernel_rfl) ?_;clear hHeld
 have hb8' : b=some b' ∨ W1.heap.size ≤ b':=hb8.imp id (fun h=>by
  have h2 : (W1.alloc (.cells #[.string x.u,.int .i64 x.op,.string x.k,.bool x.al] TNote)).drew.heap.size ≤ b':=h
  have:=HSZ.out
  omega)
 have hr9 : At (w8.setCell ⟨rb,1,none⟩ (.slice (some ⟨b',q,none⟩) (l.length + 1) c)) rb (ringV (most : Int) (.slice (some ⟨b',q,none⟩) (l.length + 1) c) (total + 1)) TRing:=r8.set 1 _
 have hb'r : (some b' : Option Nat) ≠ some rb:=hn8.ne r8 (by decide)
 have hn9:=hn8.tch (Tch.set w8 ⟨rb,1,none⟩ (.slice (some ⟨b',q,none⟩) (l.length + 1) c)) (fun g hg e=>hb'r (hg.trans (congrArg some e)))
 have q1:=T1.out.size
 have q8:=t18.size
 have t9 : Tch O w (w8.setCell ⟨rb,1,none⟩ (.slice (some ⟨b',q,none⟩) (l.length + 1) c)):=(T1.out.trans t18 (fun k hk h=>hO2 k h)).tset (fun _=>hO1)
 obtain ⟨W9,hW9⟩ : ∃ W9,w8.setCell ⟨rb,1,none⟩ (.slice (some ⟨b',q,none⟩) (l.length + 1) c)=W9:=⟨_,rfl⟩
 rw [hW9] at hr9 hn9 t9
 try rw [hW9]
 have hO9 : ∀ W',W9.heap.size ≤ W'.heap.size→Own O w W' b':=fun W' hs=>by
  rcases hb8' with h | h
  ·exact .inl (hO2 _ h)
  ·have:=hn9.lt
   have:=HGA.out
   exact .inr ⟨by omega,by omega⟩
 have mk2 : ∀ W' : World,Tch (fun _=>False) W9 W'→(W'.cell? ⟨rb,1,none⟩=some (.slice (some ⟨b',q,none⟩) (l.length + 1) c)∧W'.cell? ⟨rb,0,none⟩=some (.int .i64 (most : Int))):=fun W' t=>⟨(hr9.tch t (fun h=>h)).cell 1 rfl,(hr9.tch t (fun h=>h)).cell 0 rfl⟩
 have R9:=Lib.hid hr9
 have N9:=Lib.hid hn9
 have T9:=Lib.hid t9
 have HO9:=Lib.hid hO9
 clear hr9 hn9 t9 hO9 t18 r8 u8 hn8 hb8 t8 hW9 mk tN
 have u9:=R9.out.drew.facts3
 by_cases hfull : l.length < most
 ·have haL : addL most l x=l ++ [x]:=by unfold addL;rw [show l.length + 1 - most=0 from by omega];rfl
  have HAL:=Lib.hid haL
  have hfit:=N9.out.fits.1
  have f0 : IntKind.i64.wrap ((l.length : Int) + 1 - (most : Int))=(l.length : Int) + 1 - (most : Int):=IntWalk.i64_in _ (by omega)
  have f1 : max (most : Int) 1=(most : Int):=by omega
  have f2 : max ((l.length : Int) + 1 - (most : Int)) 0=0:=by omega
  have f3 : (0 : Int) ≤ (l.length : Int) + 1:=by omega
  clear haL
  go_wp2
  refine start_ (n:=21) (S:=fun W'=>W'.cell? ⟨rb,1,none⟩=some (.slice (some ⟨b',q,none⟩) (l.length + 1) c)∧W'.cell? ⟨rb,0,none⟩=some (.int .i64 (most : Int))) (ds:=[20]) _ (by kernel_rfl) rfl rfl (mk2 _ (Tch.drew _ _)) (fun hHeld=>?_)
  refine pu_ 0 (some 20) ?_
  refine pu_ 1 (some 21) ?_
  refine pu_ 2 (some 22) ?_
  refine pu_ 3 (some 23) ?_
  refine pu_ 5 (some 25) ?_
  refine pu_ 6 (some 26) ?_
  refine pu_ 7 (some 27) ?_
  refine pu_ 10 (some 30) ?_
  refine pu_ 11 (some 31) ?_
  refine pu_ 12 (some 32) ?_
  refine ta_ 4 (some 24) hHeld ?_
  refine ta_ 8 (some 28) hHeld ?_
  refine pu_ 9 (some 29) ?_
  refine ta_ 13 (some 33) hHeld ?_
  refine pu_ 14 (some 34) ?_
  refine pu_ 15 (some 35) ?_
  refine pu_ 16 (some 36) ?_
  refine pu_ 17 (some 37) ?_
  refine pu_ 18 (some 38) ?_
  refine pu_ 19 (some 39) ?_
  refine la_ 20 none fun K hK=>?_
  refine skip_ (w1:=?_) (by rfl) rfl ?_ ?_;rotate_left;· (go_simp;rfl)
  refine hK.out _ _ ?_
  clear hK K
  refine nm_ none ?_
  refine done_ (by kernel_rfl) ?_;clear hHeld
  have r10 : At ((W9.drew).setCell ⟨rb,1,none⟩ (.slice (some ⟨b',q,none⟩) (l.length + 1) c)) rb (ringV (most : Int) (.slice (some ⟨b',q,none⟩) (l.length + 1) c) (total + 1)) TRing:=R9.out.drew.set 1 _
  have n10:=(N9.out.tch (Tch.drew (fun _=>False) W9) (fun _ _ h=>h)).tch (Tch.set W9.drew ⟨rb,1,none⟩ ((.slice (some ⟨b',q,none⟩) (l.length + 1) c))) (fun g hg e=>hb'r (hg.trans (congrArg some e)))
  have t10 : Tch O w ((W9.drew).setCell ⟨rb,1,none⟩ (.slice (some ⟨b',q,none⟩) (l.length + 1) c)):=(T9.out.tdrew).tset (fun _=>hO1)
  have hs10 : ((W9.drew).setCell ⟨rb,1,none⟩ (.slice (some ⟨b',q,none⟩) (l.length + 1) c)).heap.size=W9.heap.size:=by simp
  have hfin : RiI ((W9.drew).setCell ⟨rb,1,none⟩ (.slice (some ⟨b',q,none⟩) (l.length + 1) c)) rb most (addL most l x) (total + 1) (Own O w ((W9.drew).setCell ⟨rb,1,none⟩ (.slice (some ⟨b',q,none⟩) (l.length + 1) c))):=by
   rw [HAL.out]
   refine ⟨_,_,r10,n10,.inl hO1,?_,Own.lt q19_ t10.size⟩
   intro g hg
   obtain rfl:=Option.some.inj hg
   exact HO9.out _ (Nat.le_of_eq hs10.symm)
  have H10:=Lib.hid hfin
  have T10:=Lib.hid t10
  clear r10 n10 t10 hs10 hfin
  go_wp2
  go_end0
  exact ⟨rfl,H10.out,T10.out⟩
 ·have hlm : l.length=most:=by omega
  obtain ⟨y,l',rfl⟩ : ∃ y l',l=y :: l':=by
   cases l with
   | nil=>simp at hlm;omega
   | cons y l'=>exact ⟨y,l',rfl⟩
  have haL : addL most (y :: l') x=l' ++ [x]:=by unfold addL;rw [hlm,show most + 1 - most=1 from by omega];rfl
  have HAL:=Lib.hid haL
  have hn9:=N9.out
  have hlen : (y :: l').length=(l' ++ [x]).length:=by simp
  obtain ⟨hnd,hfit⟩:=NtIs.drop (y:=y) (l:=l' ++ [x]) (n:=(y :: l').length) hlen hn9
  have f0 : IntKind.i64.wrap (((y :: l').length : Int) + 1 - (most : Int))=1:=by rw [IntWalk.i64_in _ (by omega)];omega
  have f1 : max (most : Int) 1=(most : Int):=by omega
  have f3 : (1 : Int) ≤ ((y :: l').length : Int) + 1:=by omega
  have f4 : ¬ c=1:=by omega
  have f5 : max (1 : Int) 0=1:=by decide
  generalize hL : (y :: l')=L at *
  have HL:=Lib.hid hL
  have HLM:=Lib.hid hlm
  clear haL hn9 hlen hL hlm hfull
  go_wp2
  refine start_ (n:=21) (S:=fun W'=>W'.cell? ⟨rb,1,none⟩=some (.slice (some ⟨b',q,none⟩) (L.length + 1) c)∧W'.cell? ⟨rb,0,none⟩=some (.int .i64 (most : Int))) (ds:=[20]) _ (by kernel_rfl) rfl rfl (mk2 _ (Tch.drew _ _)) (fun hHeld=>?_)
  refine pu_ 0 (some 20) ?_
  refine pu_ 1 (some 21) ?_
  refine pu_ 2 (some 22) ?_
  refine pu_ 3 (some 23) ?_
  refine pu_ 5 (some 25) ?_
  refine pu_ 6 (some 26) ?_
  refine pu_ 7 (some 27) ?_
  refine pu_ 10 (some 30) ?_
  refine pu_ 11 (some 31) ?_
  refine pu_ 12 (some 32) ?_
  refine ta_ 4 (some 24) hHeld ?_
  refine ta_ 8 (some 28) hHeld ?_
  refine pu_ 9 (some 29) ?_
  refine ta_ 13 (some 33) hHeld ?_
  refine pu_ 14 (some 34) ?_
  refine pu_ 15 (some 35) ?_
  refine pu_ 16 (some 36) ?_
  refine pu_ 17 (some 37) ?_
  refine pu_ 18 (some 38) ?_
  refine pu_ 19 (some 39) ?_
  refine la_ 20 none fun K hK=>?_
  refine skip_ (w1:=?_) (by rfl) rfl ?_ ?_;rotate_left;· (go_simp;rfl)
  refine hK.out _ _ ?_
  clear hK K
  refine nm_ none ?_
  refine done_ (by kernel_rfl) ?_;clear hHeld
  have r10 : At ((W9.drew).setCell ⟨rb,1,none⟩ (.slice (some ⟨b',q + 4,none⟩) L.length (c - 1))) rb (ringV (most : Int) (.slice (some ⟨b',q + 4,none⟩) L.length (c - 1)) (total + 1)) TRing:=R9.out.drew.set 1 _
  have n10:=(hnd.tch (Tch.drew (fun _=>False) W9) (fun _ _ h=>h)).tch (Tch.set W9.drew ⟨rb,1,none⟩ ((.slice (some ⟨b',q + 4,none⟩) L.length (c - 1)))) (fun g hg e=>hb'r (hg.trans (congrArg some e)))
  have t10 : Tch O w ((W9.drew).setCell ⟨rb,1,none⟩ (.slice (some ⟨b',q + 4,none⟩) L.length (c - 1))):=(T9.out.tdrew).tset (fun _=>hO1)
  have hs10 : ((W9.drew).setCell ⟨rb,1,none⟩ (.slice (some ⟨b',q + 4,none⟩) L.length (c - 1))).heap.size=W9.heap.size:=by simp
  have hfin : RiI ((W9.drew).setCell ⟨rb,1,none⟩ (.slice (some ⟨b',q + 4,none⟩) L.length (c - 1))) rb most (addL most L x) (total + 1) (Own O w ((W9.drew).setCell ⟨rb,1,none⟩ (.slice (some ⟨b',q + 4,none⟩) L.length (c - 1)))):=by
   rw [HAL.out]
   refine ⟨_,_,r10,n10,.inl hO1,?_,Own.lt q19_ t10.size⟩
   intro g hg
   obtain rfl:=Option.some.inj hg
   exact HO9.out _ (Nat.le_of_eq hs10.symm)
  have H10:=Lib.hid hfin
  have T10:=Lib.hid t10
  clear r10 n10 t10 hs10 hfin
  go_wp2
  go_end0
  rw [HL.out]
  exact ⟨rfl,H10.out,T10.out⟩
end Go.Proofs.YtkekohmkaefdnaaGreatDoor
namespace Go.Proofs.YtkekohmkaefdnaaGreatDoor
open Go.RowKit Go.Maps Go.Shelf Go.Proofs.YtkekohmkaefdnaaGreatDoorW.PrintWords Go.Proofs.YtkekohmkaefdnaaGreatDoorW.PrintLast Go.Proofs.YtkekohmkaefdnaaGreatDoor.Pa
attribute [local go_sem ↓] Go.wp_at_zero Go.wp_at_succ
abbrev TRule : Nat:=145
def RuI (w : World) (A : Option Addr) (c : Nat) (rules : List S145) : Prop:=rules.length ≤ c∧Kd.C k145 w A rules.length rules∧∀ ad,A=some ad→∃ cells,At w ad.block cells TRule
theorem RuI.tch {w w1 : World} {A : Option Addr} {c : Nat} {rules : List S145} {S : Nat→Prop} (h : RuI w A c rules) (t : Tch S w w1) (hS : ∀ ad,A=some ad→¬ S ad.block) : RuI w1 A c rules:=by
 obtain ⟨h0,h1,hty⟩:=h
 refine ⟨h0,⟨h1.1,h1.2.1,fun hn=>?_⟩,fun ad ha=>?_⟩
 ·obtain ⟨ad,he,hc⟩:=h1.2.2 hn
  refine ⟨ad,he,fun j p hj=>?_⟩
  obtain ⟨cs,g1,g2,g3⟩:=hc j p hj
  obtain ⟨cells,hcl⟩:=hty ad he
  refine ⟨cs,g1,g2,fun i u hu=>?_⟩
  have hb : ∀ m,(ad.add m).block=ad.block:=fun m=>by unfold Addr.add;split <;> rfl
  rw [t.cell (by rw [hb];exact hcl.lt) (by rw [hb];exact hS _ he)]
  exact g3 i u hu
 ·obtain ⟨cells,hc⟩:=hty ad ha
  exact ⟨cells,hc.tch t (hS _ ha)⟩
structure SvM (w : World) (p cb rb : Nat) (u : Value) (mb : Nat) (ids : Int) (A : Option Addr) (c : Nat) (rules : List S145) (bud : Int) (cs : CS) (most : Nat) (notes : List Nt) (total now : Int) (Oc Og : Nat→Prop) : Prop where
 port : At w p (portV u (.slice A rules.length c) (.pointer (some ⟨cb,0,none⟩)) (.pointer (some ⟨rb,0,none⟩)) ids now mb) TPort
 rul : RuI w A c rules
 ca : CaI w cb bud cs.L cs.ver cs.gone Oc
 ri : RiI w rb most notes total Og
 dis : ∀ k,Oc k→¬ Og k
 pc : ¬ Oc p
 pr : ¬ Og p
 rc : ∀ ad,A=some ad→¬ Oc ad.block∧¬ Og ad.block
theorem SvM.tch {w w1 : World} {p cb rb : Nat} {u : Value} {mb : Nat} {ids : Int} {A : Option Addr} {c : Nat} {rules : List S145} {bud : Int} {cs : CS} {most : Nat} {notes : List Nt} {total now : Int} {Oc Og S : Nat→Prop} (h : SvM w p cb rb u mb ids A c rules bud cs most notes total now Oc Og) (t : Tch S w w1) (hc : ∀ k,Oc k→¬ S k) (hr : ∀ k,Og k→¬ S k) (hp : ¬ S p) (hA : ∀ ad,A=some ad→¬ S ad.block) : SvM w1 p cb rb u mb ids A c rules bud cs most notes total now Oc Og:=
 ⟨h.port.tch t hp,h.rul.tch t hA,h.ca.tch t hc,h.ri.tch t hr,h.dis,h.pc,h.pr,h.rc⟩
theorem SvM.tchF {w w1 : World} {p cb rb : Nat} {u : Value} {mb : Nat} {ids : Int} {A : Option Addr} {c : Nat} {rules : List S145} {bud : Int} {cs : CS} {most : Nat} {notes : List Nt} {total now : Int} {Oc Og : Nat→Prop} (h : SvM w p cb rb u mb ids A c rules bud cs most notes total now Oc Og) (t : Tch (fun _=>False) w w1) : SvM w1 p cb rb u mb ids A c rules bud cs most notes total now Oc Og:=
 h.tch t (fun _ _ h=>h) (fun _ _ h=>h) (fun h=>h) (fun _ _ h=>h)
structure Fit (bud : Int) (s : CS) (c : Cm) (now : Int) : Prop where
 sh : Short s.L
 len : s.L.length < 90000
 unt : ∀ x ∈ s.L,0 ≤ x.unt∧x.unt ≤ 2000000000000
 b0 : 0 ≤ bud
 v0 : 0 ≤ s.ver
 v1 : s.ver ≤ 1000000000
 g0 : 0 ≤ s.gone
 g1 : s.gone ≤ 1000000000
 n0 : 0 ≤ now
 n1 : now ≤ 1000000000000
 c1 : c.n ≤ 1000000000000
 c2 : -1000000000000 ≤ c.n
 k1 : c.k.size ≤ 10000
 k2 : c.v.size ≤ 10000
 op : 1 ≤ c.op∧c.op ≤ 13
 right : Pb.command_Right.f 60 c.op c.k c.v c.n c.ver=some true
def portF (bud : Int) (s : CS) (c : Cm) (now : Int) (al : Bool) : RpC × CS:=if al then doF bud s c now else ({ e:=8 },s)
def DoQ (w : World) (p cb rb : Nat) (u : Value) (mb : Nat) (ids : Int) (A : Option Addr) (c : Nat) (rules : List S145) (bud : Int) (s' : CS) (most : Nat) (notes' : List Nt) (total' now : Int) (Oc Og : Nat→Prop) (v : Value) (ks : List ByteArray) (w' : World) : Prop:=
 ∃ (b : Option Nat) (Oc' Og' : Nat→Prop),StrIs w' v ks b∧SvM w' p cb rb u mb ids A c rules bud s' most notes' total' now Oc' Og'∧(∀ g,b=some g→w.heap.size ≤ g∧¬ Oc' g∧¬ Og' g)∧Tch (fun k=>Oc k ∨ Og k) w w'∧(∀ k,Oc' k→Oc k ∨ w.heap.size ≤ k)∧(∀ k,Og' k→Og k ∨ w.heap.size ≤ k)
def DoP (w : World) (p cb rb : Nat) (u : Value) (mb : Nat) (ids : Int) (A : Option Addr) (c : Nat) (rules : List S145) (bud : Int) (r : RpC × CS) (al : Bool) (most : Nat) (notes' : List Nt) (total' now : Int) (Oc Og : Nat→Prop) (e : Ending) (w' : World) : Prop:=
 ∃ v,e=.returned (.tuple #[repA r.1.e r.1.v r.1.n r.1.ver v,.bool al])∧DoQ w p cb rb u mb ids A c rules bud r.2 most notes' total' now Oc Og v r.1.ks w'
set_option maxHeartbeats 8000000 in
set_option maxRecDepth 100000 in
theorem pdo_gen (p cb rb : Nat) (u : Value) (mb : Nat) (ids : Int) (A : Option Addr) (c : Nat) (rules : List S145) (bud : Int) (s : CS) (most : Nat) (notes : List Nt) (total now : Int) (Oc Og : Nat→Prop) (user : ByteArray) (x : Cm) (cl : Int) (al : Bool) (r2 : Int) (w : World)
  (h : SvM w p cb rb u mb ids A c rules bud s most notes total now Oc Og) (hf : Fit bud s x now) (hLd : x.op=7→∀ W,Tch (fun k=>Oc k ∨ Og k) w W→LaidN W) (hm0 : 1 ≤ most) (hm1 : most ≤ 50) (hln : notes.length ≤ most) (ht0 : 0 ≤ total) (ht1 : total ≤ 1000000000)
  (hcl : Pb.command_Class.f 60 x.op=some cl) (hdec : Pa.acl_Decide.f 60 rules user cl x.k=some (al,r2)) :
  Calls Tryz.prog 39 #[.pointer (some ⟨p,0,none⟩),.string user,x.val] w (DoP w p cb rb u mb ids A c rules bud (portF bud s x now al) al most (addL most notes ⟨user,x.op,x.k,al⟩) (total + 1) now Oc Og):=by
 obtain ⟨W0,hW0,ta,ca,cr,hsz⟩:=two_blocks w #[.int .i64 x.op,.string x.k,.string x.v,.int .i64 x.n,.int .i64 x.ver] TCmd #[.int .i64 0,.string ⟨#[]⟩,.int .i64 0,.int .i64 0,.slice none 0 0] TReply
 have h0:=h.tchF ta
 have hpl:=h.port.lt
 have hOc:=h.ca.lt
 have hOr:=h.ri.lt
 have hde:=fun W (t : Tch (fun _=>False) W0 W)=>Pa.acl_Decide.calls 60 A c rules user cl x.k al r2 W (h0.tchF t).rul.2.1 (h0.tchF t).rul.1 hdec
 have hcls:=fun W=>Pb.command_Class.calls 60 x.op cl W hcl
 have HH:=Lib.hid h
 have H0:=Lib.hid h0
 have CA:=Lib.hid ca
 have CR:=Lib.hid cr
 have TA:=Lib.hid ta
 have HSZ:=Lib.hid hsz
 have hgl:=cr.lt
 clear h h0 ca cr ta hsz hcl hdec
 go_enter Tryz.func39,Tryz.ntmps39
 go_wp2
 try rw [hW0]
 generalize hga : w.heap.size=ga at *
 have mk : ∀ W' : World,Tch (fun _=>False) W0 W'→(W'.cell? ⟨p,1,none⟩=some (.slice A rules.length c)∧W'.cell? ⟨ga,0,none⟩=some (.int .i64 x.op)∧W'.cell? ⟨ga,1,none⟩=some (.string x.k)):=fun W' t=>⟨(H0.out.port.tch t (fun h=>h)).cell 1 rfl,(CA.out.tch t (fun h=>h)).cell 0 rfl,(CA.out.tch t (fun h=>h)).cell 1 rfl⟩
 have HGA:=Lib.hid hga
 clear hW0 hga
 refine start_ (n:=16) (S:=fun W'=>W'.cell? ⟨p,1,none⟩=some (.slice A rules.length c)∧W'.cell? ⟨ga,0,none⟩=some (.int .i64 x.op)∧W'.cell? ⟨ga,1,none⟩=some (.string x.k)) (ds:=[]) _ (by kernel_rfl) rfl rfl (mk _ (Tch.drew _ _)) (fun hHeld=>?_)
 refine pu_ 0 (some 11) ?_
 refine pu_ 1 (some 12) ?_
 refine pu_ 2 (some 13) ?_
 refine pu_ 4 (some 15) ?_
 refine pu_ 5 (some 16) ?_
 refine pu_ 8 (some 19) ?_
 refine ta_ 3 (some 14) hHeld ?_
 refine ta_ 6 (some 17) hHeld ?_
 refine ta_ 9 (some 20) hHeld ?_
 refine on_ 7 (some 18) fun K hK=>?_
 go_simp;go_at_call 79;refine (hcls _).mono ?_;rintro e w1 ⟨rfl,n1,rfl⟩;have t1:=Tch.drewN (fun _=>False) W0 (1 + n1);go_simp
 refine hK.out _ _ (mk _ t1) (fun hHeld2_=>?_)
 clear hK K hHeld;have hHeld:=hHeld2_;clear hHeld2_
 refine nm_ (some 18) ?_
 refine on_ 10 (some 21) fun K hK=>?_
 go_simp;go_at_call 82;refine (hde _ t1).mono ?_;rintro e w2 ⟨rfl,hb2⟩;have t2:=t1.tbelow hb2;go_simp
 refine hK.out _ _ (mk _ t2) (fun hHeld2_=>?_)
 clear hK K hHeld;have hHeld:=hHeld2_;clear hHeld2_
 refine nm_ (some 21) ?_
 refine pu_ 11 (some 10) ?_
 refine pu_ 12 (some 22) ?_
 refine pu_ 13 (some 23) ?_
 refine pu_ 14 (some 8) ?_
 refine pu_ 15 (some 9) ?_
 refine done_ (by kernel_rfl) ?_;clear hHeld
 have hs2:=H0.out.tchF t2
 have a2:=CA.out.tch t2 (fun h=>h)
 have r2':=CR.out.tch t2 (fun h=>h)
 have t02:=TA.out.trans t2 (fun _ _ h=>h)
 have q2:=t02.size
 have H2:=Lib.hid hs2
 have A2:=Lib.hid a2
 have R2:=Lib.hid r2'
 have T2:=Lib.hid t02
 have hrg:=fun W (t : Tch (fun _=>False) w2 W)=>ring_gen rb most notes total Og ⟨user,x.op,x.k,al⟩ W (hs2.ri.tch t (fun _ _ h=>h)) hm0 hm1 hln ht0 ht1
 have mk2 : ∀ W' : World,Tch Og w2 W'→(W'.cell? ⟨p,3,none⟩=some (.pointer (some ⟨rb,0,none⟩))∧W'.cell? ⟨ga,0,none⟩=some (.int .i64 x.op)∧W'.cell? ⟨ga,1,none⟩=some (.string x.k)):=fun W' t=>⟨(H2.out.port.tch t H2.out.pr).cell 3 rfl,(A2.out.tch t (fun h=>by have:=hOr _ h;omega)).cell 0 rfl,(A2.out.tch t (fun h=>by have:=hOr _ h;omega)).cell 1 rfl⟩
 clear hs2 a2 r2' t02 t2 t1 hb2 mk hde hcls
 go_wp2
 refine start_ (n:=12) (S:=fun W'=>W'.cell? ⟨p,3,none⟩=some (.pointer (some ⟨rb,0,none⟩))∧W'.cell? ⟨ga,0,none⟩=some (.int .i64 x.op)∧W'.cell? ⟨ga,1,none⟩=some (.string x.k)) (ds:=[]) _ (by kernel_rfl) rfl rfl (mk2 _ (Tch.drew _ _)) (fun hHeld=>?_)
 refine pu_ 0 (some 24) ?_
 refine pu_ 1 (some 25) ?_
 refine pu_ 2 (some 26) ?_
 refine pu_ 4 (some 28) ?_
 refine pu_ 5 (some 29) ?_
 refine pu_ 7 (some 31) ?_
 refine pu_ 9 (some 33) ?_
 refine ta_ 3 (some 27) hHeld ?_
 refine ta_ 6 (some 30) hHeld ?_
 refine ta_ 8 (some 32) hHeld ?_
 refine pu_ 10 (some 34) ?_
 refine on_ 11 (some 35) fun K hK=>?_
 go_simp;go_at_call 83;refine (hrg _ (Tch.drew _ _)).mono ?_;rintro e w3 ⟨rfl,hri3,t3⟩;have t23:=(Tch.drew Og w2).trans t3 (fun _ _ h=>h);go_simp
 refine hK.out _ _ (mk2 _ t23) (fun hHeld2_=>?_)
 clear hK K hHeld;have hHeld:=hHeld2_;clear hHeld2_
 refine nm_ (some 35) ?_
 refine done_ (by kernel_rfl) ?_;clear hHeld
 have hga' : ¬ Og ga∧¬ Og (ga + 1):=⟨fun h=>by have:=hOr _ h;omega,fun h=>by have:=hOr _ h;omega⟩
 have a3:=A2.out.tch t23 hga'.1
 have r3:=R2.out.tch t23 hga'.2
 have q3:=t23.size
 have q23 : w2.drew.heap.size=w2.heap.size:=rfl
 have h3 : SvM w3 p cb rb u mb ids A c rules bud s most (addL most notes ⟨user,x.op,x.k,al⟩) (total + 1) now Oc (Own Og w2.drew w3):=by
  refine ⟨H2.out.port.tch t23 H2.out.pr,H2.out.rul.tch t23 (fun ad ha=>(H2.out.rc ad ha).2),H2.out.ca.tch t23 (fun k hk=>H2.out.dis k hk),hri3,?_,H2.out.pc,?_,?_⟩
  ·rintro k hk (h | ⟨h,_⟩)
   ·exact H2.out.dis k hk h
   ·have:=hOc k hk
    have:=HGA.out
    omega
  ·rintro (h | ⟨h,_⟩)
   ·exact H2.out.pr h
   ·have:=HGA.out
    omega
  ·intro ad ha
   refine ⟨(H2.out.rc ad ha).1,?_⟩
   rintro (h | ⟨h,_⟩)
   ·exact (H2.out.rc ad ha).2 h
   ·obtain ⟨cells,hcl⟩:=HH.out.rul.2.2 ad ha
    have:=hcl.lt
    have:=HGA.out
    omega
 have t03 : Tch (fun k=>Oc k ∨ Og k) w w3:=(T2.out.mono (fun _ _ h=>h.elim)).trans t23 (fun k hk h=>.inr h)
 have hOg3 : ∀ k,Own Og w2.drew w3 k→Og k ∨ w.heap.size ≤ k:=fun k h=>h.elim .inl (fun h=>.inr (by have:=HGA.out;omega))
 have H3:=Lib.hid h3
 have A3:=Lib.hid a3
 have R3:=Lib.hid r3
 have T3:=Lib.hid t03
 have HO3:=Lib.hid hOg3
 have u3:=a3.facts5
 have v3:=r3.facts5
 clear h3 a3 r3 t03 t23 t3 hri3 mk2 hrg hOg3
 cases al with
 | false=>
  have t9:=T3.out.tset5 (g:=ga + 1) (by have:=HGA.out;omega) (.int .i64 8) (.string ⟨#[]⟩) (.int .i64 0) (.int .i64 0) (.slice none 0 0)
  have a9:=at_set5 R3.out (.int .i64 8) (.string ⟨#[]⟩) (.int .i64 0) (.int .i64 0) (.slice none 0 0)
  have hno : ∀ k,Oc k ∨ Own Og w2.drew w3 k→k ≠ ga + 1:=by
   rintro k (h | h | ⟨h,_⟩) e
   ·have:=hOc k h;omega
   ·have:=hOr k h;omega
   ·have:=R2.out.lt;omega
  have h9:=H3.out.tch (tch_set5 w3 (ga + 1) (.int .i64 8) (.string ⟨#[]⟩) (.int .i64 0) (.int .i64 0) (.slice none 0 0)) (fun k hk=>hno k (.inl hk)) (fun k hk=>hno k (.inr hk)) (by omega) (fun ad ha e=>by
   obtain ⟨cells,hcl⟩:=HH.out.rul.2.2 ad ha
   have:=hcl.lt
   have:=HGA.out
   omega)
  obtain ⟨W9,hW9⟩ : ∃ W9,(((((w3.setCell ⟨ga + 1,0,none⟩ (.int .i64 8)).setCell ⟨ga + 1,1,none⟩ (.string ⟨#[]⟩)).setCell ⟨ga + 1,2,none⟩ (.int .i64 0)).setCell ⟨ga + 1,3,none⟩ (.int .i64 0)).setCell ⟨ga + 1,4,none⟩ (.slice none 0 0))=W9:=⟨_,rfl⟩
  rw [hW9] at t9 a9 h9
  have u9:=a9.facts5
  have T9:=Lib.hid t9
  have H9:=Lib.hid h9
  clear t9 a9 h9
  go_wp2
  try rw [hW9]
  refine bodyPost_ret (v:=.tuple #[repA 8 ⟨#[]⟩ 0 0 (.slice none 0 0),.bool false]) (by simp [results,Tryz.results39,go_sem,u9]) rfl ?_
  exact ⟨_,rfl,none,Oc,_,.nil,H9.out,(fun g hg=>by cases hg),T9.out,(fun k hk=>.inl hk),HO3.out⟩
 | true=>
  have hdo:=fun W (t : Tch (fun _=>False) w3 W)=>do_gen cb bud s Oc x now W (H3.out.ca.tch t (fun _ _ h=>h)) hf.right (fun h7 W' tW=>hLd h7 W' (T3.out.trans ((t.mono (S':=Oc) (fun _ _ h=>h.elim)).trans tW (fun _ _ h=>h)) (fun k hk h=>.inl h))) hf.sh hf.len hf.unt hf.op hf.k1 hf.k2 hf.b0 hf.v0 hf.v1 hf.g0 hf.g1 hf.n0 hf.n1 hf.c1 hf.c2
  have hng : ∀ k,ga ≤ k→¬ Oc k:=fun k hk h=>by have:=hOc k h;omega
  have mk3 : ∀ W' : World,Tch Oc w3 W'→(W'.cell? ⟨p,2,none⟩=some (.pointer (some ⟨cb,0,none⟩))∧W'.cell? ⟨p,5,none⟩=some (.int .i64 now)∧W'.cell? ⟨ga,0,none⟩=some (.int .i64 x.op)∧W'.cell? ⟨ga,1,none⟩=some (.string x.k)∧W'.cell? ⟨ga,2,none⟩=some (.string x.v)∧W'.cell? ⟨ga,3,none⟩=some (.int .i64 x.n)∧W'.cell? ⟨ga,4,none⟩=some (.int .i64 x.ver)):=fun W' t=>⟨(H3.out.port.tch t H3.out.pc).cell 2 rfl,(H3.out.port.tch t H3.out.pc).cell 5 rfl,(A3.out.tch t (hng _ (Nat.le_refl _))).cell 0 rfl,(A3.out.tch t (hng _ (Nat.le_refl _))).cell 1 rfl,(A3.out.tch t (hng _ (Nat.le_refl _))).cell 2 rfl,(A3.out.tch t (hng _ (Nat.le_refl _))).cell 3 rfl,(A3.out.tch t (hng _ (Nat.le_refl _))).cell 4 rfl⟩
  have hnow:=fun W (t : Tch Oc w3 W)=>now_cell p now W (mk3 W t).2.1 hf.n0 (by have:=hf.n1;omega)
  clear u3 v3
  go_wp2
  refine start_ (n:=10) (S:=fun W'=>W'.cell? ⟨p,2,none⟩=some (.pointer (some ⟨cb,0,none⟩))∧W'.cell? ⟨p,5,none⟩=some (.int .i64 now)∧W'.cell? ⟨ga,0,none⟩=some (.int .i64 x.op)∧W'.cell? ⟨ga,1,none⟩=some (.string x.k)∧W'.cell? ⟨ga,2,none⟩=some (.string x.v)∧W'.cell? ⟨ga,3,none⟩=some (.int .i64 x.n)∧W'.cell? ⟨ga,4,none⟩=some (.int .i64 x.ver)) (ds:=[8]) _ (by kernel_rfl) rfl rfl (mk3 _ (Tch.drew _ _)) (fun hHeld=>?_)
  refine pu_ 0 (some 39) ?_
  refine pu_ 1 (some 40) ?_
  refine pu_ 2 (some 41) ?_
  refine pu_ 5 (some 44) ?_
  refine ta_ 3 (some 42) hHeld ?_
  refine ta_ 4 (some 43) hHeld ?_
  refine on_ 6 (some 45) fun K hK=>?_
  go_simp;go_at_call 24;refine (hnow _ (Tch.drew _ _)).mono ?_;rintro e w4 ⟨rfl,hw4⟩;subst hw4;go_simp
  refine hK.out _ _ (mk3 _ (Tch.drew _ _)) (fun hHeld2_=>?_)
  clear hK K hHeld;have hHeld:=hHeld2_;clear hHeld2_
  refine nm_ (some 45) ?_
  refine on_ 7 (some 46) fun K hK=>?_
  go_simp;go_at_call 84;refine (hdo _ (Tch.drew _ _)).mono ?_;rintro e w5 ⟨v,b,rfl,hs5,x5,t5,hb5⟩;obtain ⟨A',c',rfl⟩:=hs5.formL;have t35:=(Tch.drew Oc w3).trans t5 (fun _ _ h=>h);have r5:=R3.out.tch t35 (hng _ (by omega));have u5:=r5.facts5;go_simp
  refine hK.out _ _ (mk3 _ t35) (fun hHeld2_=>?_)
  clear hK K hHeld;have hHeld:=hHeld2_;clear hHeld2_
  refine nm_ (some 46) ?_
  refine la_ 8 none fun K hK=>?_
  refine skip_ (w1:=?_) (by rfl) rfl ?_ ?_;rotate_left;· (go_simp;rfl)
  refine hK.out _ _ ?_
  clear hK K
  refine nm_ none ?_
  refine pu_ 9 (some 7) ?_
  refine done_ (by kernel_rfl) ?_;clear hHeld
  obtain ⟨O5,h5,hO5,nO5⟩:=x5
  have hpw : p < w.heap.size:=HH.out.port.lt
  have hgaw:=HGA.out
  have q35:=t35.size
  have hzd : w3.drew.heap.size=w3.heap.size:=rfl
  have hzd2 : w2.drew.heap.size=w2.heap.size:=rfl
  have hqw:=T2.out.size
  have hq3:=T3.out.size
  have hrw : ∀ ad,A=some ad→ad.block < w.heap.size:=fun ad ha=>by
   obtain ⟨cells,hcl⟩:=HH.out.rul.2.2 ad ha
   exact hcl.lt
  have hOo : ∀ k,O5 k→Oc k ∨ w3.heap.size ≤ k:=fun k hk=>(hO5 k hk).elim .inl (fun h=>.inr h.1)
  have hOn : ∀ k,Own Og w2.drew w3 k→k < w3.heap.size:=H3.out.ri.lt
  have h6 : SvM w5 p cb rb u mb ids A c rules bud (doF bud s x now).2 most (addL most notes ⟨user,x.op,x.k,true⟩) (total + 1) now O5 (Own Og w2.drew w3):=by
   refine ⟨H3.out.port.tch t35 H3.out.pc,H3.out.rul.tch t35 (fun ad ha=>(H3.out.rc ad ha).1),h5,H3.out.ri.tch t35 (fun k hk h=>H3.out.dis k h hk),?_,?_,H3.out.pr,?_⟩
   ·intro k hk h
    rcases hOo k hk with h1 | h1
    ·exact H3.out.dis k h1 h
    ·have:=hOn k h;omega
   ·intro h
    rcases hOo p h with h1 | h1
    ·exact H3.out.pc h1
    ·omega
   ·intro ad ha
    refine ⟨fun h=>?_,(H3.out.rc ad ha).2⟩
    rcases hOo _ h with h1 | h1
    ·exact (H3.out.rc ad ha).1 h1
    ·have:=hrw ad ha;omega
  have t05:=T3.out.trans t35 (fun k hk h=>.inl h)
  have tst:=tch_set5 w5 (ga + 1) (.int .i64 (doF bud s x now).1.e) (.string (doF bud s x now).1.v) (.int .i64 (doF bud s x now).1.n) (.int .i64 (doF bud s x now).1.ver) (.slice A' (doF bud s x now).1.ks.length c')
  have hg3 : ga + 1 < w3.heap.size:=R3.out.lt
  have hgb : ∀ g,b=some g→g ≠ ga + 1:=fun g hg e=>by have:=hb5 g hg;omega
  have h7:=h6.tch tst (fun k hk e=>by
   rcases hOo k hk with h1 | h1
   ·have:=hOc k h1;omega
   ·omega) (fun k hk e=>by
   rcases hk with h1 | ⟨h1,_⟩
   ·have:=hOr k h1;omega
   ·have:=R2.out.lt;omega) (by omega) (fun ad ha e=>by have:=hrw ad ha;omega)
  have hs7:=hs5.tch tst (fun g hg e=>hgb g hg e)
  have t9:=t05.tset5 (g:=ga + 1) (by omega) (.int .i64 (doF bud s x now).1.e) (.string (doF bud s x now).1.v) (.int .i64 (doF bud s x now).1.n) (.int .i64 (doF bud s x now).1.ver) (.slice A' (doF bud s x now).1.ks.length c')
  have a9:=at_set5 r5 (.int .i64 (doF bud s x now).1.e) (.string (doF bud s x now).1.v) (.int .i64 (doF bud s x now).1.n) (.int .i64 (doF bud s x now).1.ver) (.slice A' (doF bud s x now).1.ks.length c')
  obtain ⟨W9,hW9⟩ : ∃ W9,(((((w5.setCell ⟨ga + 1,0,none⟩ (.int .i64 (doF bud s x now).1.e)).setCell ⟨ga + 1,1,none⟩ (.string (doF bud s x now).1.v)).setCell ⟨ga + 1,2,none⟩ (.int .i64 (doF bud s x now).1.n)).setCell ⟨ga + 1,3,none⟩ (.int .i64 (doF bud s x now).1.ver)).setCell ⟨ga + 1,4,none⟩ (.slice A' (doF bud s x now).1.ks.length c'))=W9:=⟨_,rfl⟩
  rw [hW9] at h7 hs7 t9 a9
  try rw [hW9]
  have u9:=a9.facts5
  have hQ : DoQ w p cb rb u mb ids A c rules bud (doF bud s x now).2 most (addL most notes ⟨user,x.op,x.k,true⟩) (total + 1) now Oc Og (.slice A' (doF bud s x now).1.ks.length c') (doF bud s x now).1.ks W9:=by
   refine ⟨b,O5,_,hs7,h7,fun g hg=>⟨by have:=hb5 g hg;omega,fun h=>nO5 g hg h,fun h=>?_⟩,t9,fun k hk=>?_,HO3.out⟩
   ·have h1:=hOn g h
    have h2:=hb5 g hg
    omega
   ·rcases hOo k hk with h1 | h1
    ·exact .inl h1
    ·exact .inr (by omega)
  have HQ:=Lib.hid hQ
  clear hQ h7 hs7 t9 a9 h6 h5 hO5 nO5 r5 u5 t35 t5 hs5 hb5 t05 tst mk3 hdo hnow
  go_wp2
  refine bodyPost_ret (v:=.tuple #[repA (doF bud s x now).1.e (doF bud s x now).1.v (doF bud s x now).1.n (doF bud s x now).1.ver (.slice A' (doF bud s x now).1.ks.length c'),.bool true]) (by simp [results,Tryz.results39,go_sem,u9]) rfl ?_
  exact ⟨_,rfl,HQ.out⟩
end Go.Proofs.YtkekohmkaefdnaaGreatDoor
