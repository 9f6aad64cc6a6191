import Derived.Test.YtkekohmkaefdnaaGreatDoorPt
import Derived.Test.YtkekohmkaefdnaaGreatDoorPy
import Derived.Test.YtkekohmkaefdnaaGreatDoorPa0
import Derived.Deep.AppendLies
import Derived.Test.YtkekohmkaefdnaaGreatDoorWLast
import Derived.Test.YtkekohmkaefdnaaGreatDoorRight
import Derived.WideKeyArgs2
set_option linter.unusedVariables false
set_option maxHeartbeats 4000000
set_option maxRecDepth 100000
namespace Go.Proofs.YtkekohmkaefdnaaGreatDoor
open Go.RowKit Go.Maps Go.Shelf Go.Sort Go.Lib
attribute [local go_sem ↓] Go.wp_at_zero Go.wp_at_succ
abbrev TReply : Nat:=38
def LaidOne (S : Nat→Prop) (w : World) (cb tb : Nat) (budget : Int) (v : ByteArray) (iv unt cost ver gone : Int) (w' : World) : Prop:=
 (∃ b c zs sb,At w' b (itemL keyA v iv unt ++ zs) TItem∧At w' tb (tableV true (.slice (some ⟨sb,0,none⟩) 8 8) 1) TTable∧At w' sb (oneA b c) TItems∧w.heap.size ≤ b)∧(∃ o,At w' cb (cacheV budget tb o cost ver gone) TCache)∧Tch S w w'
theorem LaidOne.after {S S' : Nat→Prop} {w w' w2 : World} {cb tb : Nat} {budget iv unt cost ver gone : Int} {v : ByteArray} (h : LaidOne S w cb tb budget v iv unt cost ver gone w') (t : Tch S' w' w2) (hS : ∀ k,S' k→w.heap.size ≤ k) (hcb : cb < w.heap.size) (htb : tb < w.heap.size)
  (hI : ∀ k cs,At w' k cs TItems→¬ S' k) (hb : ∀ k cs,At w' k cs TItem→¬ S' k) : LaidOne S w cb tb budget v iv unt cost ver gone w2:=by
 obtain ⟨⟨b,c,zs,sb,h1,h2,h2',h3⟩,⟨o,h4⟩,h5⟩:=h
 refine ⟨⟨b,c,zs,sb,h1.tch t (hb b _ h1),h2.tch t (fun h=>by have:=hS _ h;omega),h2'.tch t (hI sb _ h2'),h3⟩,⟨o,h4.tch t (fun h=>by have:=hS _ h;omega)⟩,h5.trans t (fun k hk h=>?_)⟩
 have:=hS _ h
 omega
theorem LaidOne.pre {S S' S2 : Nat→Prop} {w W w' : World} {cb tb : Nat} {budget iv unt cost ver gone : Int} {v : ByteArray} (h : LaidOne S W cb tb budget v iv unt cost ver gone w') (t : Tch S' w W) (h1 : ∀ k,k < w.heap.size→S' k→S2 k) (h2 : ∀ k,k < w.heap.size→S k→S2 k) : LaidOne S2 w cb tb budget v iv unt cost ver gone w':=by
 obtain ⟨⟨b,c,zs,sb,q1,q2,q2',q3⟩,ho,h5⟩:=h
 exact ⟨⟨b,c,zs,sb,q1,q2,q2',Nat.le_trans t.size q3⟩,ho,(t.mono h1).trans h5 h2⟩
theorem write_any (cb tb sb : Nat) (budget ver gone : Int) (v : ByteArray) (iv unt : Int) (cost : Int) (w : World) (hv : v.size ≤ 1000) (hcost : ∀ i,Pb.cache_Cost.f keyA v i unt=some cost) (p0 : 0 ≤ cost) (p1 : cost ≤ 100000) (p2 : cost ≤ budget) (v0 : 0 ≤ ver) (v1 : ver ≤ 1000000) (hc : At w cb (cacheV budget tb (.slice none 0 0) 0 ver gone) TCache) (ht : At w tb (tableV true (.slice (some ⟨sb,0,none⟩) 8 8) 0) TTable) (hs : At w sb nil8 TItems) (hct : cb ≠ tb) :
  Calls Tryz.prog 149 #[.pointer (some ⟨cb,0,none⟩),.agg #[.string keyA,.string v,.int .i64 iv,.int .i64 unt]] w fun e w'=>e=.returned (.agg #[.int .i64 0,.string ⟨#[]⟩,.int .i64 0,.int .i64 (ver + 1),.slice none 0 0])∧LaidOne (fun k=>k=cb ∨ k=tb ∨ k=sb) w cb tb budget v (ver + 1) unt cost (ver + 1) gone w':=by
 have hcl:=hc.lt
 have htl:=ht.lt
 have hsl:=hs.lt
 have HC:=Lib.hid hc
 have HT:=Lib.hid ht
 have HS:=Lib.hid hs
 have hco:=fun i W=>Pb.cache_Cost.calls keyA v i unt cost W (hcost i)
 have k0:=hc.cell 0 rfl
 clear hc ht hs
 go_enter Tryz.func149,Tryz.ntmps149
 go_wp2
 have t0 : Tch (fun _=>False) w ((w.alloc (.cells #[.string keyA,.string v,.int .i64 iv,.int .i64 unt] TItem)).alloc (.cells #[.int .i64 0,.string ⟨#[]⟩,.int .i64 0,.int .i64 0,.slice none 0 0] TReply)):=((Tch.refl _ w).talloc).talloc
 have ca : At ((w.alloc (.cells #[.string keyA,.string v,.int .i64 iv,.int .i64 unt] TItem)).alloc (.cells #[.int .i64 0,.string ⟨#[]⟩,.int .i64 0,.int .i64 0,.slice none 0 0] TReply)) w.heap.size (itemL keyA v iv unt) TItem:=(At.new w _ _).alloc _
 have cr : At ((w.alloc (.cells #[.string keyA,.string v,.int .i64 iv,.int .i64 unt] TItem)).alloc (.cells #[.int .i64 0,.string ⟨#[]⟩,.int .i64 0,.int .i64 0,.slice none 0 0] TReply)) (w.heap.size + 1) [.int .i64 0,.string ⟨#[]⟩,.int .i64 0,.int .i64 0,.slice none 0 0] TReply:=at_new' _ _ _ _ (by simp)
 obtain ⟨W0,hW0⟩ : ∃ W0,((w.alloc (.cells #[.string keyA,.string v,.int .i64 iv,.int .i64 unt] TItem)).alloc (.cells #[.int .i64 0,.string ⟨#[]⟩,.int .i64 0,.int .i64 0,.slice none 0 0] TReply))=W0:=⟨_,rfl⟩
 rw [hW0] at t0 ca cr ⊢
 have T0:=Lib.hid t0
 have CA:=Lib.hid ca
 have CR:=Lib.hid cr
 have hc0:=HC.out.tch t0 (fun h=>h)
 clear hW0 k0
 generalize hga : w.heap.size=ga at *
 have mk : ∀ W' : World,Tch (fun _=>False) W0 W'→(W'.cell? ⟨ga,0,none⟩=some (.string keyA)∧W'.cell? ⟨ga,1,none⟩=some (.string v)∧W'.cell? ⟨ga,2,none⟩=some (.int .i64 iv)∧W'.cell? ⟨ga,3,none⟩=some (.int .i64 unt)∧W'.cell? ⟨cb,0,none⟩=some (.int .i64 budget)∧Tch (fun _=>False) W0 W'):=fun W' h=>⟨(ca.tch h (fun h=>h)).cell 0 rfl,(ca.tch h (fun h=>h)).cell 1 rfl,(ca.tch h (fun h=>h)).cell 2 rfl,(ca.tch h (fun h=>h)).cell 3 rfl,(hc0.tch h (fun h=>h)).cell 0 rfl,h⟩
 clear t0 ca cr hc0
 go_region_held3 (fun W'=>W'.cell? ⟨ga,0,none⟩=some (.string keyA)∧W'.cell? ⟨ga,1,none⟩=some (.string v)∧W'.cell? ⟨ga,2,none⟩=some (.int .i64 iv)∧W'.cell? ⟨ga,3,none⟩=some (.int .i64 unt)∧W'.cell? ⟨cb,0,none⟩=some (.int .i64 budget)∧Tch (fun _=>False) W0 W')
  ((go_split_ands;refine mk _ ?h1;(case h1=>(repeat (first | (with_reducible assumption) | (with_reducible exact Tch.refl _ _) | (with_reducible refine Tch.tdrew ?_) | (with_reducible refine Tch.tdrewN ?_) | (with_reducible refine Tch.talloc ?_) | (with_reducible refine Tch.tset ?_ ?_) | (with_reducible refine Tch.tbelow ?_ q30_) | (with_reducible refine Tch.ttch ?_ q30_ ?_))))))
  ((go_at_call 220;refine (hco _ _).mono ?_;rintro e w5 ⟨rfl,hb5⟩))
 all_goals
  rename_i hH
  obtain ⟨-,-,-,-,-,t5⟩:=hH
  clear mk hb5
  have hc5:=(HC.out.tch T0.out (fun h=>h)).tch t5 (fun h=>h)
  have ha5:=CA.out.tch t5 (fun h=>h)
  have hgl:=ha5.lt
  have hcl5:=hc5.lt
  have hgc : ga ≠ cb:=by omega
  have hcg : cb ≠ ga:=by omega
  have hadd:=i64_add ⟨cb,4,none⟩ ver 1 (ver + 1) _ (hc5.cell 4 rfl) (hc5.frozen 4) (by simp [IntKind.wrap,IntKind.bits,IntKind.signed] <;> omega)
  have hc6:=hc5.set 4 (.int .i64 (ver + 1))
  have ha6:=ha5.other ⟨cb,4,none⟩ (.int .i64 (ver + 1)) hgc
  have f2:=ha6.frozen 2
  have q2:=ha6.cell 2 rfl
  have hc7:=hc6.other ⟨ga,2,none⟩ (.int .i64 (ver + 1)) hcg
  have ha7:=ha6.set 2 (.int .i64 (ver + 1))
  have t7 : Tch (fun k=>k=cb) w ((w5.setCell ⟨cb,4,none⟩ (.int .i64 (ver + 1))).setCell ⟨ga,2,none⟩ (.int .i64 (ver + 1))):=by
   refine Tch.tset (Tch.tset ?_ ?_) ?_
   ·exact (T0.out.trans t5 (fun _ _ h=>h)).mono (fun _ _ h=>h.elim)
   ·exact fun _=>rfl
   ·intro h
    exact absurd h (by show ¬ ga < w.heap.size;omega)
  obtain ⟨W7,hW7⟩ : ∃ W7,((w5.setCell ⟨cb,4,none⟩ (.int .i64 (ver + 1))).setCell ⟨ga,2,none⟩ (.int .i64 (ver + 1)))=W7:=⟨_,rfl⟩
  have hr7:=(((CR.out.tch t5 (fun h=>h)).other ⟨cb,4,none⟩ (.int .i64 (ver + 1)) (by show ga + 1 ≠ cb;omega)).other ⟨ga,2,none⟩ (.int .i64 (ver + 1)) (by show ga + 1 ≠ ga;omega))
  rw [hW7] at hc7 ha7 t7 hr7
  have x0:=ha7.cell 0 rfl
  have x1:=ha7.cell 1 rfl
  have x2:=ha7.cell 2 rfl
  have x3:=ha7.cell 3 rfl
  have ht7:=HT.out.tch t7 (Ne.symm hct)
  have hs7:=HS.out.tch t7 (at_ne2 HS.out HC.out (by decide))
  have hput:=put_any cb tb sb budget (ver + 1) gone v (ver + 1) unt cost W7 hv (hcost _) p0 p1 hc7 ht7 hs7 hct
  have HS7:=Lib.hid hs7
  have hnle : ¬ budget < cost:=by omega
  have HR7:=Lib.hid hr7
  have HA7:=Lib.hid ha7
  have T7:=Lib.hid t7
  clear hc5 ha5 hc6 ha6 t5 hc7 ha7 t7 ht7 hs7 hr7
  go_wp2_with (first | (go_at_call 55;refine hadd.mono ?_;rintro e w6 ⟨rfl,rfl⟩) | (go_at_call 152;refine hput.mono ?_;rintro e w8 ⟨rfl,hl1,hl2,hl3⟩))
  obtain ⟨o,hc8⟩:=hl2
  have t08 : Tch (fun k=>k=cb ∨ k=tb ∨ k=sb) w w8:=(T7.out.mono (fun _ _ h=>.inl h)).trans hl3 (fun k hk h=>h)
  have nI : ∀ (b : Nat) (cs : List Value) (t : Nat),At W7 b cs t→b ≠ cb→b ≠ tb→t ≠ TItems→¬ (b=cb ∨ b=tb ∨ b=sb):=fun b cs t h h1 h2 h3 h4=>by
   rcases h4 with h4 | h4 | h4
   ·exact h1 h4
   ·exact h2 h4
   ·exact at_ne2 h HS7.out h3 h4
  have ha8:=HA7.out.tch hl3 (nI _ _ _ HA7.out hgc (by omega) (by decide))
  have hr8:=HR7.out.tch hl3 (nI _ _ _ HR7.out (by omega) (by omega) (by decide))
  have k0:=hc8.cell 0 rfl
  have k3:=hc8.cell 3 rfl
  have y2:=ha8.cell 2 rfl
  have T8:=Lib.hid t08
  have HR8:=Lib.hid hr8
  have HL1:=Lib.hid hl1
  have HC8:=Lib.hid hc8
  have r0:=hr8.cell 0 rfl
  have r1:=hr8.cell 1 rfl
  have r2:=hr8.cell 2 rfl
  have r3:=hr8.cell 3 rfl
  have r4:=hr8.cell 4 rfl
  have z0:=hr8.frozen 0
  have z1:=hr8.frozen 1
  have z2:=hr8.frozen 2
  have z3:=hr8.frozen 3
  have z4:=hr8.frozen 4
  clear hl1 hl3 hc8 t08 ha8 hr8 nI hput hadd x0 x1 x2 x3 f2 q2 hW7
  go_loopg [] 0 (fun gg wr=>wr=w8)
  case atStart=>exact rfl
  case round=>
   subst hrel
   go_wp2
   go_quiet (fail)
   go_wp2
   have t9 : Tch (fun k=>k=ga + 1) wr _:=(Tch.tdrewN (n:=nq) (Tch.refl (fun k=>k=ga + 1) wr)).trans (tch_set5 (wr.drewN nq) (ga + 1) (.int .i64 0) (.string ⟨#[]⟩) (.int .i64 0) (.int .i64 (ver + 1)) (.slice none 0 0)) (fun _ _ h=>h)
   have a9:=at_set5 (HR8.out.drewN nq) (.int .i64 0) (.string ⟨#[]⟩) (.int .i64 0) (.int .i64 (ver + 1)) (.slice none 0 0)
   obtain ⟨W9,hW9⟩ : ∃ W9,((((((wr.drewN nq).setCell ⟨ga + 1,0,none⟩ (.int .i64 0)).setCell ⟨ga + 1,1,none⟩ (.string ⟨#[]⟩)).setCell ⟨ga + 1,2,none⟩ (.int .i64 0)).setCell ⟨ga + 1,3,none⟩ (.int .i64 (ver + 1))).setCell ⟨ga + 1,4,none⟩ (.slice none 0 0))=W9:=⟨_,rfl⟩
   rw [hW9] at t9 a9 ⊢
   have d0:=a9.cell 0 rfl
   have d1:=a9.cell 1 rfl
   have d2:=a9.cell 2 rfl
   have d3:=a9.cell 3 rfl
   have d4:=a9.cell 4 rfl
   have hl8 : LaidOne (fun k=>k=cb ∨ k=tb ∨ k=sb) w cb tb budget v (ver + 1) unt cost (ver + 1) gone wr:=by
    obtain ⟨b,c,zs,q1,q2,q2',q3⟩:=HL1.out
    have q4:=T7.out.size
    exact ⟨⟨b,c,zs,sb,q1,q2,q2',by omega⟩,⟨o,HC8.out⟩,T8.out⟩
   refine bodyPost_ret (v:=.agg #[.int .i64 0,.string ⟨#[]⟩,.int .i64 0,.int .i64 (ver + 1),.slice none 0 0]) (by simp [results,Tryz.results149,go_sem,d0,d1,d2,d3,d4]) rfl ⟨rfl,?_⟩
   exact hl8.after t9 (fun k h=>by omega) (by omega) (by omega) (fun k cs h=>at_ne2 h HR8.out (by decide)) (fun k cs h=>at_ne2 h HR8.out (by decide))
end Go.Proofs.YtkekohmkaefdnaaGreatDoor
namespace Go.Proofs.YtkekohmkaefdnaaGreatDoor
open Go.RowKit Go.Maps Go.Shelf Go.Sort Go.Lib
attribute [local go_sem ↓] Go.wp_at_zero Go.wp_at_succ
abbrev cmdA : Value:=.agg #[.int .i64 2,.string keyA,.string valX,.int .i64 0,.int .i64 0]
def cmdL : List Value:=[.int .i64 2,.string keyA,.string valX,.int .i64 0,.int .i64 0]
abbrev TCmd : Nat:=35
def repL0 : List Value:=[.int .i64 0,.string ⟨#[]⟩,.int .i64 0,.int .i64 0,.slice none 0 0]
abbrev repV (ver : Int) : Value:=.agg #[.int .i64 0,.string ⟨#[]⟩,.int .i64 0,.int .i64 ver,.slice none 0 0]
theorem cost_any (i : Int) : Pb.cache_Cost.f keyA valX i 0=some 18:=by
 unfold Pb.cache_Cost.f
 decide +kernel
theorem set_any (cb tb : Nat) (budget ver gone now : Int) (w : World) (p2 : 18 ≤ budget) (v0 : 0 ≤ ver) (v1 : ver ≤ 1000000) (n0 : 0 ≤ now) (n1 : now ≤ 1000000000000) (hc : At w cb (cacheV budget tb (.slice none 0 0) 0 ver gone) TCache) (ht : At w tb (tableV false (.slice none 0 0) 0) TTable) :
  Calls Tryz.prog 115 #[.pointer (some ⟨cb,0,none⟩),cmdA,.int .i64 now] w fun e w'=>e=.returned (repV (ver + 1))∧LaidOne (fun k=>k=cb ∨ k=tb) w cb tb budget valX (ver + 1) 0 18 (ver + 1) gone w':=by
 have hcl:=hc.lt
 have htl:=ht.lt
 have hct : cb ≠ tb:=at_ne2 hc ht (by decide)
 have HC:=Lib.hid hc
 have HT:=Lib.hid ht
 clear hc ht
 go_enter Tryz.func115,Tryz.ntmps115
 go_wp2
 have t0 : Tch (fun _=>False) w ((w.alloc (.cells #[.int .i64 2,.string keyA,.string valX,.int .i64 0,.int .i64 0] TCmd)).alloc (.cells #[.int .i64 0,.string ⟨#[]⟩,.int .i64 0,.int .i64 0,.slice none 0 0] TReply)):=((Tch.refl _ w).talloc).talloc
 have ca : At ((w.alloc (.cells #[.int .i64 2,.string keyA,.string valX,.int .i64 0,.int .i64 0] TCmd)).alloc (.cells #[.int .i64 0,.string ⟨#[]⟩,.int .i64 0,.int .i64 0,.slice none 0 0] TReply)) w.heap.size cmdL TCmd:=(At.new w _ _).alloc _
 have cr : At ((w.alloc (.cells #[.int .i64 2,.string keyA,.string valX,.int .i64 0,.int .i64 0] TCmd)).alloc (.cells #[.int .i64 0,.string ⟨#[]⟩,.int .i64 0,.int .i64 0,.slice none 0 0] TReply)) (w.heap.size + 1) repL0 TReply:=at_new' _ _ _ _ (by simp)
 obtain ⟨W0,hW0⟩ : ∃ W0,((w.alloc (.cells #[.int .i64 2,.string keyA,.string valX,.int .i64 0,.int .i64 0] TCmd)).alloc (.cells #[.int .i64 0,.string ⟨#[]⟩,.int .i64 0,.int .i64 0,.slice none 0 0] TReply))=W0:=⟨_,rfl⟩
 rw [hW0] at t0 ca cr ⊢
 have T0:=Lib.hid t0
 have CA:=Lib.hid ca
 have CR:=Lib.hid cr
 have hc0:=HC.out.tch t0 (fun h=>h)
 have ht0:=HT.out.tch t0 (fun h=>h)
 have htl0:=ht0.lt
 have hal0:=ca.lt
 have hrl0:=cr.lt
 clear hW0
 generalize hga : w.heap.size=ga at *
 have hgt : ga ≠ tb:=by omega
 have hg0:=fun W3 (t3 : Tch (fun _=>False) W0 W3)=>get_none (fun sb=>W3.heap.size ≤ sb) tb 0 nil8 W3 (PlaceC.none_ (MadeC.first (ht0.tch t3 (fun h=>h))) (t3.lt htl0)) (t3.lt htl0)
 have hg : ∀ W3,Tch (fun _=>False) W0 W3→Calls Tryz.prog 87 #[.pointer (some ⟨tb,0,none⟩),.string keyA] W3 fun e w'=>e=.returned (.tuple #[zeroItem,.bool false])∧TabIs (fun sb=>W0.heap.size ≤ sb) w' tb 0 nil8∧Tch (fun k=>k=tb) W3 w':=fun W3 t3=>(hg0 W3 t3).mono (by
  rintro e w' ⟨h1,⟨sb,h2,h3,h4⟩,h5⟩
  exact ⟨h1,⟨sb,Nat.le_trans t3.size h2,h3,h4⟩,h5⟩)
 clear hg0
 have mk : ∀ W' : World,Tch (fun k=>k=tb) W0 W'→(W'.cell? ⟨ga,1,none⟩=some (.string keyA)∧W'.cell? ⟨cb,1,none⟩=some (.pointer (some ⟨tb,0,none⟩))∧Tch (fun k=>k=tb) W0 W'):=fun W' h=>⟨(ca.tch h hgt).cell 1 rfl,(hc0.tch h hct).cell 1 rfl,h⟩
 clear t0 ca cr hc0 ht0
 go_region_held3 (fun W'=>W'.cell? ⟨ga,1,none⟩=some (.string keyA)∧W'.cell? ⟨cb,1,none⟩=some (.pointer (some ⟨tb,0,none⟩))∧Tch (fun k=>k=tb) W0 W')
  ((go_split_ands;refine mk _ ?h1;(case h1=>((repeat (first | (with_reducible assumption) | (with_reducible exact Tch.refl _ _) | (with_reducible refine Tch.tdrew ?_) | (with_reducible refine Tch.tdrewN ?_) | (with_reducible refine Tch.talloc ?_) | (with_reducible refine Tch.tset ?_ ?_) | (with_reducible refine Tch.tbelow ?_ q30_) | (with_reducible refine Tch.ttch ?_ q30_ ?_)));all_goals (first | exact fun _ _ h=>h | (intro hlt;first | exact absurd hlt (Nat.lt_irrefl _) | exact absurd hlt (Nat.not_lt.2 ht3.size)))))))
  ((go_at_call 87;refine (hg _ ?_).mono ?_;(repeat (first | (with_reducible assumption) | (with_reducible exact Tch.refl _ _) | (with_reducible refine Tch.tdrew ?_) | (with_reducible refine Tch.tdrewN ?_) | (with_reducible refine Tch.talloc ?_) | (with_reducible refine Tch.tset ?_ ?_) | (with_reducible refine Tch.tbelow ?_ q30_) | (with_reducible refine Tch.ttch ?_ q30_ ?_)));rintro e w3 ⟨rfl,htab,ht3⟩;try (have za:=((at_new' W0 #[.string ⟨#[]⟩,.string ⟨#[]⟩,.int .i64 0,.int .i64 0] TItem W0.heap.size rfl).drew.tch ht3 (by omega));have z0:=za.cell 0 rfl;have z1:=za.cell 1 rfl;have z2:=za.cell 2 rfl;have z3:=za.cell 3 rfl;have y0:=za.frozen 0;have y1:=za.frozen 1;have y2:=za.frozen 2;have y3:=za.frozen 3)))
 all_goals
  rename_i hH
  obtain ⟨-,-,t3⟩:=hH
 all_goals first
  | (
    have htab4:=htab.tch (Tch.alloc (fun _=>False) w3 (.cells #[.string ⟨#[]⟩,.string ⟨#[]⟩,.int .i64 0,.int .i64 0] TItem)) (fun h=>h) (fun _ _ h=>h)
    clear htab ht3
    obtain ⟨W4,hW4⟩ : ∃ W4,w3.alloc (.cells #[.string ⟨#[]⟩,.string ⟨#[]⟩,.int .i64 0,.int .i64 0] TItem)=W4:=⟨_,rfl⟩
    rw [hW4] at t3 htab4 ⊢)
  | (
    have htab4:=htab.tch (tch_set4 w3 W0.heap.size (.string ⟨#[]⟩) (.string ⟨#[]⟩) (.int .i64 0) (.int .i64 0)) (by omega) (fun sb hsb=>at_ne2 hsb za (by decide))
    clear htab ht3 za z0 z1 z2 z3 y0 y1 y2 y3
    obtain ⟨W4,hW4⟩ : ∃ W4,((((w3.setCell ⟨W0.heap.size,0,none⟩ (.string ⟨#[]⟩)).setCell ⟨W0.heap.size,1,none⟩ (.string ⟨#[]⟩)).setCell ⟨W0.heap.size,2,none⟩ (.int .i64 0)).setCell ⟨W0.heap.size,3,none⟩ (.int .i64 0))=W4:=⟨_,rfl⟩
    rw [hW4] at t3 htab4 ⊢)
 all_goals
  clear hW4 mk hg
  have ha4:=CA.out.tch t3 hgt
  have hr4:=CR.out.tch t3 (by omega)
  have hc4:=(HC.out.tch T0.out (fun h=>h)).tch t3 hct
  have u0:=ha4.cell 0 rfl
  have u1:=ha4.cell 1 rfl
  have u2:=ha4.cell 2 rfl
  have u3:=ha4.cell 3 rfl
  have u4:=ha4.cell 4 rfl
  have T4:=Lib.hid t3
  have HA4:=Lib.hid ha4
  have HR4:=Lib.hid hr4
  have HC4:=Lib.hid hc4
  have HTB4:=Lib.hid htab4
  clear t3 ha4 hr4 hc4 htab4
  go_wp2
  have hun:=fun W=>Pb.cache_until.calls 0 now 0 W rfl
  obtain ⟨sb,hsz0,htb4,hsb4⟩:=HTB4.out
  have hwr:=fun W (t : Tch (fun _=>False) W4 W)=>write_any cb tb sb budget ver gone valX 0 0 18 W (by decide) cost_any (by omega) (by omega) p2 v0 v1 (HC4.out.tch t (fun h=>h)) (htb4.tch t (fun h=>h)) (hsb4.tch t (fun h=>h)) hct
  have nI : ∀ (b : Nat) (cs : List Value) (t : Nat),At W4 b cs t→b ≠ cb→b ≠ tb→t ≠ TItems→¬ (b=cb ∨ b=tb ∨ b=sb):=fun b cs t h h1 h2 h3 h4=>by
   rcases h4 with h4 | h4 | h4
   ·exact h1 h4
   ·exact h2 h4
   ·exact at_ne2 h hsb4 h3 h4
  have nga:=nI _ _ _ HA4.out (by omega) hgt (by decide)
  have ngr:=nI _ _ _ HR4.out (by omega) (by omega) (by decide)
  have hgr : ga ≠ ga + 1:=by omega
  have mk : ∀ W' : World,At W' ga cmdL TCmd→(W'.cell? ⟨ga,1,none⟩=some (.string keyA)∧W'.cell? ⟨ga,2,none⟩=some (.string valX)∧W'.cell? ⟨ga,3,none⟩=some (.int .i64 0)∧At W' ga cmdL TCmd):=fun W' h=>⟨h.cell 1 rfl,h.cell 2 rfl,h.cell 3 rfl,h⟩
  have ha4':=HA4.out
  clear htb4 hsb4
  go_region_held3 (fun W'=>W'.cell? ⟨ga,1,none⟩=some (.string keyA)∧W'.cell? ⟨ga,2,none⟩=some (.string valX)∧W'.cell? ⟨ga,3,none⟩=some (.int .i64 0)∧At W' ga cmdL TCmd)
   ((go_split_ands;refine mk _ ?h1;(case h1=>((repeat (first | (with_reducible assumption) | (with_reducible refine At.drew ?_) | (with_reducible refine At.drewN ?_ _) | (with_reducible refine At.alloc ?_ _) | (with_reducible refine At.akeep ?_ rfl) | (with_reducible refine At.other ?_ _ _ ?_) | (with_reducible refine At.abelow ?_ q30_) | (with_reducible refine At.tch ?_ q30_ ?_)));all_goals (first | exact nga | exact hgr)))))
   (first | ((go_at_call 150;refine (hun _).mono ?_;rintro e w5 ⟨rfl,n5,rfl⟩)) | ((go_at_call 149;refine (hwr _ ?_).mono ?_;(repeat (first | (with_reducible assumption) | (with_reducible exact Tch.refl _ _) | (with_reducible refine Tch.tdrew ?_) | (with_reducible refine Tch.tdrewN ?_) | (with_reducible refine Tch.talloc ?_) | (with_reducible refine Tch.tset ?_ ?_) | (with_reducible refine Tch.tbelow ?_ q30_) | (with_reducible refine Tch.ttch ?_ q30_ ?_)));rintro e w6 ⟨rfl,hl6⟩;have hr6:=(HR4.out.drewN _).tch hl6.2.2 ngr;have r0:=hr6.cell 0 rfl;have r1:=hr6.cell 1 rfl;have r2:=hr6.cell 2 rfl;have r3:=hr6.cell 3 rfl;have r4:=hr6.cell 4 rfl;have z0:=hr6.frozen 0;have z1:=hr6.frozen 1;have z2:=hr6.frozen 2;have z3:=hr6.frozen 3;have z4:=hr6.frozen 4;have tt6:=hl6.2.2)))
  all_goals
   have hw4 : Tch (fun k=>k=tb) w W4:=(T0.out.mono (fun _ _ h=>h.elim)).trans T4.out (fun _ _ h=>h)
   have hl7:=hl6.pre (w:=w) (S':=fun k=>k=tb) (by (repeat (first | (with_reducible assumption) | (with_reducible exact Tch.refl _ _) | (with_reducible refine Tch.tdrew ?_) | (with_reducible refine Tch.tdrewN ?_) | (with_reducible refine Tch.talloc ?_) | (with_reducible refine Tch.tset ?_ ?_) | (with_reducible refine Tch.tbelow ?_ q30_) | (with_reducible refine Tch.ttch ?_ q30_ ?_)))) (fun k _ h=>.inr h) (S2:=fun k=>k=cb ∨ k=tb) (fun k hk h=>by
    have q:=T0.out.size
    rcases h with h | h | h
    ·exact .inl h
    ·exact .inr h
    ·omega)
   have t9:=tch_set5 w6 (ga + 1) (.int .i64 0) (.string ⟨#[]⟩) (.int .i64 0) (.int .i64 (ver + 1)) (.slice none 0 0)
   have a9:=at_set5 hr6 (.int .i64 0) (.string ⟨#[]⟩) (.int .i64 0) (.int .i64 (ver + 1)) (.slice none 0 0)
   have hl9:=hl7.after t9 (fun k h=>by omega) (by omega) (by omega) (fun k cs h=>at_ne2 h hr6 (by decide)) (fun k cs h=>at_ne2 h hr6 (by decide))
   obtain ⟨W9,hW9⟩ : ∃ W9,(((((w6.setCell ⟨ga + 1,0,none⟩ (.int .i64 0)).setCell ⟨ga + 1,1,none⟩ (.string ⟨#[]⟩)).setCell ⟨ga + 1,2,none⟩ (.int .i64 0)).setCell ⟨ga + 1,3,none⟩ (.int .i64 (ver + 1))).setCell ⟨ga + 1,4,none⟩ (.slice none 0 0))=W9:=⟨_,rfl⟩
   rw [hW9] at a9 hl9 ⊢
   have d0:=a9.cell 0 rfl
   have d1:=a9.cell 1 rfl
   have d2:=a9.cell 2 rfl
   have d3:=a9.cell 3 rfl
   have d4:=a9.cell 4 rfl
   have HL9:=Lib.hid hl9
   clear hl9 hl7 hl6 tt6 hr6 t9 a9 hW9 r0 r1 r2 r3 r4 z0 z1 z2 z3 z4 u0 u1 u2 u3 u4 mk hwr hun
   go_wp2
   refine bodyPost_ret (v:=repV (ver + 1)) (by simp [results,Tryz.results115,go_sem,d0,d1,d2,d3,d4]) rfl ⟨rfl,HL9.out⟩
theorem do_any (cb tb : Nat) (budget ver gone now : Int) (w : World) (p2 : 18 ≤ budget) (v0 : 0 ≤ ver) (v1 : ver ≤ 1000000) (n0 : 0 ≤ now) (n1 : now ≤ 1000000000000) (hc : At w cb (cacheV budget tb (.slice none 0 0) 0 ver gone) TCache) (ht : At w tb (tableV false (.slice none 0 0) 0) TTable) :
  Calls Tryz.prog 84 #[.pointer (some ⟨cb,0,none⟩),cmdA,.int .i64 now] w fun e w'=>e=.returned (repV (ver + 1))∧LaidOne (fun k=>k=cb ∨ k=tb) w cb tb budget valX (ver + 1) 0 18 (ver + 1) gone w':=by
 have hcl:=hc.lt
 have htl:=ht.lt
 have hct : cb ≠ tb:=at_ne2 hc ht (by decide)
 have t0 : Tch (fun _=>False) w ((w.alloc (.cells #[.int .i64 2,.string keyA,.string valX,.int .i64 0,.int .i64 0] TCmd)).alloc (.cells #[.int .i64 0,.string ⟨#[]⟩,.int .i64 0,.int .i64 0,.slice none 0 0] TReply)):=((Tch.refl _ w).talloc).talloc
 have ca : At ((w.alloc (.cells #[.int .i64 2,.string keyA,.string valX,.int .i64 0,.int .i64 0] TCmd)).alloc (.cells #[.int .i64 0,.string ⟨#[]⟩,.int .i64 0,.int .i64 0,.slice none 0 0] TReply)) w.heap.size cmdL TCmd:=(At.new w _ _).alloc _
 have cr : At ((w.alloc (.cells #[.int .i64 2,.string keyA,.string valX,.int .i64 0,.int .i64 0] TCmd)).alloc (.cells #[.int .i64 0,.string ⟨#[]⟩,.int .i64 0,.int .i64 0,.slice none 0 0] TReply)) (w.heap.size + 1) repL0 TReply:=at_new' _ _ _ _ (by simp)
 obtain ⟨W0,hW0⟩ : ∃ W0,((w.alloc (.cells #[.int .i64 2,.string keyA,.string valX,.int .i64 0,.int .i64 0] TCmd)).alloc (.cells #[.int .i64 0,.string ⟨#[]⟩,.int .i64 0,.int .i64 0,.slice none 0 0] TReply))=W0:=⟨_,rfl⟩
 rw [hW0] at t0 ca cr
 have hc0:=hc.tch t0 (fun h=>h)
 have ht0:=ht.tch t0 (fun h=>h)
 have u0:=ca.cell 0 rfl
 have u1:=ca.cell 1 rfl
 have u2:=ca.cell 2 rfl
 have u3:=ca.cell 3 rfl
 have u4:=ca.cell 4 rfl
 have k1:=hc0.cell 1 rfl
 have hri:=Pb.command_Right.calls 60 2 keyA valX 0 0 true W0 right_set
 have T0:=Lib.hid t0
 have CA:=Lib.hid ca
 have CR:=Lib.hid cr
 have HC:=Lib.hid hc0
 have HT:=Lib.hid ht0
 clear hc ht t0 ca cr hc0 ht0
 go_enter Tryz.func84,Tryz.ntmps84
 go_wp2_with (go_at_call 38;refine hri.mono ?_;rintro e w1 ⟨rfl,hb1⟩)
 have hc1:=HC.out.abelow hb1
 have ht1:=HT.out.abelow hb1
 have ha1:=CA.out.abelow hb1
 have hr1:=CR.out.abelow hb1
 have t1 : Tch (fun _=>False) w w1:=T0.out.tbelow hb1
 have hsw:=sweep_nil cb tb budget 0 ver gone now (.slice none 0 0) w1 hc1 false 0 ht1
 have hset:=set_any cb tb budget ver gone now w1 p2 v0 v1 n0 n1 hc1 ht1
 have u0:=ha1.cell 0 rfl
 have u1:=ha1.cell 1 rfl
 have u2:=ha1.cell 2 rfl
 have u3:=ha1.cell 3 rfl
 have u4:=ha1.cell 4 rfl
 have T1:=Lib.hid t1
 have HR1:=Lib.hid hr1
 have HC1:=Lib.hid hc1
 generalize hga : w.heap.size=ga at *
 have hrc : ga + 1 ≠ cb:=by omega
 have hrt : ga + 1 ≠ tb:=by omega
 clear hc1 ht1 ha1 hr1 t1 hb1 hri hW0 k1
 refine hsw.mono ?_
 rintro e w2 ⟨rfl,rfl⟩
 clear hsw
 go_wp2_with fail
 refine hset.mono ?_
 rintro e w3 ⟨rfl,hl3⟩
 have hr3:=HR1.out.tch hl3.2.2 (fun h=>by
  rcases h with h | h
  ·exact hrc h
  ·exact hrt h)
 have r0:=hr3.cell 0 rfl
 have r1:=hr3.cell 1 rfl
 have r2:=hr3.cell 2 rfl
 have r3:=hr3.cell 3 rfl
 have r4:=hr3.cell 4 rfl
 have z0:=hr3.frozen 0
 have z1:=hr3.frozen 1
 have z2:=hr3.frozen 2
 have z3:=hr3.frozen 3
 have z4:=hr3.frozen 4
 have hl7:=hl3.pre (w:=w) T1.out (fun k _ h=>h.elim) (fun k _ h=>h)
 have t9:=tch_set5 w3 (ga + 1) (.int .i64 0) (.string ⟨#[]⟩) (.int .i64 0) (.int .i64 (ver + 1)) (.slice none 0 0)
 have a9:=at_set5 hr3 (.int .i64 0) (.string ⟨#[]⟩) (.int .i64 0) (.int .i64 (ver + 1)) (.slice none 0 0)
 have hl9:=hl7.after t9 (fun k h=>by omega) (by omega) (by omega) (fun k cs h=>at_ne2 h hr3 (by decide)) (fun k cs h=>at_ne2 h hr3 (by decide))
 obtain ⟨W9,hW9⟩ : ∃ W9,(((((w3.setCell ⟨ga + 1,0,none⟩ (.int .i64 0)).setCell ⟨ga + 1,1,none⟩ (.string ⟨#[]⟩)).setCell ⟨ga + 1,2,none⟩ (.int .i64 0)).setCell ⟨ga + 1,3,none⟩ (.int .i64 (ver + 1))).setCell ⟨ga + 1,4,none⟩ (.slice none 0 0))=W9:=⟨_,rfl⟩
 rw [hW9] at a9 hl9
 have d0:=a9.cell 0 rfl
 have d1:=a9.cell 1 rfl
 have d2:=a9.cell 2 rfl
 have d3:=a9.cell 3 rfl
 have d4:=a9.cell 4 rfl
 have HL9:=Lib.hid hl9
 clear hl9 hl7 hl3 hr3 t9 a9 hset u0 u1 u2 u3 u4
 go_wp2
 refine bodyPost_ret (v:=repV (ver + 1)) (by simp [results,Tryz.results84,go_sem,d0,d1,d2,d3,d4]) rfl ⟨rfl,HL9.out⟩
end Go.Proofs.YtkekohmkaefdnaaGreatDoor
namespace Go.Proofs.YtkekohmkaefdnaaGreatDoor
open Go.RowKit Go.Maps Go.Shelf Go.Proofs.YtkekohmkaefdnaaGreatDoorW.PrintWords Go.Proofs.YtkekohmkaefdnaaGreatDoorW.PrintLast
attribute [local go_sem ↓] Go.wp_at_zero Go.wp_at_succ
def head20 : ByteArray:=⟨#[0,20]⟩
theorem putbig20 : octet_PutBig.f 20 2=some head20:=by decide +kernel
def pad22 : ByteArray:=head20 ++ rep20
def pad32 : ByteArray:=pad22 ++ zb 10
theorem pad22_size : pad22.size=22:=by decide +kernel
theorem pad_any (w : World) : Calls Tryz.prog 120 #[.string rep20] w fun e w'=>e=.returned (.tuple #[.string pad32,.bool true])∧Below w.heap.size w w':=by
 have hs:=size_any 20 w (by decide) (by decide)
 have hp:=fun W=>octet_PutBig.calls 20 2 head20 W putbig20
 have hr:=rep10
 have hz : rep20.size=20:=rfl
 have hz2 : head20.size=2:=rfl
 have hz3 : (head20 ++ rep20).size=22:=pad22_size
 have hz4 : (zb 10).size=10:=rfl
 go_enter Tryz.func120,Tryz.ntmps120
 go_wp2_with (first | (go_at_call 160;refine hs.mono ?_;rintro e w1 ⟨rfl,hb1⟩) | (go_at_call 137;refine (hp _).mono ?_;rintro e w2 ⟨rfl,hb2⟩) | (go_at_call 161;refine (hr _).mono ?_;rintro e w3 ⟨rfl,hb3⟩))
 go_ret2
 exact ⟨rfl,hb1.trans ((hb2.trans (hb3.mono hb2.size)).mono hb1.size)⟩
theorem bytes_any (w : World) : Calls Tryz.prog 85 #[repV 1] w fun e w'=>e=.returned (.tuple #[.string rep20,.bool true])∧Below w.heap.size w w':=by
 have ca : At (w.alloc (.cells #[.int .i64 0,.string ⟨#[]⟩,.int .i64 0,.int .i64 1,.slice none 0 0] TReply)) w.heap.size repL1 TReply:=At.new w _ _
 have a0:=ca.cell 0 rfl
 have a1:=ca.cell 1 rfl
 have a2:=ca.cell 2 rfl
 have a3:=ca.cell 3 rfl
 have a4:=ca.cell 4 rfl
 have hb0 : Below w.heap.size w (w.alloc (.cells #[.int .i64 0,.string ⟨#[]⟩,.int .i64 0,.int .i64 1,.slice none 0 0] TReply)):=(Below.refl _ w).alloc (Nat.le_refl _) _
 have hpr:=fun W=>putreply W
 have hpd:=fun W=>pad_any W
 obtain ⟨W0,hW0⟩ : ∃ W0,w.alloc (.cells #[.int .i64 0,.string ⟨#[]⟩,.int .i64 0,.int .i64 1,.slice none 0 0] TReply)=W0:=⟨_,rfl⟩
 rw [hW0] at a0 a1 a2 a3 a4 hb0
 clear ca
 go_enter Tryz.func85,Tryz.ntmps85
 go_wp2_with (first | (go_at_call 119;refine (hpr _).mono ?_;rintro e w1 ⟨rfl,hb1⟩) | (go_at_call 120;refine (hpd _).mono ?_;rintro e w2 ⟨rfl,hb2⟩))
 go_ret2
 exact ⟨rfl,hb0.trans ((hb1.trans (hb2.mono hb1.size)).mono hb0.size)⟩
theorem told_any (w : World) : Calls Tryz.prog 40 #[repV 1] w fun e w'=>e=.returned (repV 1)∧Below w.heap.size w w':=by
 have ca : At ((w.alloc (.cells #[.int .i64 0,.string ⟨#[]⟩,.int .i64 0,.int .i64 1,.slice none 0 0] TReply)).alloc (.cells #[.int .i64 0,.string ⟨#[]⟩,.int .i64 0,.int .i64 0,.slice none 0 0] TReply)) w.heap.size repL1 TReply:=(At.new w _ _).alloc _
 have cr : At ((w.alloc (.cells #[.int .i64 0,.string ⟨#[]⟩,.int .i64 0,.int .i64 1,.slice none 0 0] TReply)).alloc (.cells #[.int .i64 0,.string ⟨#[]⟩,.int .i64 0,.int .i64 0,.slice none 0 0] TReply)) (w.heap.size + 1) repL0 TReply:=at_new' _ _ _ _ (by simp)
 have t0 : Tch (fun _=>False) w ((w.alloc (.cells #[.int .i64 0,.string ⟨#[]⟩,.int .i64 0,.int .i64 1,.slice none 0 0] TReply)).alloc (.cells #[.int .i64 0,.string ⟨#[]⟩,.int .i64 0,.int .i64 0,.slice none 0 0] TReply)):=((Tch.refl _ w).talloc).talloc
 have hby:=fun W=>bytes_any W
 obtain ⟨W0,hW0⟩ : ∃ W0,((w.alloc (.cells #[.int .i64 0,.string ⟨#[]⟩,.int .i64 0,.int .i64 1,.slice none 0 0] TReply)).alloc (.cells #[.int .i64 0,.string ⟨#[]⟩,.int .i64 0,.int .i64 0,.slice none 0 0] TReply))=W0:=⟨_,rfl⟩
 rw [hW0] at ca cr t0
 have a0:=ca.cell 0 rfl
 have a1:=ca.cell 1 rfl
 have a2:=ca.cell 2 rfl
 have a3:=ca.cell 3 rfl
 have a4:=ca.cell 4 rfl
 have CA:=Lib.hid ca
 have CR:=Lib.hid cr
 have T0:=Lib.hid t0
 clear ca cr t0
 go_enter Tryz.func40,Tryz.ntmps40
 go_wp2_with fail
 refine (hby _).mono ?_
 rintro e w1 ⟨rfl,hb1⟩
 have ca1:=CA.out.abelow hb1
 have cr1:=CR.out.abelow hb1
 have t1:=T0.out.tbelow hb1
 have b0:=ca1.cell 0 rfl
 have b1:=ca1.cell 1 rfl
 have b2:=ca1.cell 2 rfl
 have b3:=ca1.cell 3 rfl
 have b4:=ca1.cell 4 rfl
 have r0:=cr1.cell 0 rfl
 have r1:=cr1.cell 1 rfl
 have r2:=cr1.cell 2 rfl
 have r3:=cr1.cell 3 rfl
 have r4:=cr1.cell 4 rfl
 have z0:=cr1.frozen 0
 have z1:=cr1.frozen 1
 have z2:=cr1.frozen 2
 have z3:=cr1.frozen 3
 have z4:=cr1.frozen 4
 have t9:=tch_set5 w1 (w.heap.size + 1) (.int .i64 0) (.string ⟨#[]⟩) (.int .i64 0) (.int .i64 1) (.slice none 0 0)
 have a9:=at_set5 cr1 (.int .i64 0) (.string ⟨#[]⟩) (.int .i64 0) (.int .i64 1) (.slice none 0 0)
 obtain ⟨W9,hW9⟩ : ∃ W9,(((((w1.setCell ⟨w.heap.size + 1,0,none⟩ (.int .i64 0)).setCell ⟨w.heap.size + 1,1,none⟩ (.string ⟨#[]⟩)).setCell ⟨w.heap.size + 1,2,none⟩ (.int .i64 0)).setCell ⟨w.heap.size + 1,3,none⟩ (.int .i64 1)).setCell ⟨w.heap.size + 1,4,none⟩ (.slice none 0 0))=W9:=⟨_,rfl⟩
 rw [hW9] at a9 t9
 have d0:=a9.cell 0 rfl
 have d1:=a9.cell 1 rfl
 have d2:=a9.cell 2 rfl
 have d3:=a9.cell 3 rfl
 have d4:=a9.cell 4 rfl
 have T9:=Lib.hid (t1.ttch (S':=fun k=>k=w.heap.size + 1) t9 (fun k hk h=>by omega))
 clear ca1 cr1 t1 t9 a9 hb1 a0 a1 a2 a3 a4
 go_wp2
 refine bodyPost_ret (v:=repV 1) (by simp [results,Tryz.results40,go_sem,d0,d1,d2,d3,d4]) rfl ⟨rfl,?_⟩
 exact ⟨T9.out.os,T9.out.tape,T9.out.output,T9.out.size,fun k hk=>T9.out.block k hk (fun h=>h)⟩
end Go.Proofs.YtkekohmkaefdnaaGreatDoor
namespace Go.Proofs.YtkekohmkaefdnaaGreatDoor
open Go.RowKit Go.Maps Go.Shelf Go.Proofs.YtkekohmkaefdnaaGreatDoorW.PrintWords Go.Proofs.YtkekohmkaefdnaaGreatDoorW.PrintLast
attribute [local go_sem ↓] Go.wp_at_zero Go.wp_at_succ
abbrev TNote : Nat:=67
theorem info_note : (Tryz.prog.info? TNote).map (fun i=>(i.zero,i.size,i.bytes))=some (some (.agg #[.string ⟨#[]⟩,.int .i64 0,.string ⟨#[]⟩,.bool false]),4,48):=by kernel_rfl
theorem ring_add (rb : Nat) (u : ByteArray) (op : Int) (k : ByteArray) (a : Bool) (w : World) (hr : At w rb (ringV 2 (.slice none 0 0) 0) TRing) :
  Calls Tryz.prog 83 #[.pointer (some ⟨rb,0,none⟩),.agg #[.string u,.int .i64 op,.string k,.bool a]] w fun e w'=>e=.returned (.tuple #[])∧Tch (fun k=>k=rb) w w':=by
 have hrl:=hr.lt
 have t0 : Tch (fun _=>False) w (w.alloc (.cells #[.string u,.int .i64 op,.string k,.bool a] TNote)):=(Tch.refl _ w).talloc
 have ca : At (w.alloc (.cells #[.string u,.int .i64 op,.string k,.bool a] TNote)) w.heap.size [.string u,.int .i64 op,.string k,.bool a] TNote:=At.new w _ _
 have hr0:=hr.tch t0 (fun h=>h)
 obtain ⟨W0,hW0⟩ : ∃ W0,w.alloc (.cells #[.string u,.int .i64 op,.string k,.bool a] TNote)=W0:=⟨_,rfl⟩
 rw [hW0] at t0 ca hr0
 have hadd:=i64_add ⟨rb,2,none⟩ 0 1 1 W0 (hr0.cell 2 rfl) (hr0.frozen 2) (by decide)
 have hr1:=hr0.set 2 (.int .i64 1)
 have hne : w.heap.size ≠ rb:=by omega
 have ca1:=ca.other ⟨rb,2,none⟩ (.int .i64 1) hne
 have t1 : Tch (fun k=>k=rb) w (W0.setCell ⟨rb,2,none⟩ (.int .i64 1)):=by
  refine Tch.tset (t0.mono (fun _ _ h=>h.elim)) (fun _=>rfl)
 obtain ⟨W1,hW1⟩ : ∃ W1,W0.setCell ⟨rb,2,none⟩ (.int .i64 1)=W1:=⟨_,rfl⟩
 rw [hW1] at hr1 ca1 t1
 have k1:=hr1.cell 1 rfl
 have f1:=hr1.frozen 1
 have u0:=ca1.cell 0 rfl
 have u1:=ca1.cell 1 rfl
 have u2:=ca1.cell 2 rfl
 have u3:=ca1.cell 3 rfl
 have hrl1:=hr1.lt
 have hal1:=ca1.lt
 obtain ⟨i0,hi,hz0',hz1,hz2⟩:=info_parts info_note
 have T1:=Lib.hid t1
 have HR1:=Lib.hid hr1
 have CA1:=Lib.hid ca1
 have hne' : rb ≠ w.heap.size:=Ne.symm hne
 clear hr t0 ca hr0 hr1 ca1 t1
 go_enter Tryz.func83,Tryz.ntmps83
 go_wp2_with (go_at_call 55;refine hadd.mono ?_;rintro e w5 ⟨rfl,rfl⟩)
 try rw [hW1]
 generalize hga : w.heap.size=ga at *
 clear hW0 hW1 hadd
 have mk : ∀ W' : World,Tch (fun _=>False) W1 W'→(W'.cell? ⟨rb,1,none⟩=some (.slice none 0 0)∧W'.cell? ⟨ga,0,none⟩=some (.string u)∧W'.cell? ⟨ga,1,none⟩=some (.int .i64 op)∧W'.cell? ⟨ga,2,none⟩=some (.string k)∧W'.cell? ⟨ga,3,none⟩=some (.bool a)):=fun W' t=>⟨(HR1.out.tch t (fun h=>h)).cell 1 rfl,(CA1.out.tch t (fun h=>h)).cell 0 rfl,(CA1.out.tch t (fun h=>h)).cell 1 rfl,(CA1.out.tch t (fun h=>h)).cell 2 rfl,(CA1.out.tch t (fun h=>h)).cell 3 rfl⟩
 refine start_ (n:=11) (S:=fun W'=>W'.cell? ⟨rb,1,none⟩=some (.slice none 0 0)∧W'.cell? ⟨ga,0,none⟩=some (.string u)∧W'.cell? ⟨ga,1,none⟩=some (.int .i64 op)∧W'.cell? ⟨ga,2,none⟩=some (.string k)∧W'.cell? ⟨ga,3,none⟩=some (.bool a)) (ds:=[10]) _ (by kernel_rfl) rfl rfl (mk _ (Tch.drew _ _)) (fun hHeld=>?_)
 refine pu_ 0 (some 10) ?_
 refine pu_ 1 (some 11) ?_
 refine pu_ 2 (some 12) ?_
 refine pu_ 3 (some 13) ?_
 refine ta_ 4 (some 14) hHeld ?_
 refine ta_ 5 (some 15) hHeld ?_
 refine on_ 6 (some 16) fun K hK=>?_
 go_simp
 refine hK.out _ _ (mk _ (((Tch.refl (fun _=>False) W1).talloc).tdrew)) (fun hHeld2_=>?_)
 clear hK K hHeld;have hHeld:=hHeld2_;clear hHeld2_
 refine nm_ (some 16) ?_
 refine on_ 7 (some 17) fun K hK=>?_
 go_simp
 refine hK.out _ _ (mk _ (((((Tch.refl (fun _=>False) W1).talloc).talloc).tdrew).tdrew)) (fun hHeld2_=>?_)
 clear hK K hHeld;have hHeld:=hHeld2_;clear hHeld2_
 refine nm_ (some 17) ?_
 refine pu_ 8 (some 18) ?_
 refine pu_ 9 (some 19) ?_
 refine la_ 10 none fun K hK=>?_
 go_simp
 refine hK.out _ _ ?_
 clear hK K
 refine nm_ none ?_
 refine done_ (by kernel_rfl) ?_;clear hHeld
 clear mk
 all_goals
  have hsA:=(((HR1.out.set 1 (.slice (some ⟨W1.heap.size + 1,0,none⟩) 1 ((Question.appendCap 1 0 TNote).cut (W1.tape (W1.drawn + 1) (Question.appendCap 1 0 TNote))))).alloc (.cells #[.string u,.int .i64 op,.string k,.bool a] TNote)).alloc (.cells (#[.string u,.int .i64 op,.string k,.bool a] ++ Builtin.zeroCells #[.string ⟨#[]⟩,.int .i64 0,.string ⟨#[]⟩,.bool false] ((Question.appendCap 1 0 TNote).cut (W1.tape (W1.drawn + 1) (Question.appendCap 1 0 TNote)) - 1)) TNote)).drew.drew
  have tA : Tch (fun k=>k=rb) w (((W1.setCell ⟨rb,1,none⟩ (.slice (some ⟨W1.heap.size + 1,0,none⟩) 1 ((Question.appendCap 1 0 TNote).cut (W1.tape (W1.drawn + 1) (Question.appendCap 1 0 TNote))))).alloc (.cells #[.string u,.int .i64 op,.string k,.bool a] TNote)).alloc (.cells (#[.string u,.int .i64 op,.string k,.bool a] ++ Builtin.zeroCells #[.string ⟨#[]⟩,.int .i64 0,.string ⟨#[]⟩,.bool false] ((Question.appendCap 1 0 TNote).cut (W1.tape (W1.drawn + 1) (Question.appendCap 1 0 TNote)) - 1)) TNote)).drew.drew:=by
   (repeat (first | (with_reducible assumption) | (with_reducible exact Tch.refl _ _) | (with_reducible refine Tch.tdrew ?_) | (with_reducible refine Tch.tdrewN ?_) | (with_reducible refine Tch.talloc ?_) | (with_reducible refine Tch.tset ?_ ?_) | (with_reducible refine Tch.tbelow ?_ q30_) | (with_reducible refine Tch.ttch ?_ q30_ ?_)))
   ·exact T1.out
   ·exact fun _=>rfl
  have hcut : 1 ≤ (Question.appendCap 1 0 TNote).cut (W1.tape (W1.drawn + 1) (Question.appendCap 1 0 TNote)):=Nat.le_add_right 1 _
  generalize (Question.appendCap 1 0 TNote).cut (W1.tape (W1.drawn + 1) (Question.appendCap 1 0 TNote))=cc at *
  generalize Builtin.zeroCells #[.string ⟨#[]⟩,.int .i64 0,.string ⟨#[]⟩,.bool false] (cc - 1)=zz at *
  generalize W1.heap.size + 1=gb at *
  obtain ⟨W5,hW5⟩ : ∃ W5,(((W1.setCell ⟨rb,1,none⟩ (.slice (some ⟨gb,0,none⟩) 1 cc)).alloc (.cells #[.string u,.int .i64 op,.string k,.bool a] TNote)).alloc (.cells (#[.string u,.int .i64 op,.string k,.bool a] ++ zz) TNote)).drew.drew=W5:=⟨_,rfl⟩
  rw [hW5] at hsA tA ⊢
  clear hW5 u0 u1 u2 u3 k1 f1
  have m0:=hsA.cell 0 rfl
  have m1:=hsA.cell 1 rfl
  have f1:=hsA.frozen 1
  have hr5 : At W5 rb (ringV 2 (.slice (some ⟨gb,0,none⟩) 1 cc) 1) TRing:=hsA
  have T5:=Lib.hid tA
  clear tA hsA
  have hx : max (IntKind.i64.wrap (1 - max 2 1)) 0=(0 : Int):=by decide
  have hx0 : ¬ cc=0:=by omega
  go_wp2
  refine start_ (n:=21) (S:=fun W'=>W'.cell? ⟨rb,0,none⟩=some (.int .i64 2)∧W'.cell? ⟨rb,1,none⟩=some (.slice (some ⟨gb,0,none⟩) 1 cc)) (ds:=[20]) _ (by kernel_rfl) rfl rfl (⟨(World.cell?_drew _ _).trans m0,(World.cell?_drew _ _).trans m1⟩) (fun hHeld=>?_)
  refine pu_ 0 (some 20) ?_
  refine pu_ 1 (some 21) ?_
  refine pu_ 2 (some 22) ?_
  refine pu_ 3 (some 23) ?_
  refine pu_ 5 (some 25) ?_
  refine pu_ 6 (some 26) ?_
  refine pu_ 7 (some 27) ?_
  refine pu_ 10 (some 30) ?_
  refine pu_ 11 (some 31) ?_
  refine pu_ 12 (some 32) ?_
  refine ta_ 4 (some 24) hHeld ?_
  refine ta_ 8 (some 28) hHeld ?_
  refine pu_ 9 (some 29) ?_
  refine ta_ 13 (some 33) hHeld ?_
  refine pu_ 14 (some 34) ?_
  refine pu_ 15 (some 35) ?_
  refine pu_ 16 (some 36) ?_
  refine pu_ 17 (some 37) ?_
  refine pu_ 18 (some 38) ?_
  refine pu_ 19 (some 39) ?_
  refine la_ 20 none fun K hK=>?_
  go_simp
  refine hK.out _ _ ?_
  clear hK K
  refine nm_ none ?_
  refine done_ (by kernel_rfl) ?_;clear hHeld
  all_goals
   go_end0
   exact ⟨rfl,T5.out.trans ((Tch.refl (fun k=>k=rb) W5).tset (fun _=>rfl)).tdrew (fun _ _ h=>h)⟩
end Go.Proofs.YtkekohmkaefdnaaGreatDoor
namespace Go.Proofs.YtkekohmkaefdnaaGreatDoor
open Go.RowKit Go.Maps Go.Shelf Go.MapKept Go.WideMaps Go.WideShapes Go.Proofs.YtkekohmkaefdnaaGreatDoorW.PrintWords Go.Proofs.YtkekohmkaefdnaaGreatDoorW.PrintLast
theorem user_right (u s : ByteArray) (w : World) (h1 : 1 ≤ u.size) (h2 : u.size ≤ 20) (hs : s.size=32) (hu : userB u=true) :
  Calls Tryz.prog 75 #[.agg #[.string u,.string s]] w fun e w'=>e=.returned (.bool true)∧Below w.heap.size w w':=by
 have h4 : decide ((u.size : Int) < 1)=false:=decide_eq_false (by omega)
 have h5 : decide ((20 : Int) < (u.size : Int))=false:=decide_eq_false (by omega)
 have h6 : ((s.size : Int) != 32)=false:=by rw [hs];rfl
 have HU:=Lib.hid hu
 clear hu hs
 have HB:=Lib.hid ((Below.refl w.heap.size w).alloc (Nat.le_refl _) (.cells #[.string u,.string s] 62))
 have hcv:=Lib.run_convert_string_bytes (P:=Tryz.prog) (w.alloc (.cells #[.string u,.string s] 62)) 9 150 5 u Tryz.underlying9 Tryz.underlying150 Tryz.underlying5
 have hcell : Hid (∀ j,j < u.size→(Lib.bytesWorld (w.alloc (.cells #[.string u,.string s] 62)) 5 u).cell? ⟨(w.alloc (.cells #[.string u,.string s] 62)).heap.size,j,none⟩=some (.int .u8 (u.data.toList.getD j 0).toNat)):=Lib.hid (Lib.bytesWorld_cell _ 5 u)
 have hbb : Below (w.alloc (.cells #[.string u,.string s] 62)).heap.size (w.alloc (.cells #[.string u,.string s] 62)) (Lib.bytesWorld (w.alloc (.cells #[.string u,.string s] 62)) 5 u):=⟨rfl,rfl,rfl,by rw [Lib.bytesWorld_size];omega,fun k hk=>Lib.bytesWorld_at_old _ _ u k hk⟩
 have HB3:=Lib.hid (below_step HB.out hbb)
 clear hbb
 have hs1 : (w.alloc (.cells #[.string u,.string s] 62)).heap.size=w.heap.size + 1:=by simp
 rw [hs1] at hcell hcv
 clear hs1
 generalize grownCap (w.alloc (.cells #[.string u,.string s] 62)) u.size 0 5=cp at hcv
 go_enter Tryz.func75,Tryz.ntmps75
 go_wp2
 generalize Lib.bytesWorld (w.alloc (.cells #[.string u,.string s] 62)) 5 u=W at hcell HB3 ⊢
 clear hcv
 go_loop [25] (fun i=>∃ j : Nat,j ≤ u.size∧i=.int .i64 j) (fun i=>u.size - (intOf i).toNat)
 case atStart=>exact ⟨0,Nat.zero_le _,rfl⟩
 case round=>
  obtain ⟨j,hj,rfl⟩:=hrel
  by_cases hlt : j < u.size
  ·have hc:=hcell.out j hlt
   have hok:=userB_all HU.out j hlt
   generalize u.data.toList.getD j 0=x at hc hok
   have hx256:=x.toNat_lt
   obtain ⟨hok1,hok2⟩:=hok
   go_wp2
   go_round
   case rel=>exact ⟨j + 1,by omega,by go_num⟩
   case measure=>simp [intOf];omega
  ·obtain rfl : j=u.size:=by omega
   go_wp2
   go_ret
   exact ⟨rfl,HB3.out⟩
def userCells (us : List (ByteArray × ByteArray)) : List Value:=us.flatMap fun x=>[.string x.1,.string x.2]
theorem userCells_at : ∀ (us : List (ByteArray × ByteArray)) (k : Nat) (x : ByteArray × ByteArray),us[k]? = some x→(userCells us)[k * 2]? = some (.string x.1)∧(userCells us)[k * 2 + 1]? = some (.string x.2)
 | [],k,x,h=>by simp at h
 | y :: r,0,x,h=>by
  simp at h
  subst h
  exact ⟨rfl,rfl⟩
 | y :: r,k + 1,x,h=>by
  have:=userCells_at r k x (by simpa using h)
  refine ⟨?_,?_⟩
  ·rw [show (k + 1) * 2=k * 2 + 2 from by omega]
   exact this.1
  ·rw [show (k + 1) * 2 + 1=(k * 2 + 1) + 2 from by omega]
   exact this.2
def UsersOk (us : List (ByteArray × ByteArray)) : Prop:=us.length ≤ 20∧(∀ x ∈ us,1 ≤ x.1.size∧x.1.size ≤ 20∧x.2.size=32∧userB x.1=true)∧us.Pairwise (fun a b=>a.1 ≠ b.1)
theorem ba_inj_ {a b : ByteArray} (h : a.data.toList=b.data.toList) : a=b:=by
 obtain ⟨⟨a⟩⟩:=a
 obtain ⟨⟨b⟩⟩:=b
 simp at h
 rw [h]
def keyS (s : ByteArray) : Lit:=.string s.data.toList
def NewUsersE (w : World) (e : Ending) (w' : World) : Prop:=∃ ub,e=.returned (.tuple #[.pointer (some ⟨ub,0,none⟩),.int .i64 0])∧w.heap.size ≤ ub∧ub < w'.heap.size∧Below w.heap.size w w'
def Free (D : Da) (us : List (ByteArray × ByteArray)) (k : Nat) : Prop:=∀ j x,k ≤ j→us[j]? = some x→D.atKey (keyS x.1) nilD=nilD
theorem users_new (us : List (ByteArray × ByteArray)) (lb cp : Nat) (w : World) (hl : At w lb (userCells us) 62) (hu : UsersOk us) :
  Calls Tryz.prog 34 #[.slice (some ⟨lb,0,none⟩) us.length cp] w (NewUsersE w):=by
 obtain ⟨hn,hall,hpw⟩:=hu
 have h5 : decide ((20 : Int) < (us.length : Int))=false:=decide_eq_false (by omega)
 have hlb:=hl.lt
 have hmm:=@run_makeMap Tryz.prog
 have HL:=Lib.hid hl
 have HA:=Lib.hid hall
 have HPW:=Lib.hid hpw
 clear hl hall hpw
 go_enter Tryz.func34,Tryz.ntmps34
 go_wp2
 go_loopw [15] (fun i wr=>∃ (k : Nat) (D : Da),k ≤ us.length∧i=.int .i64 k∧Aside (At wr lb (userCells us) 62)∧Aside (At wr (w.heap.size + 1) [.map (some w.heap.size)] 158)∧Aside (wr.ownsMap Tryz.prog 9 Rp w.heap.size k D∧Tidy D)∧Aside (Free D us k)∧Aside (Below w.heap.size w wr)) (fun i _=>us.length - (intOf i).toNat)
 case atStart=>
  refine ⟨0,.map [],Nat.zero_le _,rfl,(HL.out.alloc _).alloc _,at_new' (w.alloc (.map #[] 0)) #[.map (some w.heap.size)] _ _ (by simp),⟨ownsMap_tch (World.ownsMap_made w Tryz.prog _ Rp) (Tch.alloc (fun _=>False) _ _) (fun h=>h),tidy_empty⟩,fun j x _ _=>rfl,((Below.refl _ w).alloc (Nat.le_refl _) _).alloc (by simp) _⟩
 case round=>
  obtain ⟨k,D,hk,rfl,hL,hU,hM,hF,hB⟩:=hrel
  by_cases hlt : k < us.length
  ·obtain ⟨x,hx⟩ : ∃ x,us[k]? = some x:=⟨_,List.getElem?_eq_getElem hlt⟩
   have hxm:=List.mem_of_getElem? hx
   obtain ⟨o1,o2,o3,o4⟩:=HA.out x hxm
   obtain ⟨d1,d2⟩:=userCells_at us k x hx
   have c1:=hL.out.cell _ d1
   have c2:=hL.out.cell _ d2
   have HX:=Lib.hid hx
   have hwl:=hB.out.size
   have hul:=hU.out.lt
   have hml:=hM.out.1.lt
   have cu:=hU.out.cell 0 rfl
   have hr:=fun W=>user_right x.1 x.2 W o1 o2 o3 o4
   have hc1 : ∀ W,Calls Tryz.prog 57 #[.string x.1] W fun e w'=>e=.returned (.string x.1)∧Below W.heap.size W w':=fun W=>clone_any x.1 W (by omega)
   have hc2 : ∀ W,Calls Tryz.prog 57 #[.string x.2] W fun e w'=>e=.returned (.string x.2)∧Below W.heap.size W w':=fun W=>clone_any x.2 W (by omega)
   clear hx hxm d1 d2 o1 o4
   obtain ⟨xn,xs⟩:=x
   dsimp only at c1 c2 hr hc1 hc2 o3 o2
   clear o3
   go_wp2
   have hx2 : At (wr.alloc (.cells #[.string xn,.string xs] 62)) wr.heap.size [.string xn,.string xs] 62:=At.new wr _ _
   have hB2:=hB.out.alloc (Nat.le_of_lt hml) (.cells #[.string xn,.string xs] 62)
   have hL2:=hL.out.alloc (.cells #[.string xn,.string xs] 62)
   have hU2:=hU.out.alloc (.cells #[.string xn,.string xs] 62)
   have hM2:=ownsMap_tch hM.out.1 (Tch.alloc (fun _=>False) wr (.cells #[.string xn,.string xs] 62)) (fun h=>h)
   have HTD:=Lib.hid hM.out.2
   obtain ⟨Wa,hWa⟩ : ∃ Wa,wr.alloc (.cells #[.string xn,.string xs] 62)=Wa:=⟨_,rfl⟩
   have hsa : Wa.heap.size=wr.heap.size + 1:=by rw [← hWa];simp
   rw [hWa] at hx2 hB2 hL2 hU2 hM2 ⊢
   clear hWa hL hU hM hB c1 c2 cu
   have hsa1 : wr.heap.size + 1 ≤ Wa.heap.size:=Nat.le_of_eq hsa.symm
   clear hsa
   have c1:=hx2.cell 0 rfl
   have c2:=hx2.cell 1 rfl
   have cu:=hU2.cell 0 rfl
   obtain ⟨es,clock,hmb,F,hes,hD⟩:=hM2
   have hown : ∀ W1 : World,W1.heap[w.heap.size]? = some (.map es clock)→W1.ownsMap Tryz.prog 9 Rp w.heap.size k D:=fun W1 h=>⟨es,clock,h,F,hes,hD⟩
   have hkey : keyOf Tryz.prog 9 (.string xn)=some (keyS xn):=keyOf_string_mk Tryz.underlying9 (by unfold maxLen;omega)
   have hfree:=hF.out k _ (Nat.le_refl _) HX.out
   have hlk : ∀ W1 : World,W1.heap[w.heap.size]? = some (.map es clock)→(Instr.lookup 156 (.map (some w.heap.size)) (.string xn) false).run Tryz.prog W1=.ok (.pointer none) W1:=fun W1 h=>by
    obtain ⟨v,ps,hrun,hv⟩:=(hown W1 h).lookup (t:=156) (e:=160) (string_keyed Tryz.underlying9) Tryz.underlying156 (z:=.pointer none) (by kernel_rfl) Rp_nil hkey
    rw [hfree] at hv
    rw [Rp_is_nil hv] at hrun
    exact hrun
   have hspec : ∀ (W1 : World) (g : Nat),W1.heap[w.heap.size]? = some (.map es clock)→∃ w',(Instr.mapUpdate 156 (.map (some w.heap.size)) (.string xn) (.pointer (some ⟨g,0,none⟩))).run Tryz.prog W1=.ok () w'∧w'.ownsMap Tryz.prog 9 Rp w.heap.size (k + 1) (D.put (keyS xn) (ptrD g))∧W1.grownBy w' (some w.heap.size):=fun W1 g h=>
    (hown W1 h).update (t:=156) (e:=160) (string_keyed Tryz.underlying9) Tryz.underlying156 (by unfold maxLen;omega) hkey (Rp_ptr g)
   have hokA : ∀ (W1 : World),W1.heap[w.heap.size]? = some (.map es clock)→∀ g,(Instr.mapUpdate 156 (.map (some w.heap.size)) (.string xn) (.pointer (some ⟨g,0,none⟩))).run Tryz.prog W1=.ok () (afterUpd 156 (.map (some w.heap.size)) (.string xn) (.pointer (some ⟨g,0,none⟩)) W1):=fun W1 h g=>by
    obtain ⟨w',h1,_⟩:=hspec W1 g h
    rw [upd_run h1]
    exact h1
   have hokB : ∀ (W0 : World) (g0 : Nat),W0.heap[w.heap.size]? = some (.map es clock)→∀ g,(Instr.mapUpdate 156 (.map (some w.heap.size)) (.string xn) (.pointer (some ⟨g,0,none⟩))).run Tryz.prog (afterUpd 156 (.map (some w.heap.size)) (.string xn) (.pointer (some ⟨g0,0,none⟩)) W0)=.ok () (afterUpd 156 (.map (some w.heap.size)) (.string xn) (.pointer (some ⟨g,0,none⟩)) (afterUpd 156 (.map (some w.heap.size)) (.string xn) (.pointer (some ⟨g0,0,none⟩)) W0)):=fun W0 g0 h g=>by
    obtain ⟨w',h1,h2,_⟩:=hspec W0 g0 h
    rw [upd_run h1]
    obtain ⟨w2,h3,_⟩:=h2.update (t:=156) (e:=160) (string_keyed Tryz.underlying9) Tryz.underlying156 (by unfold maxLen;omega) hkey (Rp_ptr g)
    rw [upd_run h3]
    exact h3
   have hcu : ∀ (W1 : World) (g b : Nat),W1.heap[w.heap.size]? = some (.map es clock)→w.heap.size < b→b < W1.heap.size→∀ i,(afterUpd 156 (.map (some w.heap.size)) (.string xn) (.pointer (some ⟨g,0,none⟩)) W1).cell? ⟨b,i,none⟩=W1.cell? ⟨b,i,none⟩:=fun W1 g b h hb1 hb2 i=>by
    obtain ⟨w',h1,_,h3⟩:=hspec W1 g h
    rw [upd_run h1]
    exact World.cell?_of_block (h3.block b hb2 (fun e=>by injection e with e;omega))
   have HSP:=Lib.hid hspec
   have HB2:=Lib.hid hB2
   have HL2:=Lib.hid hL2
   have HU2:=Lib.hid hU2
   have HF:=Lib.hid hF.out
   clear hspec hown hD hes F hkey hfree hB2 hL2 hU2 hx2 hF
   go_region_held3 (fun w'=>w'.cell? ⟨wr.heap.size,0,none⟩=some (.string xn)∧w'.cell? ⟨wr.heap.size,1,none⟩=some (.string xs)∧w'.cell? ⟨w.heap.size + 1,0,none⟩=some (.map (some w.heap.size))∧(Instr.lookup 156 (.map (some w.heap.size)) (.string xn) false).run Tryz.prog w'=.ok (.pointer none) w')
    ((go_split_ands;refine ⟨by (first | assumption | go_keep | (rw [hbr.cell q33_];first | assumption | go_keep)),by (first | assumption | go_keep | (rw [hbr.cell q33_];first | assumption | go_keep)),by (first | assumption | go_keep | (rw [hbr.cell q33_];first | assumption | go_keep)),by (first | assumption | ((refine hlk _ ?_);(repeat (first | exact hmb | (rw [heap_drew_]) | ((refine (hbr.block _ ?hszb).trans ?_);(case hszb=>(first | omega | (simp;omega)))) | ((refine (Below.heap_alloc _ _ _ ?hsz).trans ?_);(case hsz=>(first | omega | (simp;omega))))))))⟩))
    ((go_at_call 75;refine (hr _).mono ?_;rintro e W2 ⟨rfl,hbr⟩;have hzr:=hbr.size;(try simp at hzr)))
   go_wp2
   go_region_held3 (fun w'=>w'.cell? ⟨wr.heap.size,0,none⟩=some (.string xn)∧w'.cell? ⟨wr.heap.size,1,none⟩=some (.string xs)∧w'.cell? ⟨w.heap.size + 1,0,none⟩=some (.map (some w.heap.size))∧(∀ g,(Instr.mapUpdate 156 (.map (some w.heap.size)) (.string xn) (.pointer (some ⟨g,0,none⟩))).run Tryz.prog w'=.ok () (afterUpd 156 (.map (some w.heap.size)) (.string xn) (.pointer (some ⟨g,0,none⟩)) w')))
    ((go_split_ands;refine ⟨by (first | assumption | go_keep | (rw [hb2.cell q33_];first | assumption | go_keep) | (rw [hb1.cell q33_];first | assumption | go_keep) | (rw [hbr.cell q33_];first | assumption | go_keep) | ((refine (hcu _ _ _ ?h1 ?h2 ?h2b _).trans ?h3);(case h1=>(repeat (first | exact hmb | (rw [heap_drew_]) | ((refine (hb1.block _ ?hszb).trans ?_);(case hszb=>(first | omega | (simp;omega)))) | ((refine (hb2.block _ ?hszb).trans ?_);(case hszb=>(first | omega | (simp;omega)))) | ((refine (hbr.block _ ?hszb).trans ?_);(case hszb=>(first | omega | (simp;omega)))) | ((refine (Below.heap_alloc _ _ _ ?hsz).trans ?_);(case hsz=>(first | omega | (simp;omega)))))));(case h2=>omega);(case h2b=>(first | omega | (simp;omega)));(case h3=>(first | assumption | go_keep | (rw [hb1.cell q33_];first | assumption | go_keep) | (rw [hb2.cell q33_];first | assumption | go_keep) | (rw [hbr.cell q33_];first | assumption | go_keep))))),by (first | assumption | go_keep | (rw [hb2.cell q33_];first | assumption | go_keep) | (rw [hb1.cell q33_];first | assumption | go_keep) | (rw [hbr.cell q33_];first | assumption | go_keep) | ((refine (hcu _ _ _ ?h1 ?h2 ?h2b _).trans ?h3);(case h1=>(repeat (first | exact hmb | (rw [heap_drew_]) | ((refine (hb1.block _ ?hszb).trans ?_);(case hszb=>(first | omega | (simp;omega)))) | ((refine (hb2.block _ ?hszb).trans ?_);(case hszb=>(first | omega | (simp;omega)))) | ((refine (hbr.block _ ?hszb).trans ?_);(case hszb=>(first | omega | (simp;omega)))) | ((refine (Below.heap_alloc _ _ _ ?hsz).trans ?_);(case hsz=>(first | omega | (simp;omega)))))));(case h2=>omega);(case h2b=>(first | omega | (simp;omega)));(case h3=>(first | assumption | go_keep | (rw [hb1.cell q33_];first | assumption | go_keep) | (rw [hb2.cell q33_];first | assumption | go_keep) | (rw [hbr.cell q33_];first | assumption | go_keep))))),by (first | assumption | go_keep | (rw [hb2.cell q33_];first | assumption | go_keep) | (rw [hb1.cell q33_];first | assumption | go_keep) | (rw [hbr.cell q33_];first | assumption | go_keep) | ((refine (hcu _ _ _ ?h1 ?h2 ?h2b _).trans ?h3);(case h1=>(repeat (first | exact hmb | (rw [heap_drew_]) | ((refine (hb1.block _ ?hszb).trans ?_);(case hszb=>(first | omega | (simp;omega)))) | ((refine (hb2.block _ ?hszb).trans ?_);(case hszb=>(first | omega | (simp;omega)))) | ((refine (hbr.block _ ?hszb).trans ?_);(case hszb=>(first | omega | (simp;omega)))) | ((refine (Below.heap_alloc _ _ _ ?hsz).trans ?_);(case hsz=>(first | omega | (simp;omega)))))));(case h2=>omega);(case h2b=>(first | omega | (simp;omega)));(case h3=>(first | assumption | go_keep | (rw [hb1.cell q33_];first | assumption | go_keep) | (rw [hb2.cell q33_];first | assumption | go_keep) | (rw [hbr.cell q33_];first | assumption | go_keep))))),by (first | assumption | ((refine hokB _ _ ?_);(repeat (first | exact hmb | (rw [heap_drew_]) | ((refine (hb1.block _ ?hszb).trans ?_);(case hszb=>(first | omega | (simp;omega)))) | ((refine (hb2.block _ ?hszb).trans ?_);(case hszb=>(first | omega | (simp;omega)))) | ((refine (hbr.block _ ?hszb).trans ?_);(case hszb=>(first | omega | (simp;omega)))) | ((refine (Below.heap_alloc _ _ _ ?hsz).trans ?_);(case hsz=>(first | omega | (simp;omega))))))) | ((refine hokA _ ?_);(repeat (first | exact hmb | (rw [heap_drew_]) | ((refine (hb1.block _ ?hszb).trans ?_);(case hszb=>(first | omega | (simp;omega)))) | ((refine (hb2.block _ ?hszb).trans ?_);(case hszb=>(first | omega | (simp;omega)))) | ((refine (hbr.block _ ?hszb).trans ?_);(case hszb=>(first | omega | (simp;omega)))) | ((refine (Below.heap_alloc _ _ _ ?hsz).trans ?_);(case hsz=>(first | omega | (simp;omega))))))))⟩))
    (first | ((go_at_call 57;refine (hc1 _).mono ?_;rintro e W3 ⟨rfl,hb1⟩;have hz1:=hb1.size;(try simp at hz1))) | ((go_at_call 57;refine (hc2 _).mono ?_;rintro e W4 ⟨rfl,hb2⟩;have hz2:=hb2.size;(try simp at hz2))))
   have hm4 : (W4.alloc (.cells #[.string xs,.int .i64 0,.bool false,.int .i64 0] 162)).heap[w.heap.size]? = some (.map es clock):=by (repeat (first | exact hmb | (rw [heap_drew_]) | ((refine (hb1.block _ ?hszb).trans ?_);(case hszb=>(first | omega | (simp;omega)))) | ((refine (hb2.block _ ?hszb).trans ?_);(case hszb=>(first | omega | (simp;omega)))) | ((refine (hbr.block _ ?hszb).trans ?_);(case hszb=>(first | omega | (simp;omega)))) | ((refine (Below.heap_alloc _ _ _ ?hsz).trans ?_);(case hsz=>(first | omega | (simp;omega))))))
   have t0 : Tch (fun _=>False) Wa W2:=⟨hbr.os,hbr.tape,hbr.output,hbr.size,fun k hk _=>hbr.block k hk⟩
   have t1 : Tch (fun _=>False) W2 W3:=⟨hb1.os,hb1.tape,hb1.output,hb1.size,fun k hk _=>hb1.block k hk⟩
   have t2 : Tch (fun _=>False) W3 W4:=⟨hb2.os,hb2.tape,hb2.output,hb2.size,fun k hk _=>hb2.block k hk⟩
   have tA:=((t0.trans t1 (fun _ _ h=>h)).trans t2 (fun _ _ h=>h)).trans (Tch.alloc (fun _=>False) W4 (.cells #[.string xs,.int .i64 0,.bool false,.int .i64 0] 162)) (fun _ _ h=>h)
   obtain ⟨w9,hrun,hown9,hgr⟩:=HSP.out _ W4.heap.size hm4
   rw [upd_run hrun]
   have t9:=(tA.mono (S':=fun k=>k=w.heap.size) (fun _ _ h=>h.elim)).trans (Tch.of_grown hgr) (fun k _ hk=>by injection hk with hk;exact hk.symm)
   have HT9:=Lib.hid t9
   have HO9:=Lib.hid hown9
   clear hrun hown9 hgr tA t0 t1 t2 t9 hm4 hlk hokA hokB hcu hmb hb1 hb2 hbr hr hc1 hc2
   go_wp2
   go_roundw
   case rel=>
    refine ⟨k + 1,D.put (keyS xn) (ptrD W4.heap.size),by omega,by go_num,HL2.out.tch HT9.out (by omega),HU2.out.tch HT9.out (by omega),⟨HO9.out,HTD.out.put (show WideAt.IsKeyLit (keyS xn) from trivial) _⟩,fun j x hj hx=>?_,HT9.out.below HB2.out (by omega) (fun _ h=>Nat.le_of_eq h.symm)⟩
    rw [atKey_put_other (fun e=>?_)]
    ·exact HF.out j x (by omega) hx
    ·obtain ⟨hk1,hk2⟩:=List.getElem?_eq_some_iff.1 HX.out
     obtain ⟨hj1,hj2⟩:=List.getElem?_eq_some_iff.1 hx
     have hne:=List.pairwise_iff_getElem.1 HPW.out k j hk1 hj1 (by omega)
     rw [hk2,hj2] at hne
     refine hne ?_
     injection e with e
     exact (ba_inj_ e).symm
   case measure=>simp [intOf];omega
  ·obtain rfl : k=us.length:=by omega
   go_wp2
   go_ret2
   exact ⟨_,rfl,by omega,hU.out.lt,hB.out⟩
end Go.Proofs.YtkekohmkaefdnaaGreatDoor
namespace Go.Proofs.YtkekohmkaefdnaaGreatDoor
open Go.RowKit Go.Maps Go.Shelf Go.Proofs.YtkekohmkaefdnaaGreatDoorW.PrintWords Go.Proofs.YtkekohmkaefdnaaGreatDoorW.PrintLast Go.Proofs.YtkekohmkaefdnaaGreatDoor.Pa
attribute [local go_sem ↓] Go.wp_at_zero Go.wp_at_succ
structure NewAt (w : World) (p mb ub cb tb rb : Nat) (rv : Value) (rules : List S145) (budget ring : Int) : Prop where
 port : At w p (portV (.pointer (some ⟨ub,0,none⟩)) rv (.pointer (some ⟨cb,0,none⟩)) (.pointer (some ⟨rb,0,none⟩)) 0 0 mb) TPort
 conns : Conns w mb [] []
 rules_ : ∃ A c,rv=.slice A rules.length c∧rules.length ≤ c∧Kd.C k145 w A rules.length rules∧∀ ad,A=some ad→∃ cells,At w ad.block cells 145
 cache : At w cb (cacheV budget tb (.slice none 0 0) 0 0 0) TCache
 table : At w tb (tableV false (.slice none 0 0) 0) TTable
 ring_ : At w rb (ringV ring (.slice none 0 0) 0) TRing
def NewE (rules : List S145) (budget ring : Int) (w : World) (e : Ending) (w' : World) : Prop:=
 ∃ p mb ub cb tb rb rv,e=.returned (.tuple #[.pointer (some ⟨p,0,none⟩),.int .i64 0])∧NewAt w' p mb ub cb tb rb rv rules budget ring∧Below w.heap.size w w'∧(w.heap.size ≤ p∧w.heap.size ≤ mb∧w.heap.size ≤ cb∧w.heap.size ≤ tb∧w.heap.size ≤ rb)
theorem below_drew_ {B : Nat} {w W : World} (h : Below B w W) : Below B w W.drew:=⟨h.os,h.tape,h.output,h.size,h.block⟩
theorem map_new' (W : World) (b : Nat) (h : W.heap.size=b) : (W.alloc (.map #[] 0)).heap[b]? = some (.map #[] 0):=h ▸ (MapKept.heap_alloc W _).1
theorem conns_new {w : World} {mb : Nat} (h : w.heap[mb]? = some (.map #[] 0)) : Conns w mb [] []:=
 ⟨⟨.map [],⟨#[],0,h,⟨by simp,MapKept.stamped_empty 0,by simp⟩,Nat.le_refl _,rfl⟩,MapIs.empty⟩,rfl,fun i b s h=>by simp at h,List.nodup_nil⟩
theorem new_end {rules : List S145} {budget ring : Int} {w W0 W1 W2 W' : World} {rv : Value} {p mb ub cb tb rb : Nat} (hrv : Kd.R k145 145 W2 W1.heap.size (fun _=>True) rv rules) (hb : Below W2.heap.size W2 W')
  (hp : At W' p (portV (.pointer (some ⟨ub,0,none⟩)) rv (.pointer (some ⟨cb,0,none⟩)) (.pointer (some ⟨rb,0,none⟩)) 0 0 mb) TPort) (hm : W'.heap[mb]? = some (.map #[] 0)) (hc : At W' cb (cacheV budget tb (.slice none 0 0) 0 0 0) TCache) (ht : At W' tb (tableV false (.slice none 0 0) 0) TTable) (hr : At W' rb (ringV ring (.slice none 0 0) 0) TRing)
  (h0 : Below w.heap.size w W0) (h1 : Below W0.heap.size W0 W1) (h2 : Below W1.heap.size W1 W2) (hg : W2.heap.size ≤ p∧W2.heap.size ≤ mb∧W2.heap.size ≤ cb∧W2.heap.size ≤ tb∧W2.heap.size ≤ rb) : NewE rules budget ring w (.returned (.tuple #[.pointer (some ⟨p,0,none⟩),.int .i64 0])) W':=by
 refine ⟨p,mb,ub,cb,tb,rb,rv,rfl,⟨hp,conns_new hm,?_,hc,ht,hr⟩,((h0.trans (h1.mono h0.size)).trans (h2.mono (Nat.le_trans h0.size h1.size))).trans (hb.mono (Nat.le_trans (Nat.le_trans h0.size h1.size) h2.size)),?_⟩
 rotate_left
 ·have a:=h0.size
  have b:=h1.size
  have c:=h2.size
  obtain ⟨g1,g2,g3,g4,g5⟩:=hg
  exact ⟨by omega,by omega,by omega,by omega,by omega⟩
 have hrv':=Kd.R_mono (Kd.R_step hrv (fun k _ hlt=>hb.block k hlt)) (fun _ _=>trivial)
 obtain ⟨A,c,rfl,h1,h2⟩:=Kd.R_reads hrv'
 refine ⟨A,c,rfl,h1,h2,?_⟩
 rintro ad rfl
 obtain ⟨_,_,_,q,hq,cells,hcells⟩:=(Kd.R_bound hrv').1 ad.block rfl
 have hq' : q=145:=by
  have : q ∈ [(145 : Nat)]:=hq
  simpa using this
 subst hq'
 exact ⟨cells.toList,hcells⟩
theorem port_new (us : List (ByteArray × ByteArray)) (lb cp k : Nat) (rt : ByteArray) (rules : List S145) (r2 budget ring : Int) (w : World) (hl : At w lb (userCells us) 62) (hu : UsersOk us)
  (hr : Pb.acl_Parse.f k rt=some (rules,r2,true)) (hLd : Laid w) (b1 : 0 ≤ budget) (b2 : budget ≤ 1000000) (g1 : 1 ≤ ring) (g2 : ring ≤ 50) :
  Calls Tryz.prog 9 #[.agg #[.slice (some ⟨lb,0,none⟩) us.length cp,.string rt,.int .i64 budget,.int .i64 ring]] w (NewE rules budget ring w):=by
 have hlw:=hl.lt
 have hsv : At (w.alloc (.cells #[.slice (some ⟨lb,0,none⟩) us.length cp,.string rt,.int .i64 budget,.int .i64 ring] 26)) w.heap.size [.slice (some ⟨lb,0,none⟩) us.length cp,.string rt,.int .i64 budget,.int .i64 ring] 26:=At.new w _ _
 have hbw : Below w.heap.size w (w.alloc (.cells #[.slice (some ⟨lb,0,none⟩) us.length cp,.string rt,.int .i64 budget,.int .i64 ring] 26)):=(Below.refl _ w).alloc (Nat.le_refl _) _
 have hun:=users_new us lb cp (w.alloc (.cells #[.slice (some ⟨lb,0,none⟩) us.length cp,.string rt,.int .i64 budget,.int .i64 ring] 26)) (hl.alloc _) hu
 have hLd2:=hLd.below rfl hbw
 obtain ⟨W0,hW0⟩ : ∃ W0,w.alloc (.cells #[.slice (some ⟨lb,0,none⟩) us.length cp,.string rt,.int .i64 budget,.int .i64 ring] 26)=W0:=⟨_,rfl⟩
 rw [hW0] at hsv hbw hun hLd2
 have s0:=hsv.cell 0 rfl
 have s1:=hsv.cell 1 rfl
 have hsl:=hsv.lt
 have HR:=Lib.hid hr
 have HS:=Lib.hid hsv
 have HB:=Lib.hid hbw
 have HL:=Lib.hid hLd2
 clear hl hu hr hLd hsv hbw hLd2
 go_enter Tryz.func9,Tryz.ntmps9
 go_wp2_with fail
 refine hun.mono ?_
 rintro e W1 ⟨ub,rfl,u1,u2,hb1⟩
 clear hun hW0 s0
 have hs1:=HS.out.below hb1 hsl
 have hpa:=Pb.acl_Parse.calls k rt rules r2 true W1 HR.out (HL.out.below rfl hb1)
 have s1:=hs1.cell 1 rfl
 have HS1:=Lib.hid hs1
 have HB1:=Lib.hid hb1
 have z1:=hb1.size
 clear hb1 hs1
 go_wp2_with fail
 refine hpa.mono ?_
 rintro e W2 ⟨rv,rfl,hrv,hb2⟩
 clear hpa s1
 have hs2:=HS1.out.below hb2 (Nat.lt_of_lt_of_le hsl z1)
 have s2:=hs2.cell 2 rfl
 have s3:=hs2.cell 3 rfl
 have HS2:=Lib.hid hs2
 have HB2:=Lib.hid hb2
 obtain ⟨Ar,cr,rfl⟩ : ∃ Ar cr,rv=.slice Ar rules.length cr:=Kd.R_slice hrv
 have HRV:=Lib.hid hrv
 have z2:=hb2.size
 have hmm:=@run_makeMap Tryz.prog
 have hcn:=fun W=>cache_new budget W b1 b2
 have hrn:=fun W=>ring_new ring W g1 g2
 clear hb2 hs2 hrv
 go_wp2
 go_region_held3 (fun w'=>w'.cell? ⟨w.heap.size,2,none⟩=some (.int .i64 budget)∧w'.cell? ⟨w.heap.size,3,none⟩=some (.int .i64 ring)) ((go_split_ands;refine ⟨by (repeat (first | assumption | (rw [World.cell?_drew]) | (refine Lib.cell?_alloc_some _ ?_))),by (repeat (first | assumption | (rw [World.cell?_drew]) | (refine Lib.cell?_alloc_some _ ?_)))⟩))
  (first | ((go_at_call 36;refine (hcn _).mono ?_;rintro e W3 ⟨rfl,rfl⟩)) | ((go_at_call 37;refine (hrn _).mono ?_;rintro e W4 ⟨rfl,rfl⟩)))
 all_goals
  go_wp2
  go_ret2
  apply new_end HRV.out (h0:=HB.out) (h1:=HB1.out) (h2:=HB2.out)
  case hp=>(repeat (first | ((refine at_new' _ _ _ _ ?hs2);(case hs2=>(first | rfl | (simp;done)))) | (refine At.drew ?_) | (refine At.alloc ?_ _)))
  case hb=>(repeat (first | exact Below.refl _ _ | (refine below_drew_ ?_) | ((refine Below.alloc ?_ ?hs _);(case hs=>(first | omega | (simp;omega) | simp)))))
  case hc=>(repeat (first | ((refine at_new' _ _ _ _ ?hs2);(case hs2=>(first | rfl | (simp;done)))) | (refine At.drew ?_) | (refine At.alloc ?_ _)))
  case ht=>(repeat (first | ((refine at_new' _ _ _ _ ?hs2);(case hs2=>(first | rfl | (simp;done)))) | (refine At.drew ?_) | (refine At.alloc ?_ _)))
  case hr=>(repeat (first | ((refine at_new' _ _ _ _ ?hs2);(case hs2=>(first | rfl | (simp;done)))) | (refine At.drew ?_) | (refine At.alloc ?_ _)))
  case hm=>(repeat (first | (rw [heap_drew_]) | ((refine map_new' _ _ ?hs2);(case hs2=>(first | rfl | (simp;done)))) | ((refine (Below.heap_alloc _ _ _ ?hsz).trans ?_);(case hsz=>(first | omega | (simp;omega) | (simp;done))))))
  case hg=>(refine ⟨?_,?_,?_,?_,?_⟩ <;> omega)
end Go.Proofs.YtkekohmkaefdnaaGreatDoor
