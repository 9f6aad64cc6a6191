import Derived.Test.YtkekohmkaefdnaaGreatDoorNw
import Derived.Test.YtkekohmkaefdnaaGreatDoorPt
import Derived.Test.YtkekohmkaefdnaaGreatDoorPo
import Derived.Test.YtkekohmkaefdnaaGreatDoorPy
import Derived.Test.YtkekohmkaefdnaaGreatDoorWr2
import Derived.Test.YtkekohmkaefdnaaGreatDoorPa0
import Derived.Test.YtkekohmkaefdnaaGreatDoorWTab
set_option linter.unusedVariables false
set_option maxHeartbeats 4000000
set_option maxRecDepth 100000
namespace Go.Proofs.YtkekohmkaefdnaaGreatDoor
open Go.RowKit Go.Maps Go.Shelf Go.Proofs.YtkekohmkaefdnaaGreatDoorW.PrintWords Go.Proofs.YtkekohmkaefdnaaGreatDoorW.PrintLast Go.Proofs.YtkekohmkaefdnaaGreatDoor.Pa
attribute [local go_sem ↓] Go.wp_at_zero Go.wp_at_succ
def userA : ByteArray:=⟨#[97,110,110]⟩
structure ReadyAt (w : World) (p mb cb tb rb : Nat) (u : Value) (A : Option Addr) (c : Nat) (ids : Int) : Prop where
 port : At w p (portV u (.slice A 1 c) (.pointer (some ⟨cb,0,none⟩)) (.pointer (some ⟨rb,0,none⟩)) ids 0 mb) TPort
 cap : 1 ≤ c
 rules : Kd.C k145 w A 1 [ruleAnn]
 cache : At w cb (cacheV 100 tb (.slice none 0 0) 0 0 0) TCache
 table : At w tb (tableV false (.slice none 0 0) 0) TTable
 ring_ : At w rb (ringV 2 (.slice none 0 0) 0) TRing
theorem C_tch {w w1 : World} {A : Option Addr} (h : Kd.C k145 w A 1 [ruleAnn]) (t : Tch (fun _=>False) w w1) : Kd.C k145 w1 A 1 [ruleAnn]:=
 Kd.C_below h ⟨t.os,t.tape,t.output,t.size,fun k hk=>t.block k hk (fun h=>h)⟩
theorem do_set (p mb cb tb rb : Nat) (u : Value) (A : Option Addr) (c : Nat) (ids : Int) (w : World) (h : ReadyAt w p mb cb tb rb u A c ids) :
  Calls Tryz.prog 39 #[.pointer (some ⟨p,0,none⟩),.string userA,cmdA] w fun e w'=>e=.returned (.tuple #[repV 1,.bool true])∧LaidOne (fun k=>k=cb ∨ k=tb ∨ k=rb) w cb tb 100 valX 1 0 18 1 0 w':=by
 obtain ⟨hp,hcap,hru,hc,ht,hr⟩:=h
 have hpl:=hp.lt
 have hcl:=hc.lt
 have htl:=ht.lt
 have hrl:=hr.lt
 have hpr : p ≠ rb:=at_ne2 hp hr (by decide)
 have hcr : cb ≠ rb:=at_ne2 hc hr (by decide)
 have htr : tb ≠ rb:=at_ne2 ht hr (by decide)
 have hpc : p ≠ cb:=at_ne2 hp hc (by decide)
 have hpt : p ≠ tb:=at_ne2 hp ht (by decide)
 have t0 : Tch (fun _=>False) w ((w.alloc (.cells #[.int .i64 2,.string keyA,.string valX,.int .i64 0,.int .i64 0] TCmd)).alloc (.cells #[.int .i64 0,.string ⟨#[]⟩,.int .i64 0,.int .i64 0,.slice none 0 0] TReply)):=((Tch.refl _ w).talloc).talloc
 have ca : At ((w.alloc (.cells #[.int .i64 2,.string keyA,.string valX,.int .i64 0,.int .i64 0] TCmd)).alloc (.cells #[.int .i64 0,.string ⟨#[]⟩,.int .i64 0,.int .i64 0,.slice none 0 0] TReply)) w.heap.size cmdL TCmd:=(At.new w _ _).alloc _
 have cr : At ((w.alloc (.cells #[.int .i64 2,.string keyA,.string valX,.int .i64 0,.int .i64 0] TCmd)).alloc (.cells #[.int .i64 0,.string ⟨#[]⟩,.int .i64 0,.int .i64 0,.slice none 0 0] TReply)) (w.heap.size + 1) repL0 TReply:=at_new' _ _ _ _ (by simp)
 obtain ⟨W0,hW0⟩ : ∃ W0,((w.alloc (.cells #[.int .i64 2,.string keyA,.string valX,.int .i64 0,.int .i64 0] TCmd)).alloc (.cells #[.int .i64 0,.string ⟨#[]⟩,.int .i64 0,.int .i64 0,.slice none 0 0] TReply))=W0:=⟨_,rfl⟩
 rw [hW0] at t0 ca cr
 have hp0:=hp.tch t0 (fun h=>h)
 have hru0:=C_tch hru t0
 have hcl2:=fun W=>Pb.command_Class.calls 60 2 2 W class_set
 have hde:=fun W (t : Tch (fun _=>False) W0 W)=>Pa.acl_Decide.calls 60 A c [ruleAnn] userA 2 keyA true 0 W (C_tch hru0 t) hcap decide_ann
 have mk : ∀ W' : World,Tch (fun _=>False) W0 W'→(W'.cell? ⟨p,1,none⟩=some (.slice A 1 c)∧W'.cell? ⟨w.heap.size,0,none⟩=some (.int .i64 2)∧W'.cell? ⟨w.heap.size,1,none⟩=some (.string keyA)∧Tch (fun _=>False) W0 W'):=fun W' t=>⟨(hp0.tch t (fun h=>h)).cell 1 rfl,(ca.tch t (fun h=>h)).cell 0 rfl,(ca.tch t (fun h=>h)).cell 1 rfl,t⟩
 have HP:=Lib.hid hp
 have HC:=Lib.hid hc
 have HT:=Lib.hid ht
 have HR:=Lib.hid hr
 have CA:=Lib.hid ca
 have CR:=Lib.hid cr
 have T0:=Lib.hid t0
 clear hp hc ht hr ca cr t0 hp0 hru hru0
 go_enter Tryz.func39,Tryz.ntmps39
 go_wp2
 clear hW0
 generalize hga : w.heap.size=ga at *
 go_region_held3 (fun W'=>W'.cell? ⟨p,1,none⟩=some (.slice A 1 c)∧W'.cell? ⟨ga,0,none⟩=some (.int .i64 2)∧W'.cell? ⟨ga,1,none⟩=some (.string keyA)∧Tch (fun _=>False) W0 W')
  ((go_split_ands;refine mk _ ?h1;(case h1=>(repeat (first | (with_reducible assumption) | (with_reducible exact Tch.refl _ _) | (with_reducible refine Tch.tdrew ?_) | (with_reducible refine Tch.tdrewN ?_) | (with_reducible refine Tch.talloc ?_) | (with_reducible refine Tch.tset ?_ ?_) | (with_reducible refine Tch.tbelow ?_ q30_) | (with_reducible refine Tch.ttch ?_ q30_ ?_))))))
  (first | ((go_at_call 79;refine (hcl2 _).mono ?_;rintro e w3 ⟨rfl,n3,rfl⟩)) | ((go_at_call 82;refine (hde _ ?_).mono ?_;(repeat (first | (with_reducible assumption) | (with_reducible exact Tch.refl _ _) | (with_reducible refine Tch.tdrew ?_) | (with_reducible refine Tch.tdrewN ?_) | (with_reducible refine Tch.talloc ?_) | (with_reducible refine Tch.tset ?_ ?_) | (with_reducible refine Tch.tbelow ?_ q30_) | (with_reducible refine Tch.ttch ?_ q30_ ?_)));rintro e w4 ⟨rfl,hb4⟩)))
 all_goals
  rename_i hH
  obtain ⟨-,-,-,t4⟩:=hH
  clear mk hde hcl2
  have t04:=T0.out.trans t4 (fun _ _ h=>h)
  have hp4:=HP.out.tch t04 (fun h=>h)
  have hr4:=HR.out.tch t04 (fun h=>h)
  have ca4:=CA.out.tch t4 (fun h=>h)
  have T04:=Lib.hid t04
  have T4:=Lib.hid t4
  have hadd:=fun W (t : Tch (fun _=>False) w4 W)=>ring_add rb userA 2 keyA true W (hr4.tch t (fun h=>h))
  have hgr : ga ≠ rb:=by omega
  have mk : ∀ W' : World,Tch (fun k=>k=rb) w4 W'→(W'.cell? ⟨p,3,none⟩=some (.pointer (some ⟨rb,0,none⟩))∧W'.cell? ⟨ga,0,none⟩=some (.int .i64 2)∧W'.cell? ⟨ga,1,none⟩=some (.string keyA)∧Tch (fun k=>k=rb) w4 W'):=fun W' t=>⟨(hp4.tch t hpr).cell 3 rfl,(ca4.tch t hgr).cell 0 rfl,(ca4.tch t hgr).cell 1 rfl,t⟩
  clear t4 t04 hb4
  go_wp2
  go_region_held3 (fun W'=>W'.cell? ⟨p,3,none⟩=some (.pointer (some ⟨rb,0,none⟩))∧W'.cell? ⟨ga,0,none⟩=some (.int .i64 2)∧W'.cell? ⟨ga,1,none⟩=some (.string keyA)∧Tch (fun k=>k=rb) w4 W')
   ((go_split_ands;refine mk _ ?h1;(case h1=>((repeat (first | (with_reducible assumption) | (with_reducible exact Tch.refl _ _) | (with_reducible refine Tch.tdrew ?_) | (with_reducible refine Tch.tdrewN ?_) | (with_reducible refine Tch.talloc ?_) | (with_reducible refine Tch.tset ?_ ?_) | (with_reducible refine Tch.tbelow ?_ q30_) | (with_reducible refine Tch.ttch ?_ q30_ ?_)));all_goals exact fun _ _ h=>h))))
   ((go_at_call 83;refine (hadd _ ?_).mono ?_;(repeat (first | (with_reducible assumption) | (with_reducible exact Tch.refl _ _) | (with_reducible refine Tch.tdrew ?_) | (with_reducible refine Tch.tdrewN ?_) | (with_reducible refine Tch.talloc ?_) | (with_reducible refine Tch.tset ?_ ?_) | (with_reducible refine Tch.tbelow ?_ q30_) | (with_reducible refine Tch.ttch ?_ q30_ ?_)));rintro e w5 ⟨rfl,tt5⟩))
  all_goals
   rename_i hH
   obtain ⟨-,-,-,t5⟩:=hH
   clear mk hadd
   have t05 : Tch (fun k=>k=rb) w w5:=(T04.out.mono (fun _ _ h=>h.elim)).trans t5 (fun _ _ h=>h)
   have hp5:=HP.out.tch t05 hpr
   have hc5:=HC.out.tch t05 hcr
   have ht5:=HT.out.tch t05 htr
   have ca5:=(CA.out.tch T4.out (fun h=>h)).tch t5 hgr
   have cr5:=(CR.out.tch T4.out (fun h=>h)).tch t5 (by omega)
   have T05:=Lib.hid t05
   have CR5:=Lib.hid cr5
   clear t5 t05 tt5
   have hdo:=fun W (t : Tch (fun _=>False) w5 W)=>do_any cb tb 100 0 0 0 W (by decide) (by decide) (by decide) (by decide) (by decide) (hc5.tch t (fun h=>h)) (ht5.tch t (fun h=>h))
   have hgc : ga ≠ cb:=by omega
   have hgt : ga ≠ tb:=by omega
   have npp : ¬ (p=cb ∨ p=tb ∨ p=ga + 1):=by omega
   have nga : ¬ (ga=cb ∨ ga=tb ∨ ga=ga + 1):=by omega
   have mk : ∀ W' : World,Tch (fun k=>k=cb ∨ k=tb ∨ k=ga + 1) w5 W'→(W'.cell? ⟨p,2,none⟩=some (.pointer (some ⟨cb,0,none⟩))∧W'.cell? ⟨p,5,none⟩=some (.int .i64 0)∧W'.cell? ⟨ga,0,none⟩=some (.int .i64 2)∧W'.cell? ⟨ga,1,none⟩=some (.string keyA)∧W'.cell? ⟨ga,2,none⟩=some (.string valX)∧W'.cell? ⟨ga,3,none⟩=some (.int .i64 0)∧W'.cell? ⟨ga,4,none⟩=some (.int .i64 0)∧Tch (fun k=>k=cb ∨ k=tb ∨ k=ga + 1) w5 W'):=fun W' t=>⟨(hp5.tch t npp).cell 2 rfl,(hp5.tch t npp).cell 5 rfl,(ca5.tch t nga).cell 0 rfl,(ca5.tch t nga).cell 1 rfl,(ca5.tch t nga).cell 2 rfl,(ca5.tch t nga).cell 3 rfl,(ca5.tch t nga).cell 4 rfl,t⟩
   clear hc5 ht5
   go_wp2
   go_region_held3 (fun W'=>W'.cell? ⟨p,2,none⟩=some (.pointer (some ⟨cb,0,none⟩))∧W'.cell? ⟨p,5,none⟩=some (.int .i64 0)∧W'.cell? ⟨ga,0,none⟩=some (.int .i64 2)∧W'.cell? ⟨ga,1,none⟩=some (.string keyA)∧W'.cell? ⟨ga,2,none⟩=some (.string valX)∧W'.cell? ⟨ga,3,none⟩=some (.int .i64 0)∧W'.cell? ⟨ga,4,none⟩=some (.int .i64 0)∧Tch (fun k=>k=cb ∨ k=tb ∨ k=ga + 1) w5 W')
    ((go_split_ands;refine mk _ ?h1;(case h1=>((repeat (first | (with_reducible assumption) | (with_reducible exact Tch.refl _ _) | (with_reducible refine Tch.tdrew ?_) | (with_reducible refine Tch.tdrewN ?_) | (with_reducible refine Tch.talloc ?_) | (with_reducible refine Tch.tset ?_ ?_) | (with_reducible refine Tch.tbelow ?_ q30_) | (with_reducible refine Tch.ttch ?_ q30_ ?_)));all_goals (first | exact fun _=>.inr (.inr rfl) | exact fun _ _ h=>h.elim .inl (fun h=>.inr (.inl h)))))))
    (first | ((go_at_call 24;refine (now_cell p 0 _ ?_ (by decide) (by decide)).mono ?_;(simp [*]);rintro e wn ⟨rfl,rfl⟩)) | ((go_at_call 84;refine (hdo _ ?_).mono ?_;(repeat (first | (with_reducible assumption) | (with_reducible exact Tch.refl _ _) | (with_reducible refine Tch.tdrew ?_) | (with_reducible refine Tch.tdrewN ?_) | (with_reducible refine Tch.talloc ?_) | (with_reducible refine Tch.tset ?_ ?_) | (with_reducible refine Tch.tbelow ?_ q30_) | (with_reducible refine Tch.ttch ?_ q30_ ?_)));rintro e w6 ⟨rfl,hl6⟩;have tt6:=hl6.2.2;have hr6:=(CR5.out.drew).tch tt6 (by omega);have r0:=hr6.cell 0 rfl;have r1:=hr6.cell 1 rfl;have r2:=hr6.cell 2 rfl;have r3:=hr6.cell 3 rfl;have r4:=hr6.cell 4 rfl;have z0:=hr6.frozen 0;have z1:=hr6.frozen 1;have z2:=hr6.frozen 2;have z3:=hr6.frozen 3;have z4:=hr6.frozen 4)))
   all_goals
    have hl6' : LaidOne (fun k=>k=cb ∨ k=tb) w5.drew cb tb 100 valX 1 0 18 1 0 w6:=hl6
    have hl7:=hl6'.pre (w:=w) (S2:=fun k=>k=cb ∨ k=tb ∨ k=rb) (T05.out.tdrew) (fun k _ h=>.inr (.inr h)) (fun k _ h=>h.elim .inl (fun h=>.inr (.inl h)))
    have t9:=tch_set5 w6 (ga + 1) (.int .i64 0) (.string ⟨#[]⟩) (.int .i64 0) (.int .i64 1) (.slice none 0 0)
    have a9:=at_set5 hr6 (.int .i64 0) (.string ⟨#[]⟩) (.int .i64 0) (.int .i64 1) (.slice none 0 0)
    have hl9:=hl7.after t9 (fun k h=>by omega) (by omega) (by omega) (fun k cs h=>at_ne2 h hr6 (by decide)) (fun k cs h=>at_ne2 h hr6 (by decide))
    obtain ⟨W9,hW9⟩ : ∃ W9,(((((w6.setCell ⟨ga + 1,0,none⟩ (.int .i64 0)).setCell ⟨ga + 1,1,none⟩ (.string ⟨#[]⟩)).setCell ⟨ga + 1,2,none⟩ (.int .i64 0)).setCell ⟨ga + 1,3,none⟩ (.int .i64 1)).setCell ⟨ga + 1,4,none⟩ (.slice none 0 0))=W9:=⟨_,rfl⟩
    rw [hW9] at a9 hl9 ⊢
    have d0:=a9.cell 0 rfl
    have d1:=a9.cell 1 rfl
    have d2:=a9.cell 2 rfl
    have d3:=a9.cell 3 rfl
    have d4:=a9.cell 4 rfl
    have HL9:=Lib.hid hl9
    clear hl9 hl7 hl6 hl6' tt6 hr6 t9 a9 hW9 r0 r1 r2 r3 r4 z0 z1 z2 z3 z4 mk hdo
    go_wp2
    refine bodyPost_ret (v:=.tuple #[repV 1,.bool true]) (by simp [results,Tryz.results39,go_sem,d0,d1,d2,d3,d4]) rfl ⟨rfl,HL9.out⟩
theorem plain_set (p mb cb tb rb : Nat) (u : Value) (A : Option Addr) (c : Nat) (ids : Int) (w : World) (h : ReadyAt w p mb cb tb rb u A c ids) :
  Calls Tryz.prog 11 #[.pointer (some ⟨p,0,none⟩),.string userA,cmdA] w fun e w'=>e=.returned (repV 1)∧LaidOne (fun k=>k=cb ∨ k=tb ∨ k=rb) w cb tb 100 valX 1 0 18 1 0 w':=by
 have hcl:=h.cache.lt
 have htl:=h.table.lt
 have hpl:=h.port.lt
 have hrl:=h.ring_.lt
 have t0 : Tch (fun _=>False) w ((w.alloc (.cells #[.int .i64 2,.string keyA,.string valX,.int .i64 0,.int .i64 0] TCmd)).alloc (.cells #[.int .i64 0,.string ⟨#[]⟩,.int .i64 0,.int .i64 0,.slice none 0 0] TReply)):=((Tch.refl _ w).talloc).talloc
 have ca : At ((w.alloc (.cells #[.int .i64 2,.string keyA,.string valX,.int .i64 0,.int .i64 0] TCmd)).alloc (.cells #[.int .i64 0,.string ⟨#[]⟩,.int .i64 0,.int .i64 0,.slice none 0 0] TReply)) w.heap.size cmdL TCmd:=(At.new w _ _).alloc _
 have cr : At ((w.alloc (.cells #[.int .i64 2,.string keyA,.string valX,.int .i64 0,.int .i64 0] TCmd)).alloc (.cells #[.int .i64 0,.string ⟨#[]⟩,.int .i64 0,.int .i64 0,.slice none 0 0] TReply)) (w.heap.size + 1) repL0 TReply:=at_new' _ _ _ _ (by simp)
 obtain ⟨W0,hW0⟩ : ∃ W0,((w.alloc (.cells #[.int .i64 2,.string keyA,.string valX,.int .i64 0,.int .i64 0] TCmd)).alloc (.cells #[.int .i64 0,.string ⟨#[]⟩,.int .i64 0,.int .i64 0,.slice none 0 0] TReply))=W0:=⟨_,rfl⟩
 rw [hW0] at t0 ca cr
 have hready : ∀ W,Tch (fun _=>False) w W→ReadyAt W p mb cb tb rb u A c ids:=fun W t=>⟨h.port.tch t (fun h=>h),h.cap,C_tch h.rules t,h.cache.tch t (fun h=>h),h.table.tch t (fun h=>h),h.ring_.tch t (fun h=>h)⟩
 have hri:=Pb.command_Right.calls 60 2 keyA valX 0 0 true W0 right_set
 have u0:=ca.cell 0 rfl
 have u1:=ca.cell 1 rfl
 have u2:=ca.cell 2 rfl
 have u3:=ca.cell 3 rfl
 have u4:=ca.cell 4 rfl
 have CA:=Lib.hid ca
 have CR:=Lib.hid cr
 have T0:=Lib.hid t0
 have HRd:=Lib.hid hready
 clear h ca cr t0 hready
 go_enter Tryz.func11,Tryz.ntmps11
 go_wp2_with fail
 refine hri.mono ?_
 rintro e w1 ⟨rfl,hb1⟩
 have ca1:=CA.out.abelow hb1
 have cr1:=CR.out.abelow hb1
 have t1:=T0.out.tbelow hb1
 have u0:=ca1.cell 0 rfl
 have u1:=ca1.cell 1 rfl
 have u2:=ca1.cell 2 rfl
 have u3:=ca1.cell 3 rfl
 have u4:=ca1.cell 4 rfl
 have hdo : Calls Tryz.prog 39 #[.pointer (some ⟨p,0,none⟩),.string userA,cmdA] w1 fun e w'=>e=.returned (.tuple #[.agg #[.int .i64 0,.string ⟨#[]⟩,.int .i64 0,.int .i64 1,.slice none 0 0],.bool true])∧LaidOne (fun k=>k=cb ∨ k=tb ∨ k=rb) w1 cb tb 100 valX 1 0 18 1 0 w':=do_set p mb cb tb rb u A c ids w1 (HRd.out w1 t1)
 have CR1:=Lib.hid cr1
 have T1:=Lib.hid t1
 generalize hga : w.heap.size=ga at *
 have hgl:=cr1.lt
 clear ca1 cr1 t1 hb1 hri hW0
 go_wp2_with fail
 refine hdo.mono ?_
 rintro e w2 ⟨rfl,hl2⟩
 clear hdo
 have hrep : At (w2.alloc (.cells #[.int .i64 0,.string ⟨#[]⟩,.int .i64 0,.int .i64 1,.slice none 0 0] TReply)) w2.heap.size repL1 TReply:=At.new w2 _ _
 have hr2:=CR1.out.tch hl2.2.2 (by omega)
 have hq1:=T1.out.size
 have hq2:=hl2.2.2.size
 have hl3:=hl2.after (Tch.alloc (fun _=>False) w2 (.cells #[.int .i64 0,.string ⟨#[]⟩,.int .i64 0,.int .i64 1,.slice none 0 0] TReply)) (fun _ h=>h.elim) (by omega) (by omega) (fun _ _ _ h=>h) (fun _ _ _ h=>h)
 have hr3:=hr2.alloc (.cells #[.int .i64 0,.string ⟨#[]⟩,.int .i64 0,.int .i64 1,.slice none 0 0] TReply)
 have s0:=hrep.cell 0 rfl
 have s1:=hrep.cell 1 rfl
 have s2:=hrep.cell 2 rfl
 have s3:=hrep.cell 3 rfl
 have s4:=hrep.cell 4 rfl
 have hto : Calls Tryz.prog 40 #[.agg #[.int .i64 0,.string ⟨#[]⟩,.int .i64 0,.int .i64 1,.slice none 0 0]] (w2.alloc (.cells #[.int .i64 0,.string ⟨#[]⟩,.int .i64 0,.int .i64 1,.slice none 0 0] TReply)) fun e w'=>e=.returned (.agg #[.int .i64 0,.string ⟨#[]⟩,.int .i64 0,.int .i64 1,.slice none 0 0])∧Below (w2.alloc (.cells #[.int .i64 0,.string ⟨#[]⟩,.int .i64 0,.int .i64 1,.slice none 0 0] TReply)).heap.size (w2.alloc (.cells #[.int .i64 0,.string ⟨#[]⟩,.int .i64 0,.int .i64 1,.slice none 0 0] TReply)) w':=told_any (w2.alloc (.cells #[.int .i64 0,.string ⟨#[]⟩,.int .i64 0,.int .i64 1,.slice none 0 0] TReply))
 have HR3:=Lib.hid hr3
 have HL3:=Lib.hid hl3
 clear hrep hr2 hr3 hl2 hl3 u0 u1 u2 u3 u4
 go_wp2_with fail
 refine hto.mono ?_
 rintro e W4 ⟨rfl,hb4⟩
 have hr4:=HR3.out.abelow hb4
 have hl4:=HL3.out.after (Tch.of_below (fun _=>False) hb4) (fun _ h=>h.elim) (by omega) (by omega) (fun _ _ _ h=>h) (fun _ _ _ h=>h)
 have r0:=hr4.cell 0 rfl
 have r1:=hr4.cell 1 rfl
 have r2:=hr4.cell 2 rfl
 have r3:=hr4.cell 3 rfl
 have r4:=hr4.cell 4 rfl
 have z0:=hr4.frozen 0
 have z1:=hr4.frozen 1
 have z2:=hr4.frozen 2
 have z3:=hr4.frozen 3
 have z4:=hr4.frozen 4
 have hl7:=hl4.pre (w:=w) (S2:=fun k=>k=cb ∨ k=tb ∨ k=rb) T1.out (fun _ _ h=>h.elim) (fun k _ h=>h)
 have t9:=tch_set5 W4 (ga + 1) (.int .i64 0) (.string ⟨#[]⟩) (.int .i64 0) (.int .i64 1) (.slice none 0 0)
 have a9:=at_set5 hr4 (.int .i64 0) (.string ⟨#[]⟩) (.int .i64 0) (.int .i64 1) (.slice none 0 0)
 have hl9:=hl7.after t9 (fun k h=>by omega) (by omega) (by omega) (fun k cs h=>at_ne2 h hr4 (by decide)) (fun k cs h=>at_ne2 h hr4 (by decide))
 obtain ⟨W9,hW9⟩ : ∃ W9,(((((W4.setCell ⟨ga + 1,0,none⟩ (.int .i64 0)).setCell ⟨ga + 1,1,none⟩ (.string ⟨#[]⟩)).setCell ⟨ga + 1,2,none⟩ (.int .i64 0)).setCell ⟨ga + 1,3,none⟩ (.int .i64 1)).setCell ⟨ga + 1,4,none⟩ (.slice none 0 0))=W9:=⟨_,rfl⟩
 rw [hW9] at a9 hl9
 have d0:=a9.cell 0 rfl
 have d1:=a9.cell 1 rfl
 have d2:=a9.cell 2 rfl
 have d3:=a9.cell 3 rfl
 have d4:=a9.cell 4 rfl
 have HL9:=Lib.hid hl9
 clear hl9 hl7 hl4 hr4 t9 a9 hb4 hto s0 s1 s2 s3 s4
 go_wp2
 refine bodyPost_ret (v:=repV 1) (by simp [results,Tryz.results11,go_sem,d0,d1,d2,d3,d4]) rfl ⟨rfl,HL9.out⟩
end Go.Proofs.YtkekohmkaefdnaaGreatDoor
namespace Go.Proofs.YtkekohmkaefdnaaGreatDoor
open Go.RowKit Go.Maps Go.Shelf Go.Sort Go.Lib
attribute [local go_sem ↓] Go.wp_at_zero Go.wp_at_succ
theorem sort_one (g c : Nat) (s : ByteArray) (w : World) (hc : w.cell? ⟨g,0,none⟩=some (.string s)) (hz : w.frozen? ⟨g,0,none⟩=false) :
  Calls Tryz.prog 121 #[.slice (some ⟨g,0,none⟩) 1 c] w fun e w'=>e=.returned (.tuple #[])∧w'.cell? ⟨g,0,none⟩=some (.string s)∧Tch (fun k=>k=g) w w':=by
 have hg : g < w.heap.size:=World.block_lt_of_cell? w _ hc
 have hs : encStr s.data.toList=.string s:=by simp [encStr]
 have hH : Holds encStr w g 0 [s.data.toList].toArray:=by
  intro j hj
  have : j=0:=by simp at hj;omega
  subst this
  exact ⟨by rw [show (0 : Nat) + 0=0 from rfl];exact hc.trans (by rw [← hs];rfl),hz⟩
 have h:=AnyM.slices_Sort_string Tryz.sortS g 0 c [s.data.toList] w hH hg (by simp)
 change Calls Tryz.prog 121 _ _ _ at h
 refine h.mono ?_
 rintro e w' ⟨rfl,n,os,rfl⟩
 have hm : [s.data.toList].mergeSort (fun x y=>decide (x ≤ y))=[s.data.toList]:=by simp
 rw [hm]
 have t1 : Tch (fun k=>k=g) w (putRow encStr (Sort.ahead w n) g 0 [s.data.toList].toArray):=(tch_ahead _ w n).trans (tch_putRow _ _ g 0 _) (fun _ _ h=>h)
 have h2:=holds_putRow encStr (Sort.ahead w n) g 0 [s.data.toList].toArray [s.data.toList].toArray (holds_ahead _ w n g 0 _ hH) (by simp)
 generalize putRow encStr (Sort.ahead w n) g 0 [s.data.toList].toArray=W1 at t1 h2
 have tg : Tch (fun _=>False) W1 (grow W1 os):=⟨rfl,rfl,rfl,by simp [grow],fun k hk _=>by simp [grow,Array.getElem?_append_left hk]⟩
 refine ⟨rfl,?_,t1.trans tg (fun _ _ h=>h.elim)⟩
 rw [tg.cell (p:=⟨g,0,none⟩) (t1.lt hg) (fun h=>h)]
 refine ((h2 0 (by simp)).1).trans ?_
 rw [show ([s.data.toList].toArray)[0]! = s.data.toList from rfl,hs]
def KoR (w : World) (j : Nat) (out : Value) (wr : World) : Prop:=
 (j ≤ 4∧out=.slice none 0 0∧Tch (fun _=>False) w wr) ∨ (5 ≤ j∧j ≤ 8∧Tch (fun _=>False) w wr∧∃ g c,out=.slice (some ⟨g,0,none⟩) 1 c∧w.heap.size ≤ g∧wr.cell? ⟨g,0,none⟩=some (.string keyA)∧wr.frozen? ⟨g,0,none⟩=false)
theorem keys_one (tb sb b c : Nat) (n : Int) (v : ByteArray) (iv unt : Int) (zs : List Value) (w : World) (ht : At w tb (tableV true (.slice (some ⟨sb,0,none⟩) 8 8) n) TTable) (hs : At w sb (oneA b c) TItems) (hb : At w b (itemL keyA v iv unt ++ zs) TItem) :
  Calls Tryz.prog 86 #[.pointer (some ⟨tb,0,none⟩)] w fun e w'=>∃ g c',e=.returned (.slice (some ⟨g,0,none⟩) 1 c')∧w'.cell? ⟨g,0,none⟩=some (.string keyA)∧Tch (fun _=>False) w w':=by
 have c4:=ht.cell 4 rfl
 have HS:=Lib.hid hs
 have HB:=Lib.hid hb
 clear ht hs hb
 go_enter Tryz.func86,Tryz.ntmps86
 go_wp2
 go_loopg [3,15] 8 (fun gg s3 s15 wr=>∃ j : Nat,s15=.int .i64 j∧8 - j ≤ gg∧KoR w j s3 wr)
 case atStart=>exact ⟨0,rfl,by omega,.inl ⟨by omega,rfl,Tch.refl _ _⟩⟩
 case round=>
  obtain ⟨j,rfl,hgg,hK⟩:=hrel
  rcases hK with ⟨hj,rfl,ht⟩ | ⟨hj5,hj8,ht,g,cc,rfl,hg,hcg,hfg⟩
  ·have hs:=HS.out.tch ht (fun h=>h)
   have hj' : j=0 ∨ j=1 ∨ j=2 ∨ j=3 ∨ j=4:=by omega
   rcases hj' with rfl | rfl | rfl | rfl | rfl
   ·have q:=hs.cell 0 rfl
    have HT:=Lib.hid ht
    clear hs ht
    go_wp2
    go_loopg [3,21] 0 (fun gg s3 s21 wr2=>s3=.slice none 0 0∧s21=.int .i64 0∧wr2=wr)
    case atStart=>exact ⟨rfl,rfl,rfl⟩
    case round=>
     obtain ⟨rfl,rfl,rfl⟩:=hrel
     go_wp2
     go_roundg (8 - 1)
     case measure=>omega
     case rel=>exact ⟨1,rfl,by omega,.inl ⟨by omega,rfl,HT.out⟩⟩
   ·have q:=hs.cell 1 rfl
    have HT:=Lib.hid ht
    clear hs ht
    go_wp2
    go_loopg [3,21] 0 (fun gg s3 s21 wr2=>s3=.slice none 0 0∧s21=.int .i64 0∧wr2=wr)
    case atStart=>exact ⟨rfl,rfl,rfl⟩
    case round=>
     obtain ⟨rfl,rfl,rfl⟩:=hrel
     go_wp2
     go_roundg (8 - 2)
     case measure=>omega
     case rel=>exact ⟨2,rfl,by omega,.inl ⟨by omega,rfl,HT.out⟩⟩
   ·have q:=hs.cell 2 rfl
    have HT:=Lib.hid ht
    clear hs ht
    go_wp2
    go_loopg [3,21] 0 (fun gg s3 s21 wr2=>s3=.slice none 0 0∧s21=.int .i64 0∧wr2=wr)
    case atStart=>exact ⟨rfl,rfl,rfl⟩
    case round=>
     obtain ⟨rfl,rfl,rfl⟩:=hrel
     go_wp2
     go_roundg (8 - 3)
     case measure=>omega
     case rel=>exact ⟨3,rfl,by omega,.inl ⟨by omega,rfl,HT.out⟩⟩
   ·have q:=hs.cell 3 rfl
    have HT:=Lib.hid ht
    clear hs ht
    go_wp2
    go_loopg [3,21] 0 (fun gg s3 s21 wr2=>s3=.slice none 0 0∧s21=.int .i64 0∧wr2=wr)
    case atStart=>exact ⟨rfl,rfl,rfl⟩
    case round=>
     obtain ⟨rfl,rfl,rfl⟩:=hrel
     go_wp2
     go_roundg (8 - 4)
     case measure=>omega
     case rel=>exact ⟨4,rfl,by omega,.inl ⟨by omega,rfl,HT.out⟩⟩
   ·have q:=hs.cell 4 rfl
    have hb:=HB.out.tch ht (fun h=>h)
    have b0:=hb.cell 0 rfl
    have b1:=hb.cell 1 rfl
    have b2:=hb.cell 2 rfl
    have b3:=hb.cell 3 rfl
    have HT:=Lib.hid ht
    have hsz:=ht.size
    obtain ⟨i0,hi,hz0',hz1,hz2⟩:=info_parts info_str
    clear hs ht hb
    go_wp2
    go_loopg [3,21] 1 (fun gg s3 s21 wr2=>(gg=1∧s3=.slice none 0 0∧s21=.int .i64 0∧wr2=wr) ∨ (s21=.int .i64 1∧KoR w 5 s3 wr2))
    case atStart=>exact .inl ⟨rfl,rfl,rfl,rfl⟩
    case round=>
     rcases hrel with ⟨rfl,rfl,rfl,rfl⟩ | ⟨rfl,hk⟩
     ·go_wp2
      have hnew:=at_app ((wr.alloc (.cells #[.string keyA,.string v,.int .i64 iv,.int .i64 unt] TItem)).alloc (.cells #[.string keyA] 9)) #[.string keyA] (Builtin.zeroCells #[.string ⟨#[]⟩] ((Question.appendCap 1 0 9).cut (wr.tape wr.drawn (Question.appendCap 1 0 9)) - 1)) 9 (wr.heap.size + 1 + 1) (by simp)
      go_roundg 0
      case measure=>omega
      case rel=>exact .inr ⟨rfl,.inr ⟨by omega,by omega,(((HT.out.talloc).talloc).talloc).tdrew,_,_,rfl,by omega,hnew.drew.cell 0 rfl,hnew.drew.frozen 0⟩⟩
     ·rcases hk with ⟨h5,_⟩ | ⟨_,_,ht,g,cc,rfl,hg,hcg,hfg⟩
      ·omega
      ·have HT:=Lib.hid ht
       clear ht
       go_wp2
       go_roundg (8 - 5)
       case measure=>omega
       case rel=>exact ⟨5,rfl,by omega,.inr ⟨by omega,by omega,HT.out,g,cc,rfl,hg,hcg,hfg⟩⟩
  ·have hs:=HS.out.tch ht (fun h=>h)
   have hj' : j=5 ∨ j=6 ∨ j=7 ∨ j=8:=by omega
   rcases hj' with rfl | rfl | rfl | rfl
   ·have q:=hs.cell 5 rfl
    have HT:=Lib.hid ht
    clear hs ht
    go_wp2
    go_loopg [3,21] 0 (fun gg s3 s21 wr2=>s3=.slice (some ⟨g,0,none⟩) 1 cc∧s21=.int .i64 0∧wr2=wr)
    case atStart=>exact ⟨rfl,rfl,rfl⟩
    case round=>
     obtain ⟨rfl,rfl,rfl⟩:=hrel
     go_wp2
     go_roundg (8 - 6)
     case measure=>omega
     case rel=>exact ⟨6,rfl,by omega,.inr ⟨by omega,by omega,HT.out,g,cc,rfl,hg,hcg,hfg⟩⟩
   ·have q:=hs.cell 6 rfl
    have HT:=Lib.hid ht
    clear hs ht
    go_wp2
    go_loopg [3,21] 0 (fun gg s3 s21 wr2=>s3=.slice (some ⟨g,0,none⟩) 1 cc∧s21=.int .i64 0∧wr2=wr)
    case atStart=>exact ⟨rfl,rfl,rfl⟩
    case round=>
     obtain ⟨rfl,rfl,rfl⟩:=hrel
     go_wp2
     go_roundg (8 - 7)
     case measure=>omega
     case rel=>exact ⟨7,rfl,by omega,.inr ⟨by omega,by omega,HT.out,g,cc,rfl,hg,hcg,hfg⟩⟩
   ·have q:=hs.cell 7 rfl
    have HT:=Lib.hid ht
    clear hs ht
    go_wp2
    go_loopg [3,21] 0 (fun gg s3 s21 wr2=>s3=.slice (some ⟨g,0,none⟩) 1 cc∧s21=.int .i64 0∧wr2=wr)
    case atStart=>exact ⟨rfl,rfl,rfl⟩
    case round=>
     obtain ⟨rfl,rfl,rfl⟩:=hrel
     go_wp2
     go_roundg (8 - 8)
     case measure=>omega
     case rel=>exact ⟨8,rfl,by omega,.inr ⟨by omega,by omega,HT.out,g,cc,rfl,hg,hcg,hfg⟩⟩
   ·have hso:=sort_one g cc keyA wr hcg hfg
    have HT:=Lib.hid ht
    clear hs ht
    go_wp2_with fail
    refine hso.mono ?_
    rintro e w2 ⟨rfl,hc2,t2⟩
    clear hso
    go_wp2
    go_ret
    exact ⟨g,cc,rfl,hc2,HT.out.trans t2 (fun k hk h=>by omega)⟩
end Go.Proofs.YtkekohmkaefdnaaGreatDoor
namespace Go.Proofs.YtkekohmkaefdnaaGreatDoor
open Go.RowKit Go.Maps Go.Shelf Go.Sort Go.Lib
attribute [local go_sem ↓] Go.wp_at_zero Go.wp_at_succ
theorem items_one (cb tb sb b c : Nat) (budget used ver gone n : Int) (order : Value) (v : ByteArray) (iv unt : Int) (zs : List Value) (w : World) (hc : At w cb (cacheV budget tb order used ver gone) TCache) (ht : At w tb (tableV true (.slice (some ⟨sb,0,none⟩) 8 8) n) TTable) (hs : At w sb (oneA b c) TItems) (hb : At w b (itemL keyA v iv unt ++ zs) TItem) :
  Calls Tryz.prog 53 #[.pointer (some ⟨cb,0,none⟩)] w fun e w'=>∃ g c',e=.returned (.slice (some ⟨g,0,none⟩) 1 c')∧Tch (fun k=>k=tb) w w':=by
 have c1:=hc.cell 1 rfl
 have hct : cb ≠ tb:=at_ne2 hc ht (by decide)
 have hbt : b ≠ tb:=at_ne2 hb ht (by decide)
 have hk:=keys_one tb sb b c n v iv unt zs w ht hs hb
 have HC:=Lib.hid hc
 have HT:=Lib.hid ht
 have HS:=Lib.hid hs
 have HB:=Lib.hid hb
 clear hc ht hs hb
 go_enter Tryz.func53,Tryz.ntmps53
 go_wp2_with fail
 refine hk.mono ?_
 rintro e w1 ⟨g,cg,rfl,hcg,t1⟩
 have hc1:=HC.out.tch t1 (fun h=>h)
 have ht1:=HT.out.tch t1 (fun h=>h)
 have hs1:=HS.out.tch t1 (fun h=>h)
 have hb1:=HB.out.tch t1 (fun h=>h)
 have c1:=hc1.cell 1 rfl
 have hget:=get_one (fun k=>k=sb) tb b c n iv unt v zs w1 (PlaceC.one (MadeC.again ht1 hs1) ht1.lt hb1 hbt) ht1.lt hb1 hbt
 have T1:=Lib.hid t1
 obtain ⟨i0,hi,hz0',hz1,hz2⟩:=info_parts info_item
 clear hk hc1 ht1 hs1 hb1 t1
 go_wp2
 go_loopg [3,16] 1 (fun gg s3 s16 wr=>(gg=1∧s3=.slice none 0 0∧s16=.int .i64 0∧wr=w1) ∨ (s16=.int .i64 1∧Tch (fun k=>k=tb) w wr∧∃ g c',s3=.slice (some ⟨g,0,none⟩) 1 c'))
 case atStart=>exact .inl ⟨rfl,rfl,rfl,rfl⟩
 case round=>
  rcases hrel with ⟨rfl,rfl,rfl,rfl⟩ | ⟨rfl,ht,g,c',rfl⟩
  ·go_wp2_with fail
   refine hget.mono ?_
   rintro e w2 ⟨rfl,_,_,t2⟩
   have T2:=Lib.hid ((T1.out.mono (fun _ _ h=>h.elim)).trans t2 (fun _ _ h=>h))
   clear t2 hget
   go_wp2
   go_roundg 0
   case measure=>omega
   case rel=>exact .inr ⟨rfl,(((T2.out.talloc).talloc).talloc).tdrew,_,_,rfl⟩
  ·have HTT:=Lib.hid ht
   clear ht hget
   go_wp2
   go_ret
   exact ⟨_,_,rfl,HTT.out⟩
theorem port_items (p mb cb tb sb b c : Nat) (u rl r : Value) (ids now : Int) (budget used ver gone n : Int) (order : Value) (v : ByteArray) (iv unt : Int) (zs : List Value) (w : World) (hp : At w p (portV u rl (.pointer (some ⟨cb,0,none⟩)) r ids now mb) TPort) (hc : At w cb (cacheV budget tb order used ver gone) TCache) (ht : At w tb (tableV true (.slice (some ⟨sb,0,none⟩) 8 8) n) TTable) (hs : At w sb (oneA b c) TItems) (hb : At w b (itemL keyA v iv unt ++ zs) TItem) :
  Calls Tryz.prog 17 #[.pointer (some ⟨p,0,none⟩)] w fun e w'=>∃ g c',e=.returned (.slice (some ⟨g,0,none⟩) 1 c')∧Tch (fun k=>k=tb) w w':=by
 have c2:=hp.cell 2 rfl
 have hi:=items_one cb tb sb b c budget used ver gone n order v iv unt zs w hc ht hs hb
 clear hp hc ht hs hb
 go_enter Tryz.func17,Tryz.ntmps17
 go_wp2_with fail
 refine hi.mono ?_
 rintro e w1 ⟨g,cg,rfl,t1⟩
 clear hi
 go_wp2
 go_ret
 exact ⟨g,cg,rfl,t1⟩
end Go.Proofs.YtkekohmkaefdnaaGreatDoor
namespace Go.Proofs.YtkekohmkaefdnaaGreatDoor
open Go.RowKit Go.Maps Go.Shelf Go.Proofs.YtkekohmkaefdnaaGreatDoorW.PrintWords Go.Proofs.YtkekohmkaefdnaaGreatDoorW.PrintLast Go.Proofs.YtkekohmkaefdnaaGreatDoor.Pa
theorem below_drewN_ {B : Nat} {w W : World} {n : Nat} (h : Below B w W) : Below B w (W.drewN n):=⟨h.os,h.tape,h.output,h.size,h.block⟩
def annB : ByteArray:=⟨#[97,110,110]⟩
def bobB : ByteArray:=⟨#[98,111,98]⟩
def usersTwo : List (ByteArray × ByteArray):=[(annB,fillS),(bobB,fillT)]
def usersOne : List (ByteArray × ByteArray):=[(annB,fillS)]
theorem usersTwo_ok : UsersOk usersTwo:=⟨by decide,by decide +kernel,by decide +kernel⟩
theorem usersOne_ok : UsersOk usersOne:=⟨by decide,by decide +kernel,by decide +kernel⟩
def TwoE (w : World) (e : Ending) (w' : World) : Prop:=∃ lb,e=.returned (.agg #[.slice (some ⟨lb,0,none⟩) 2 2,.string textTwo,.int .i64 5000,.int .i64 20])∧At w' lb (userCells usersTwo) 62∧Below w.heap.size w w'
theorem two_any (w : World) : Calls Tryz.prog 8 #[] w (TwoE w):=by
 have f1:=fun W=>Pb.escutcheonlaw5_Fill.calls 60 ⟨#[115]⟩ 32 fillS W fill_s
 have f2:=fun W=>Pb.escutcheonlaw5_Fill.calls 60 ⟨#[116]⟩ 32 fillT W fill_t
 go_enter Tryz.func8,Tryz.ntmps8
 go_wp2_with fail
 refine (f1 _).mono ?_
 rintro e W1 ⟨rfl,n1,rfl⟩
 go_wp2_with fail
 refine (f2 _).mono ?_
 rintro e W2 ⟨rfl,n2,rfl⟩
 clear f1 f2
 go_wp2
 refine bodyPost_ret (v:=.agg #[.slice (some ⟨w.heap.size + 1,0,none⟩) 2 2,.string textTwo,.int .i64 5000,.int .i64 20]) (by simp [results,Tryz.results8,go_sem,textTwo]) rfl ⟨_,rfl,at_new' _ _ _ _ (by simp),?_⟩
 refine Below.alloc (Below.setCell (Below.setCell (Below.setCell (Below.setCell ?_ ?_ _) ?_ _) ?_ _) ?_ _) ?_ _
 ·exact below_drewN_ ((Below.refl _ w).alloc (Nat.le_refl _) _)
 all_goals simp
end Go.Proofs.YtkekohmkaefdnaaGreatDoor
namespace Go.Proofs.YtkekohmkaefdnaaGreatDoor
open Go.RowKit Go.Maps Go.Shelf Go.Proofs.YtkekohmkaefdnaaGreatDoorW.PrintWords Go.Proofs.YtkekohmkaefdnaaGreatDoorW.PrintLast Go.Proofs.YtkekohmkaefdnaaGreatDoor.Pa
attribute [local go_sem ↓] Go.wp_at_zero Go.wp_at_succ
theorem greeted_any (h ub : Nat) (w : World) (hh : At w h (hostV ub nonceH 1 false ⟨#[]⟩ ⟨#[]⟩) THost) : Calls Tryz.prog 135 #[.pointer (some ⟨h,0,none⟩),.string helloAnn] w fun e w'=>e=.returned (.tuple #[.string chall,.int .i64 0])∧At w' h (hostV ub nonceH 1 false annB (helloAnn ++ chall)) THost∧Tch (fun k=>k=h) w w':=by
 have hgh:=Pb.hello_GetHello.calls 60 helloAnn annB nonceG true w gethello_ann
 have hpc:=fun W=>Pb.hello_PutChallenge.calls nonceH chall true W putchall
 have hpp:=fun W=>Pb.shake_Papers.calls helloAnn chall (helloAnn ++ chall) W papers_ann
 have HH:=Lib.hid hh
 have hhl:=hh.lt
 clear hh
 go_enter Tryz.func135,Tryz.ntmps135
 go_wp2_with fail
 refine hgh.mono ?_
 rintro e w1 ⟨rfl,hb1⟩
 have hh1:=HH.out.below hb1 hhl
 have HB1:=Lib.hid hb1
 have z1:=hb1.size
 have HH1:=Lib.hid hh1
 have c1:=hh1.cell 1 rfl
 have hl1:=hh1.lt
 clear hgh hb1 hh1
 go_wp2_with fail
 refine (hpc _).mono ?_
 rintro e w2 ⟨rfl,hb2⟩
 have hx2 : At w2 w1.heap.size [.string annB,.string nonceG] 75:=(At.new w1 _ _).below hb2 (by simp)
 have hh2:=(HH1.out.alloc (.cells #[.string annB,.string nonceG] 75)).below hb2 (by simp;omega)
 have t2 : Tch (fun _=>False) w w2:=((Tch.of_below (fun _=>False) HB1.out).trans (Tch.alloc (fun _=>False) w1 _) (fun _ _ h=>h)).trans (Tch.of_below (fun _=>False) hb2) (fun _ _ h=>h)
 have x0:=hx2.cell 0 rfl
 have d4:=hh2.cell 4 rfl
 have d5:=hh2.cell 5 rfl
 have g4:=hh2.frozen 4
 have g5:=hh2.frozen 5
 have n1 : h ≠ w1.heap.size:=by omega
 have n2 : w1.heap.size ≠ h:=by omega
 have HH2:=Lib.hid hh2
 have HT2:=Lib.hid t2
 clear hb2 hx2 hh2 t2 hpc
 dsimp only
 go_wp2
 go_region_held3 (fun w'=>w'.cell? ⟨w1.heap.size,0,none⟩=some (.string annB)) (go_keep)
  ((go_at_call 196;refine (hpp _).mono ?_;rintro e w3 ⟨rfl,n3,rfl⟩))
 go_wp2
 go_ret2
 refine ⟨rfl,((HH2.out.drewN _).set 4 (.string annB)).set 5 (.string (helloAnn ++ chall)),?_⟩
 exact (((HT2.out.mono (fun _ _ h=>h.elim)).trans (Tch.drewN (fun _=>False) _ _) (fun _ _ h=>h.elim)).trans (Tch.set _ ⟨h,4,none⟩ _) (fun _ _ h=>h)).trans (Tch.set _ ⟨h,5,none⟩ _) (fun _ _ h=>h)
theorem done_any (h ub : Nat) (nonce : ByteArray) (got : Int) (user papers : ByteArray) (w : World) (hh : At w h (hostV ub nonce got false user papers) THost) : Calls Tryz.prog 64 #[.pointer (some ⟨h,0,none⟩)] w fun e w'=>e=.returned (.bool false)∧w=w':=by
 have c9:=hh.cell 9 rfl
 clear hh
 go_enter Tryz.func64,Tryz.ntmps64
 go_wp2
 go_ret
 exact ⟨rfl,rfl⟩
theorem got_any (h ub : Nat) (now : Int) (w : World) (hh : At w h (hostV ub nonceH 0 false ⟨#[]⟩ ⟨#[]⟩) THost) : Calls Tryz.prog 103 #[.pointer (some ⟨h,0,none⟩),.string helloAnn,.int .i64 now] w fun e w'=>e=.returned (.tuple #[.string chall,.int .i64 0])∧At w' h (hostV ub nonceH 1 false annB (helloAnn ++ chall)) THost∧Tch (fun k=>k=h) w w':=by
 have c0:=hh.cell 0 rfl
 have c2:=hh.cell 2 rfl
 have c3:=hh.cell 3 rfl
 have c9:=hh.cell 9 rfl
 have f2:=hh.frozen 2
 have hh1 : At (w.setCell ⟨h,2,none⟩ (.int .i64 1)) h (hostV ub nonceH 1 false ⟨#[]⟩ ⟨#[]⟩) THost:=hh.set 2 (.int .i64 1)
 have hg:=greeted_any h ub _ hh1
 clear hh hh1
 go_enter Tryz.func103,Tryz.ntmps103
 go_wp2_with fail
 refine hg.mono ?_
 rintro e w1 ⟨rfl,hh1,ht1⟩
 have c3:=hh1.cell 3 rfl
 have f3:=hh1.frozen 3
 have HH:=Lib.hid hh1
 have HT:=Lib.hid ((Tch.set w ⟨h,2,none⟩ (.int .i64 1)).trans ht1 (fun _ _ h=>h))
 clear hg hh1 ht1
 go_wp2
 go_ret2
 exact ⟨rfl,HH.out.set 3 (.bool false),HT.out.trans (Tch.set _ ⟨h,3,none⟩ _) (fun _ _ h=>h)⟩
end Go.Proofs.YtkekohmkaefdnaaGreatDoor
namespace Go.Proofs.YtkekohmkaefdnaaGreatDoor
open Go.RowKit Go.Maps Go.Shelf Go.Proofs.YtkekohmkaefdnaaGreatDoorW.PrintWords Go.Proofs.YtkekohmkaefdnaaGreatDoorW.PrintLast Go.Proofs.YtkekohmkaefdnaaGreatDoor.Pa
attribute [local go_sem ↓] Go.wp_at_zero Go.wp_at_succ
def replyB : ByteArray:=⟨#[0,17,2,102,101,100,99,98,97,57,56,55,54,53,52,51,50,49,48]⟩
def head17 : ByteArray:=⟨#[0,17]⟩
theorem reply_cat : head17 ++ chall=replyB:=by decide +kernel
theorem frame_cat2 : head21 ++ helloAnn=frameB:=by decide +kernel
theorem chall_size : chall.size=17:=rfl
theorem at_ne {w : World} {a b : Nat} {cs cs' : List Value} {t t' : Nat} (h : At w a cs t) (k : At w b cs' t') (ht : t ≠ t') : a ≠ b:=by
 rintro rfl
 unfold At at h k
 rw [h] at k
 injection k with k
 injection k with _ k
 exact ht k
theorem put_chall (w : World) : Calls Tryz.prog 107 #[.string chall] w fun e w'=>e=.returned (.tuple #[.string replyB,.bool true])∧Below w.heap.size w w':=by
 have hs:=chall_size
 have hc:=reply_cat
 have hz : head17.size=2:=rfl
 have hr:=Pb.frame_right.calls 17 true w (by decide +kernel)
 have hp:=fun W=>octet_PutBig.calls 17 2 head17 W putbig17
 go_enter Tryz.func107,Tryz.ntmps107
 go_wp2_with (first | (go_at_call 129;refine hr.mono ?_;rintro e w1 ⟨rfl,n,rfl⟩) | (go_at_call 137;refine (hp _).mono ?_;rintro e w2 ⟨rfl,hb⟩))
 go_ret2
 exact ⟨rfl,hb.os,hb.tape,hb.output,hb.size,hb.block⟩
theorem ref_frame (w : World) : Calls Tryz.prog 32 #[.string helloAnn] w fun e w'=>e=.returned (.tuple #[.string frameB,.bool true])∧Below w.heap.size w w':=by
 have hs:=helloAnn_size
 have hc:=frame_cat2
 have hz:=head21_size
 have hp:=fun W=>Pb.escutcheonref1_PutBig.calls 60 21 2 head21 W putbig21
 go_enter Tryz.func32,Tryz.ntmps32
 go_wp2_with (go_at_call 72;refine (hp _).mono ?_;rintro e w2 ⟨rfl,hb⟩)
 go_ret2
 exact ⟨rfl,hb⟩
theorem letter_any (p mb b h ub : Nat) (u rl c r : Value) (ids now : Int) (x1 x2 x3 x4 x5 x10 : Value) (w : World) (hp : At w p (portV u rl c r ids now mb) TPort) (hb : At w b (connV (.pointer (some ⟨h,0,none⟩)) x1 x2 x3 x4 x5 x10 false) TConn) (hh : At w h (hostV ub nonceH 0 false ⟨#[]⟩ ⟨#[]⟩) THost) (h0 : 0 ≤ now) (h1 : now ≤ 1000000000000) :
  Calls Tryz.prog 74 #[.pointer (some ⟨p,0,none⟩),.pointer (some ⟨b,0,none⟩),.string helloAnn] w fun e w'=>e=.returned (.tuple #[.string replyB,.int .i64 0])∧Tch (fun k=>k=h) w w':=by
 have hd:=done_any h ub nonceH 0 _ _ w hh
 have HH:=Lib.hid hh
 have HP:=Lib.hid hp
 have hbh : b ≠ h:=at_ne hb hh (by decide)
 have hph : p ≠ h:=at_ne hp hh (by decide)
 have b0:=hb.cell 0 rfl
 have p5:=hp.cell 5 rfl
 have HB:=Lib.hid hb
 have hbl:=hb.lt
 have hpl:=hp.lt
 clear hp hb hh
 go_enter Tryz.func74,Tryz.ntmps74
 go_wp2_with fail
 refine hd.mono ?_
 rintro e w' ⟨rfl,rfl⟩
 clear hd
 go_wp2
 go_region_held3 (fun w'=>w'.cell? ⟨b,0,none⟩=some (.pointer (some ⟨h,0,none⟩))∧w'.cell? ⟨p,5,none⟩=some (.int .i64 now)) ((go_split_ands;refine ⟨by (first | assumption | go_keep | (rw [ht.cell (by first | assumption | exact hbl) (by first | assumption | exact hbh)];first | assumption | go_keep)),by (first | assumption | go_keep | (rw [ht.cell (by first | assumption | exact hpl) (by first | assumption | exact hph)];first | assumption | go_keep))⟩))
  (first | ((go_at_call 24;refine (now_cell p now _ ?_ h0 (by omega)).mono ?_;(simp [*]);rintro e w1 ⟨rfl,rfl⟩)) | ((go_at_call 103;refine (got_any h ub now _ ?_).mono ?_;(first | exact HH.out | exact HH.out.drew | exact HH.out.drewN _);rintro e w2 ⟨rfl,hh2,ht⟩)))
 all_goals
  have hd2:=fun W hW=>done_any h ub nonceH 1 annB (helloAnn ++ chall) W hW
  have b2:=ht.cell (p:=⟨b,0,none⟩) hbl hbh
  have b3:=b2.trans b0
  have HH2:=Lib.hid hh2
  have HT:=Lib.hid ht
  clear hh2 ht b2
  go_wp2_with (first | (go_at_call 64;refine (hd2 _ HH2.out).mono ?_;rintro e w3 ⟨rfl,rfl⟩) | (go_at_call 107;refine (put_chall _).mono ?_;rintro e w4 ⟨rfl,hb4⟩))
  go_ret2
  have hz:=HT.out.trans (Tch.of_below (fun _=>False) hb4) (fun _ _ h=>h.elim)
  first
  | exact ⟨rfl,hz⟩
  | exact ⟨rfl,(Tch.drew (fun _=>False) w).trans hz (fun _ _ h=>h) |>.mono (fun _ _ h=>h)⟩
  | exact ⟨rfl,(Tch.drew (fun k=>k=h) w).trans hz (fun _ _ h=>h)⟩
end Go.Proofs.YtkekohmkaefdnaaGreatDoor
namespace Go.Proofs.YtkekohmkaefdnaaGreatDoor
open Go.RowKit Go.Maps Go.Shelf Go.Proofs.YtkekohmkaefdnaaGreatDoorW.PrintWords Go.Proofs.YtkekohmkaefdnaaGreatDoorW.PrintLast Go.Proofs.YtkekohmkaefdnaaGreatDoor.Pa
attribute [local go_sem ↓] Go.wp_at_zero Go.wp_at_succ
theorem empty_cat : ByteArray.empty ++ replyB=replyB:=by decide +kernel
theorem openAt_one (b : Nat) : openAt [b] [false] 1=some b:=rfl
def FpR (w : World) (p b h rd : Nat) (gg : Nat) (out i : Value) (wr : World) : Prop:=
 (1 ≤ gg∧i=.int .i64 0∧out=.string ByteArray.empty∧wr=w) ∨ (i=.int .i64 1∧out=.string replyB∧Tch (fun k=>k=b ∨ k=h ∨ k=rd) w wr)
theorem port_feed (p mb b h rd ub : Nat) (u rl c r : Value) (ids now : Int) (x2 x3 x4 x5 x10 : Value) (w : World) (hp : At w p (portV u rl c r ids now mb) TPort) (hC : Conns w mb [b] [false]) (hb : At w b (connV (.pointer (some ⟨h,0,none⟩)) (.pointer (some ⟨rd,0,none⟩)) x2 x3 x4 x5 x10 false) TConn) (hh : At w h (hostV ub nonceH 0 false ⟨#[]⟩ ⟨#[]⟩) THost) (hr : At w rd (readV ⟨#[]⟩ false 0) TReader) (h0 : 0 ≤ now) (h1 : now ≤ 1000000000000) :
  Calls Tryz.prog 33 #[.pointer (some ⟨p,0,none⟩),.int .i64 1,.string frameB] w fun e w'=>e=.returned (.tuple #[.string replyB,.int .i64 0])∧Tch (fun k=>k=b ∨ k=h ∨ k=rd) w w':=by
 have ho:=of_any p mb u rl c r ids now [b] [false] 1 w hp hC (by decide)
 rw [openAt_one] at ho
 change Calls _ _ _ _ (fun e w'=>e=.returned (.pointer (some ⟨b,0,none⟩))∧w=w') at ho
 have hbh : b ≠ h:=at_ne hb hh (by decide)
 have hbr : b ≠ rd:=at_ne hb hr (by decide)
 have hhr : h ≠ rd:=at_ne hh hr (by decide)
 have hpb : p ≠ b:=at_ne hp hb (by decide)
 have hph : p ≠ h:=at_ne hp hh (by decide)
 have hpr : p ≠ rd:=at_ne hp hr (by decide)
 have hpl:=hp.lt
 have hbl:=hb.lt
 have f5:=hb.frozen 5
 have hnow:=now_cell p now w (hp.cell 5 rfl) h0 (by omega)
 have hb1 : At (w.setCell ⟨b,5,none⟩ (.int .i64 now)) b (connV (.pointer (some ⟨h,0,none⟩)) (.pointer (some ⟨rd,0,none⟩)) x2 x3 x4 (.int .i64 now) x10 false) TConn:=hb.set 5 (.int .i64 now)
 have hh1 : At (w.setCell ⟨b,5,none⟩ (.int .i64 now)) h (hostV ub nonceH 0 false ⟨#[]⟩ ⟨#[]⟩) THost:=hh.other ⟨b,5,none⟩ (.int .i64 now) (Ne.symm hbh)
 have hr1 : At (w.setCell ⟨b,5,none⟩ (.int .i64 now)) rd (readV ⟨#[]⟩ false 0) TReader:=hr.other ⟨b,5,none⟩ (.int .i64 now) (Ne.symm hbr)
 have hp1 : At (w.setCell ⟨b,5,none⟩ (.int .i64 now)) p (portV u rl c r ids now mb) TPort:=hp.other ⟨b,5,none⟩ (.int .i64 now) hpb
 have t1 : Tch (fun k=>k=b ∨ k=h ∨ k=rd) w (w.setCell ⟨b,5,none⟩ (.int .i64 now)):=(Tch.set w ⟨b,5,none⟩ (.int .i64 now)).mono (fun _ _ h=>.inl h)
 have b11:=hb1.cell 1 rfl
 have hf:=feed_one rd _ hr1
 have hfz : frameB.size=23:=frameB_size
 have hrz : replyB.size=19:=rfl
 have hrc:=empty_cat
 have hne : (!frameB.toList.isEmpty)=true:=by decide +kernel
 have c5:=hb.cell 5 rfl
 generalize hW1 : w.setCell ⟨b,5,none⟩ (.int .i64 now)=W1 at hb1 hh1 hr1 hp1 t1 b11 hf
 have HB:=Lib.hid hb1
 have HH:=Lib.hid hh1
 have HP:=Lib.hid hp1
 have HT:=Lib.hid t1
 clear hp hC hb hh hr hb1 hh1 hp1 hr1 t1
 go_enter Tryz.func33,Tryz.ntmps33
 go_wp2_with (first | (go_at_call 62;refine ho.mono ?_;rintro e w1 ⟨rfl,rfl⟩) | (go_at_call 24;refine hnow.mono ?_;rintro e w1 ⟨rfl,rfl⟩))
 refine hf.mono ?_
 rintro e w2 ⟨v,rfl,⟨g,cp,rfl,hB,hg,hc0⟩,_,ht2⟩
 have hh2:=HH.out.tch ht2 hhr
 have hp2:=HP.out.tch ht2 hpr
 have hb2:=HB.out.tch ht2 hbr
 have hlet:=letter_any p mb b h ub u rl c r ids now _ x2 x3 x4 _ x10 w2 hp2 hb2 hh2 h0 h1
 have HT2:=Lib.hid ((HT.out.trans ht2 (fun _ _ h=>.inr (.inr h))))
 clear hh2 hp2 hb2 ht2 hf ho hnow
 obtain ⟨i0,hi,hz0',hz1,hz2⟩:=info_parts info_str
 go_wp2
 go_loopg [11,41] 1 (fun gg s11 s41 wr=>FpR w2 p b h rd gg s11 s41 wr)
 case atStart=>exact .inl ⟨Nat.le_refl _,rfl,rfl,rfl⟩
 case round=>
  rcases hrel with ⟨hgg,rfl,rfl,rfl⟩ | ⟨rfl,rfl,ht⟩
  ·go_wp2_with fail
   refine hlet.mono ?_
   rintro e w3 ⟨rfl,ht3⟩
   have HT3:=Lib.hid ht3
   clear ht3 hlet
   go_wp2
   go_roundg 0
   case measure=>omega
   case rel=>
    have ht3:=HT3.out
    refine .inr ⟨rfl,rfl,?_⟩
    exact ht3.mono (fun _ _ h=>.inr (.inl h))
  ·have HT3:=Lib.hid ht
   clear ht hlet
   go_wp2
   go_ret2
   refine ⟨rfl,?_⟩
   first
   | exact HT2.out.trans HT3.out (fun _ _ h=>h)
   | exact (HT2.out.trans HT3.out (fun _ _ h=>h)).trans (Tch.drewN (fun _=>False) _ _) (fun _ _ h=>h.elim)
   | exact (HT2.out.trans HT3.out (fun _ _ h=>h)).trans (Tch.drew (fun _=>False) _) (fun _ _ h=>h.elim)
end Go.Proofs.YtkekohmkaefdnaaGreatDoor
namespace Go.Proofs.YtkekohmkaefdnaaGreatDoor
open Go.RowKit Go.Maps Go.Shelf Go.Proofs.YtkekohmkaefdnaaGreatDoorW.PrintWords Go.Proofs.YtkekohmkaefdnaaGreatDoorW.PrintLast Go.Proofs.YtkekohmkaefdnaaGreatDoor.Pa
attribute [local go_sem ↓] Go.wp_at_zero Go.wp_at_succ
theorem rules_keep {w w1 : World} {A : Option Addr} {S : Nat→Prop} (h : Kd.C k145 w A 1 [ruleAnn]) (hty : ∀ ad,A=some ad→∃ cells,At w ad.block cells 145) (t : Tch S w w1) (hS : ∀ k cells,At w k cells 145→¬ S k) : Kd.C k145 w1 A 1 [ruleAnn]∧∀ ad,A=some ad→∃ cells,At w1 ad.block cells 145:=by
 refine ⟨⟨h.1,h.2.1,fun hn=>?_⟩,fun ad ha=>?_⟩
 ·obtain ⟨ad,he,hc⟩:=h.2.2 hn
  refine ⟨ad,he,fun j p hj=>?_⟩
  obtain ⟨cs,h1,h2,h3⟩:=hc j p hj
  obtain ⟨cells,hcl⟩:=hty ad he
  refine ⟨cs,h1,h2,fun i u hu=>?_⟩
  have hb : ∀ m,(ad.add m).block=ad.block:=fun m=>by unfold Addr.add;split <;> rfl
  rw [t.cell (by rw [hb];exact hcl.lt) (by rw [hb];exact hS _ _ hcl)]
  exact h3 i u hu
 ·obtain ⟨cells,hc⟩:=hty ad ha
  exact ⟨cells,hc.tch t (hS _ _ hc)⟩
theorem alive_any (w : World) (hLd : Laid w) : Calls Tryz.prog 7 #[] w fun e w'=>e=.returned (.bool true)∧Below w.heap.size w w':=by
 have f1:=fun W=>Pb.escutcheonlaw5_Fill.calls 60 ⟨#[115]⟩ 32 fillS W fill_s
 have HLd:=Lib.hid hLd
 clear hLd
 go_enter Tryz.func7,Tryz.ntmps7
 go_wp2_with fail
 refine (f1 _).mono ?_
 rintro e W1 ⟨rfl,n1,rfl⟩
 clear f1
 go_wp2_with fail
 have tw : Below w.heap.size w (((w.drewN n1).alloc (.cells #[.string annB,.string fillS] 62)).alloc (.cells #[.slice (some ⟨w.heap.size,0,none⟩) 1 1,.string textAnn,.int .i64 100,.int .i64 2] 26)):=((below_drewN_ (Below.refl _ w)).alloc (by simp) _).alloc (by simp) _
 have hl : At (((w.drewN n1).alloc (.cells #[.string annB,.string fillS] 62)).alloc (.cells #[.slice (some ⟨w.heap.size,0,none⟩) 1 1,.string textAnn,.int .i64 100,.int .i64 2] 26)) w.heap.size (userCells usersOne) 62:=(at_new' _ _ _ _ (by simp)).alloc _
 have hnew:=port_new usersOne w.heap.size 1 60 textAnn [ruleAnn] 0 100 2 _ hl usersOne_ok parse_ann (HLd.out.below rfl tw) (by decide) (by decide) (by decide) (by decide)
 have TW:=Lib.hid tw
 clear hl tw
 refine hnew.mono ?_
 rintro e w2 ⟨p,mb,ub,cb,tb,rb,rv,rfl,⟨hport,hconns,⟨A,c,rfl,hcap,hC,hty⟩,hcache,htable,hring⟩,hb2,hg⟩
 have tb2:=TW.out.trans (hb2.mono TW.out.size)
 have hz2:=tb2.size
 have hzz:=TW.out.size
 clear hnew hb2
 have hac : Calls Tryz.prog 20 #[.pointer (some ⟨p,0,none⟩),.string nonceH] w2 fun e w'=>∃ b h rd,e=.returned (.tuple #[.int .i64 1,.int .i64 0])∧At w' p (portV (.pointer (some ⟨ub,0,none⟩)) (.slice A 1 c) (.pointer (some ⟨cb,0,none⟩)) (.pointer (some ⟨rb,0,none⟩)) 1 0 mb) TPort∧Conns w' mb [b] [false] ∧
  w2.heap.size ≤ b∧Tch (fun k=>k=p ∨ k=mb) w2 w'∧At w' b (connV (.pointer (some ⟨h,0,none⟩)) (.pointer (some ⟨rd,0,none⟩)) (.pointer none) (.pointer none) (.int .i64 0) (.int .i64 0) (.slice none 0 0) false) TConn ∧
  At w' h (hostV ub nonceH 0 false ⟨#[]⟩ ⟨#[]⟩) THost∧At w' rd (readV ⟨#[]⟩ false 0) TReader∧w2.heap.size ≤ h∧w2.heap.size ≤ rd:=accept_ok p mb ub _ _ _ 0 [] [] nonceH w2 rfl (by decide) (by decide) (by decide) (by decide) hport hconns
 have hcm : cb ≠ mb:=hconns.pnm hcache
 have htm : tb ≠ mb:=hconns.pnm htable
 have hrm : rb ≠ mb:=hconns.pnm hring
 have hcp : cb ≠ p:=at_ne2 hcache hport (by decide)
 have htp : tb ≠ p:=at_ne2 htable hport (by decide)
 have hrp : rb ≠ p:=at_ne2 hring hport (by decide)
 have hre : ∀ k cells,At w2 k cells 145→¬ (k=p ∨ k=mb):=fun k cells hk h=>h.elim (at_ne2 hk hport (by decide)) (hconns.pnm hk)
 have HCO:=Lib.hid hconns
 have HPO:=Lib.hid hport
 have HCA:=Lib.hid hcache
 have HTA:=Lib.hid htable
 have HRI:=Lib.hid hring
 have HRU:=Lib.hid (And.intro hC hty)
 have HB2:=Lib.hid tb2
 clear hport hconns hC hty hcache htable hring tb2
 go_wp2_with fail
 refine hac.mono ?_
 rintro e w3 ⟨b,h,rd,rfl,hp3,hco3,hlb,t3,hb3,hh3,hr3,hlh,hlr⟩
 have hBg : w.heap.size ≤ p∧w.heap.size ≤ mb∧w.heap.size ≤ cb∧w.heap.size ≤ tb∧w.heap.size ≤ rb:=by
  obtain ⟨g1,g2,g3,g4,g5⟩:=hg
  exact ⟨Nat.le_trans hzz g1,Nat.le_trans hzz g2,Nat.le_trans hzz g3,Nat.le_trans hzz g4,Nat.le_trans hzz g5⟩
 clear hg hzz hac
 obtain ⟨gp,gm,gc,gt,gr⟩:=hBg
 have t03 : Tch (fun k=>w.heap.size ≤ k) w w3:=(Tch.of_below _ HB2.out).trans t3 (fun k _ h=>by rcases h with rfl | rfl <;> omega)
 have hca3:=HCA.out.tch t3 (fun h=>h.elim hcp hcm)
 have hta3:=HTA.out.tch t3 (fun h=>h.elim htp htm)
 have hri3:=HRI.out.tch t3 (fun h=>h.elim hrp hrm)
 have hru3:=rules_keep HRU.out.1 HRU.out.2 t3 hre
 have hhe:=fun W=>Pb.escutcheonref14_Hello.calls annB nonceG helloAnn true W hello_ann
 have hfr:=fun W=>ref_frame W
 have T03:=Lib.hid t03
 have P3:=Lib.hid hp3
 have CO3:=Lib.hid hco3
 have B3:=Lib.hid hb3
 have H3:=Lib.hid hh3
 have R3:=Lib.hid hr3
 have CA3:=Lib.hid hca3
 have TA3:=Lib.hid hta3
 have RI3:=Lib.hid hri3
 have RU3:=Lib.hid hru3
 clear t03 t3 hp3 hco3 hb3 hh3 hr3 hca3 hta3 hri3 hru3 HRU HRI HTA HCA HPO HCO TW
 go_wp2_with (first | (go_at_call 31;refine (hhe _).mono ?_;rintro e w4 ⟨rfl,hb4⟩) | (go_at_call 32;refine (hfr _).mono ?_;rintro e w5 ⟨rfl,hb5⟩))
 have t35 : Tch (fun _=>False) w3 w5:=(Tch.of_below (fun _=>False) hb4).tbelow hb5
 have hp5:=P3.out.tch t35 (fun h=>h)
 have hco5:=CO3.out.tch t35 (fun h=>h) (fun _ _ h=>h)
 have hb5':=B3.out.tch t35 (fun h=>h)
 have hh5:=H3.out.tch t35 (fun h=>h)
 have hr5:=R3.out.tch t35 (fun h=>h)
 have hca5:=CA3.out.tch t35 (fun h=>h)
 have hta5:=TA3.out.tch t35 (fun h=>h)
 have hri5:=RI3.out.tch t35 (fun h=>h)
 have hru5:=rules_keep RU3.out.1 RU3.out.2 t35 (fun _ _ _ h=>h)
 have hfeed:=port_feed p mb b h rd ub _ _ _ _ 1 0 _ _ _ _ _ w5 hp5 hco5 hb5' hh5 hr5 (by decide) (by decide)
 have np : ¬ (p=b ∨ p=h ∨ p=rd):=fun e=>e.elim (at_ne2 hp5 hb5' (by decide)) (fun e=>e.elim (at_ne2 hp5 hh5 (by decide)) (at_ne2 hp5 hr5 (by decide)))
 have nc : ¬ (cb=b ∨ cb=h ∨ cb=rd):=fun e=>e.elim (at_ne2 hca5 hb5' (by decide)) (fun e=>e.elim (at_ne2 hca5 hh5 (by decide)) (at_ne2 hca5 hr5 (by decide)))
 have nt : ¬ (tb=b ∨ tb=h ∨ tb=rd):=fun e=>e.elim (at_ne2 hta5 hb5' (by decide)) (fun e=>e.elim (at_ne2 hta5 hh5 (by decide)) (at_ne2 hta5 hr5 (by decide)))
 have nr : ¬ (rb=b ∨ rb=h ∨ rb=rd):=fun e=>e.elim (at_ne2 hri5 hb5' (by decide)) (fun e=>e.elim (at_ne2 hri5 hh5 (by decide)) (at_ne2 hri5 hr5 (by decide)))
 have nu : ∀ k cells,At w5 k cells 145→¬ (k=b ∨ k=h ∨ k=rd):=fun k cells hk e=>e.elim (at_ne2 hk hb5' (by decide)) (fun e=>e.elim (at_ne2 hk hh5 (by decide)) (at_ne2 hk hr5 (by decide)))
 have t05:=T03.out.ttch t35 (fun _ _ h=>h.elim)
 have T05:=Lib.hid t05
 have P5:=Lib.hid hp5
 have CA5:=Lib.hid hca5
 have TA5:=Lib.hid hta5
 have RI5:=Lib.hid hri5
 have RU5:=Lib.hid hru5
 clear t05 hp5 hco5 hb5' hh5 hr5 hca5 hta5 hri5 hru5 t35 hb4 hb5 hhe hfr P3 CO3 B3 H3 R3 CA3 TA3 RI3 RU3
 refine hfeed.mono ?_
 rintro e w6 ⟨rfl,t6⟩
 have hr6 : ReadyAt w6 p mb cb tb rb (.pointer (some ⟨ub,0,none⟩)) A c 1:=⟨P5.out.tch t6 np,hcap,(rules_keep RU5.out.1 RU5.out.2 t6 nu).1,CA5.out.tch t6 nc,TA5.out.tch t6 nt,RI5.out.tch t6 nr⟩
 have t06:=T05.out.ttch t6 (fun k hk h=>by rcases h with rfl | rfl | rfl <;> omega)
 have hpl:=plain_set p mb cb tb rb _ A c 1 w6 hr6
 have P6:=Lib.hid hr6.port
 have npl : ¬ (p=cb ∨ p=tb ∨ p=rb):=fun e=>e.elim (fun e=>hcp e.symm) (fun e=>e.elim (fun e=>htp e.symm) (fun e=>hrp e.symm))
 have T06:=Lib.hid t06
 clear hfeed t6 hr6 t06 np nc nt nr nu P5 CA5 TA5 RI5 RU5 T05 T03
 have hpl2 : Calls Tryz.prog 11 #[.pointer (some ⟨p,0,none⟩),.string ⟨#[97,110,110]⟩,.agg #[.int .i64 2,.string ⟨#[97]⟩,.string ⟨#[120]⟩,.int .i64 0,.int .i64 0]] w6 fun e w'=>e=.returned (.agg #[.int .i64 0,.string ⟨#[]⟩,.int .i64 0,.int .i64 1,.slice none 0 0])∧LaidOne (fun k=>k=cb ∨ k=tb ∨ k=rb) w6 cb tb 100 valX 1 0 18 1 0 w':=hpl
 go_wp2_with fail
 refine hpl2.mono ?_
 rintro e w7 ⟨rfl,⟨b',c',zs,sb,i1,i2,i3,i4⟩,⟨o,i5⟩,t7⟩
 have hp7:=P6.out.tch t7 npl
 have t07:=T06.out.ttch t7 (fun k hk h=>by rcases h with rfl | rfl | rfl <;> omega)
 have hrep : At (w7.alloc (.cells #[.int .i64 0,.string ⟨#[]⟩,.int .i64 0,.int .i64 1,.slice none 0 0] TReply)) w7.heap.size repL1 TReply:=At.new w7 _ _
 have hit:=port_items p mb cb tb sb b' c' _ _ _ 1 0 100 18 1 0 1 o valX 1 0 zs (w7.alloc (.cells #[.int .i64 0,.string ⟨#[]⟩,.int .i64 0,.int .i64 1,.slice none 0 0] TReply)) (hp7.alloc _) (i5.alloc _) (i2.alloc _) (i3.alloc _) (i1.alloc _)
 have s0:=hrep.cell 0 rfl
 have s3:=hrep.cell 3 rfl
 have T07:=Lib.hid (t07.talloc (o:=(.cells #[.int .i64 0,.string ⟨#[]⟩,.int .i64 0,.int .i64 1,.slice none 0 0] TReply)))
 have hrq : (replyB.toList == [0,17,2,102,101,100,99,98,97,57,56,55,54,53,52,51,50,49,48])=true:=by decide +kernel
 clear hpl hpl2 i1 i2 i3 i4 i5 t7 t07 hp7 hrep T06 P6
 go_wp2_with (go_at_call 17;refine hit.mono ?_;rintro e w9 ⟨g9,c9,rfl,t9⟩)
 go_ret
 have h9:=T07.out.ttch t9 (fun k hk h=>by omega)
 exact ⟨rfl,h9.os,h9.tape,h9.output,h9.size,fun k hk=>h9.block k hk (Nat.not_le.2 hk)⟩
end Go.Proofs.YtkekohmkaefdnaaGreatDoor
namespace Go.Proofs.YtkekohmkaefdnaaGreatDoor.Rq
open Go.RowKit Go.Proofs.YtkekohmkaefdnaaGreatDoorW.PrintWords
def KeysP (l : List ByteArray) : Prop:=∀ k ∈ l,k.size ≤ 60
instance (l : List ByteArray) : Decidable (KeysP l):=by unfold KeysP;infer_instance
def RepP (e : Int) (v : ByteArray) (a b : Int) (l : List ByteArray) : Prop:=0 ≤ e∧e ≤ 15∧NumP a b∧v.size ≤ 500∧l.length ≤ 40∧KeysP l
instance (e : Int) (v : ByteArray) (a b : Int) (l : List ByteArray) : Decidable (RepP e v a b l):=by unfold RepP;infer_instance
theorem numbers_f (a b : Int) : Pc.command_numbers.f a b=some (numB a b):=by
 unfold Pc.command_numbers.f
 by_cases h : NumP a b
 ·rw [numB_true h]
  obtain ⟨h1,h2,h3,h4⟩:=h
  rw [if_pos (by omega),if_pos (by omega),if_pos (by omega),decide_eq_true h4]
 ·rw [numB_false h]
  unfold NumP at h
  split
  ·split
   ·split
    ·rw [decide_eq_false (by omega)]
    ·rfl
   ·rfl
  ·rfl
theorem right_loop (l : List ByteArray) (hl : l.length ≤ 40) : ∀ (n i : Nat),i ≤ l.length→l.length - i ≤ n→Pc.command_rightReply.l0 (n + 1) l (l.length : Int) (i : Int)=some (decide (KeysP (l.drop i)))
 | n,i,hi,hn=>by
  unfold Pc.command_rightReply.l0
  by_cases h : i < l.length
  ·rw [if_pos (by omega),if_pos (by omega),if_pos (by omega)]
   have hd : l.drop i=l[i] :: l.drop (i + 1):=List.drop_eq_getElem_cons h
   have hr : rdOf ByteArray.empty l (i : Int)=l[i]:=by simp [rdOf,List.getD,h]
   rw [hr,hd]
   by_cases hs : l[i].size ≤ 60
   ·rw [if_neg (by omega),show wrap64 ((i : Int) + 1)=((i + 1 : Nat) : Int) from wrap_small (i + 1) (by omega)]
    obtain ⟨m,rfl⟩ : ∃ m,n=m + 1:=⟨n - 1,by omega⟩
    have:=right_loop l hl m (i + 1) (by omega) (by omega)
    rw [this]
    congr 1
    refine decide_eq_decide.mpr ?_
    constructor
    ·intro h k hk
     rcases List.mem_cons.1 hk with rfl | hk
     ·exact hs
     ·exact h k hk
    ·intro h k hk
     exact h k (List.mem_cons_of_mem _ hk)
   ·rw [if_pos (by omega)]
    congr 1
    refine (decide_eq_false ?_).symm
    intro hk
    exact hs (hk _ List.mem_cons_self)
  ·rw [if_neg (by omega)]
   congr 1
   refine (decide_eq_true ?_).symm
   rw [List.drop_eq_nil_of_le (by omega)]
   intro k hk
   cases hk
theorem right_f (e : Int) (v : ByteArray) (a b : Int) (l : List ByteArray) : Pc.command_rightReply.f 43 e v a b l=some (decide (RepP e v a b l)):=by
 have hj : ∀ x,Pc.command_rightReply.j0 43 x e v a b l=if x=true then some false else Pc.command_rightReply.l0 42 l (l.length : Int) 0:=fun x=>by unfold Pc.command_rightReply.j0;rfl
 unfold Pc.command_rightReply.f
 simp only [hj,numbers_f,Option.bind_some,if_true]
 have hno : ∀ {p : Prop},(RepP e v a b l→False)→(some false : Option Bool)=some (decide (RepP e v a b l)):=fun h=>by rw [decide_eq_false h]
 by_cases h1 : e < 0
 ·rw [if_pos h1];exact hno (p:=True) (fun h=>by obtain ⟨h,_⟩:=h;omega)
 ·rw [if_neg h1]
  by_cases h2 : e > 15
  ·rw [if_pos h2];exact hno (p:=True) (fun h=>by obtain ⟨_,h,_⟩:=h;omega)
  ·rw [if_neg h2]
   by_cases h3 : NumP a b
   ·rw [numB_true h3,if_pos rfl]
    by_cases h4 : (v.size : Int) > 500
    ·rw [if_pos h4];exact hno (p:=True) (fun h=>by obtain ⟨_,_,_,h,_⟩:=h;omega)
    ·rw [if_neg h4]
     by_cases h5 : l.length ≤ 40
     ·rw [decide_eq_false (show ¬ ((l.length : Int) > 40) by omega),if_neg (by simp)]
      have:=right_loop l h5 41 0 (by omega) (by omega)
      rw [show (((0 : Nat) : Int))=0 from rfl] at this
      rw [this,List.drop_zero]
      congr 1
      refine decide_eq_decide.mpr ?_
      unfold RepP
      constructor
      ·intro h;exact ⟨by omega,by omega,h3,by omega,h5,h⟩
      ·intro h;exact h.2.2.2.2.2
     ·rw [decide_eq_true (show ((l.length : Int) > 40) by omega),if_pos rfl]
      exact hno (p:=True) (fun h=>by obtain ⟨_,_,_,_,h,_⟩:=h;omega)
   ·rw [numB_false h3,if_neg (by simp)];exact hno (p:=True) (fun h=>h3 h.2.2.1)
theorem rightReply_any (e : Int) (v : ByteArray) (a b : Int) (A : Option Addr) (c : Nat) (l : List ByteArray) (w : World) (hC : Kd.C Kd.string w A l.length l) (hc : l.length ≤ c) :
  Calls Tryz.prog 155 #[.agg #[.int .i64 e,.string v,.int .i64 a,.int .i64 b,.slice A l.length c]] w fun x w'=>x=.returned (.bool (decide (RepP e v a b l)))∧Below w.heap.size w w':=
 Pc.command_rightReply.calls 43 e v a b A c l _ w hC hc (right_f e v a b l)
end Go.Proofs.YtkekohmkaefdnaaGreatDoor.Rq
set_option linter.unusedSimpArgs false
namespace Go.Proofs.YtkekohmkaefdnaaGreatDoor.Rq
open Go.RowKit Go.Proofs.YtkekohmkaefdnaaGreatDoorW.PrintWords Go.Proofs.YtkekohmkaefdnaaGreatDoorW.PrintLast
def big2 (n : Nat) : ByteArray:=strOfNums (pcells n 2 2)
theorem big2_size (n : Nat) : (big2 n).size=2:=by unfold big2;rw [strOfNums_size,pcells_length]
def headB (e : Int) (v : ByteArray) (a b : Int) : ByteArray:=((oneB (e % 256) ++ pairB a b) ++ big2 v.size) ++ v
theorem headB_size (e : Int) (v : ByteArray) (a b : Int) : (headB e v a b).size=19 + v.size:=by unfold headB;rw [ByteArray.size_append,ByteArray.size_append,ByteArray.size_append,oneB_size,pairB_size,big2_size]
theorem conv_h {W : World} {h : Nat} {x : Int} (hh : W.heap[h]? = some (.cells #[.int .u8 x] 5 (0,0))) : (convert 150 9 (.slice (some ⟨h,0,none⟩) 1 1)).run Tryz.prog W=.ok (.string (oneB x)) W:=
 isB.conv (xs:=[x]) hh 1 1 rfl
theorem blk3_ {W W1 : World} {x13 : Value} {x : Int} (h : ∃ h,x13=.slice (some ⟨h,0,none⟩) 1 1∧W.heap[h]? = some (.cells #[.int .u8 x] 5 (0,0))) (hb : Below W.heap.size W W1) :
  ∃ h,x13=.slice (some ⟨h,0,none⟩) 1 1∧W1.heap[h]? = some (.cells #[.int .u8 x] 5 (0,0)):=by
 obtain ⟨h,h1,h2⟩:=h
 exact ⟨h,h1,blk_below h2 hb⟩
theorem bat_below {W W1 : World} {B b : Nat} {p : Value} {bs : List Value} (h : Lib.BuilderAtF 241 5 B b p bs W) (hb : Below W.heap.size W W1) : Lib.BuilderAtF 241 5 B b p bs W1:=by
 obtain ⟨hB,v,hv,hown,hne⟩:=h
 refine ⟨hB,v,blk_below hv hb,⟨hown.1,?_⟩,hne⟩
 rcases hown.2 with hn | ⟨g,cap,cur,fz,e1,e2,e3,rest⟩
 ·exact .inl hn
 ·exact .inr ⟨g,cap,cur,fz,e1,e2,blk_below e3 hb,rest⟩
theorem isb_fresh {W : World} {b : Nat} (h : W.heap[b]? = some (.cells #[.pointer none,.slice none 0 0] 241 (0,0))) : Lib.IsBuilderF 241 5 b b [] W:=
 .inl ⟨Nat.le_refl _,.slice none 0 0,h,World.ownsRowF_nil _ _ _ _,by simp [Value.ownBlock]⟩
theorem wrap_u (n : Nat) (h : n ≤ 500) : IntKind.u64.wrap (n : Int)=n:=by
 show (n : Int) % 18446744073709551616=n
 omega
def I4 (e : Int) (v : ByteArray) (a0 b0 : Int) (A : Option Addr) (c : Nat) (l : List ByteArray) (w : World) (g b : Nat) (L : Nat→Bool) (a : Act) (W : World) : Prop:=
 ∃ x10 x11 x12 x13 x14 x15 x16 x17 x18 x19 x20 x21 x22 x23 x24 x25 x26 x27 x28 x29 x30 : Value,a=⟨#[(.agg #[.int .i64 e,.string v,.int .i64 a0,.int .i64 b0,.slice A l.length c]),(.pointer (some ⟨g,0,none⟩)),.string ⟨#[]⟩,.bool false,.pointer (some ⟨b,0,none⟩),undef,undef,(.agg #[.int .i64 e,.string v,.int .i64 a0,.int .i64 b0,.slice A l.length c]),.bool true,.bool false,x10,x11,x12,x13,x14,x15,x16,x17,x18,x19,x20,x21,x22,x23,x24,x25,x26,x27,x28,x29,x30,undef,undef,undef,undef,undef,undef,undef,undef,undef,undef,undef,undef,undef,undef,undef,undef,undef,undef,undef],[]⟩∧(L 0=true→x10=.pointer (some ⟨g,0,none⟩))∧(L 1=true→x11=.int .i64 e)∧(L 2=true→x12=.int .u8 (e % 256))∧(L 3=true→(L 4=false→∃ h,x13=.slice (some ⟨h,0,none⟩) 1 1∧W.heap[h]? = some (.cells #[.int .u8 (e % 256)] 5 (0,0))))∧(L 4=true→x14=.string (oneB (e % 256)))∧(L 5=true→x15=.pointer (some ⟨g,2,none⟩))∧(L 6=true→x16=.int .i64 a0)∧(L 7=true→x17=.pointer (some ⟨g,3,none⟩))∧(L 8=true→x18=.int .i64 b0)∧(L 9=true→x19=.string (pairB a0 b0))∧(L 10=true→x20=.string (oneB (e % 256) ++ pairB a0 b0))∧(L 11=true→x21=.pointer (some ⟨g,1,none⟩))∧(L 12=true→x22=.string v)∧(L 13=true→x23=.int .i64 v.size)∧(L 14=true→x24=.int .u64 v.size)∧(L 15=true→x25=.string (big2 v.size))∧(L 16=true→x26=.string ((oneB (e % 256) ++ pairB a0 b0) ++ big2 v.size))∧(L 17=true→x27=.pointer (some ⟨g,1,none⟩))∧(L 18=true→x28=.string v)∧(L 19=true→x29=.string (headB e v a0 b0))∧(L 20=true→Lib.BuilderAtF 241 5 b b (.pointer (some ⟨b,0,none⟩)) (Lib.strCells (headB e v a0 b0)) W)∧(W.heap[g]? = some (.cells #[.int .i64 e,.string v,.int .i64 a0,.int .i64 b0,.slice A l.length c] 38 (0,0)))∧(Below w.heap.size w W)∧(L 20=false→W.heap[b]? = some (.cells #[.pointer none,.slice none 0 0] 241 (0,0)))∧(b < W.heap.size)
theorem I4.step (e : Int) (v : ByteArray) (a0 b0 : Int) (A : Option Addr) (c : Nat) (l : List ByteArray) (w : World) (g b : Nat) (hgb : g < b) (hwg : w.heap.size ≤ g) (hN : NumP a0 b0) (hv : v.size ≤ 500) {Q : Exit→Act→World→Prop} : ∀ i o L a W,(opsOf Tryz.f119 4)[i]? = some o→L i=false→o.after.all (fun e=>!Region.binds .any e || L e.on)=true→ClosedL (opsOf Tryz.f119 4) L→I4 e v a0 b0 A c l w g b L a W →
  if Region.wanted o (yielded (opsOf Tryz.f119 4) a.tmps)=true then Oper.wp Tryz.prog o a W (fun a' w'=>I4 e v a0 b0 A c l w g b (fun j=>j == i || L j) a' w') Q else I4 e v a0 b0 A c l w g b (fun j=>j == i || L j) (a.put o.dst undef) W:=by
 intro i o L a W ho hLi haft hcl hI
 obtain ⟨x10,x11,x12,x13,x14,x15,x16,x17,x18,x19,x20,x21,x22,x23,x24,x25,x26,x27,x28,x29,x30,rfl,h0,h1,h2,h3,h4,h5,h6,h7,h8,h9,h10,h11,h12,h13,h14,h15,h16,h17,h18,h19,h20,hg,hb,hbu,hsz⟩:=hI
 rcases i with _|_|_|_|_|_|_|_|_|_|_|_|_|_|_|_|_|_|_|_|_|_
 ·obtain rfl : ({ dst:=some 10,op:=Go.Op.fieldAddr 38 (Go.Operand.tmp 1) 0,type:=0,pos := "command.go:145",after:=#[],guard:=none } : Oper)=o:=Option.some.inj ho
  refine value_ (v:=.pointer (some ⟨g,0,none⟩)) (w1:=W) (by rfl) rfl ?_ ?_
  ·go_simp;try rfl
  exact ⟨.pointer (some ⟨g,0,none⟩),x11,x12,x13,x14,x15,x16,x17,x18,x19,x20,x21,x22,x23,x24,x25,x26,x27,x28,x29,x30,rfl,fun _=>rfl,h1,h2,h3,h4,h5,h6,h7,h8,h9,h10,h11,h12,h13,h14,h15,h16,h17,h18,h19,h20,hg,hb,hbu,hsz⟩
 ·obtain rfl : ({ dst:=some 11,op:=Go.Op.load 29 (Go.Operand.tmp 10),type:=29,pos := "command.go:145",after:=#[{ on:=0,ground:=Go.Ground.data }],guard:=none } : Oper)=o:=Option.some.inj ho
  obtain rfl:=h0 (dep_ haft 0 rfl)
  have hc : W.cell? ⟨g,0,none⟩=some (.int .i64 e):=(blk_cell hg 0).trans rfl
  refine value_ (v:=.int .i64 e) (w1:=W) (by rfl) rfl ?_ ?_
  ·go_simp;try rfl
  exact ⟨.pointer (some ⟨g,0,none⟩),.int .i64 e,x12,x13,x14,x15,x16,x17,x18,x19,x20,x21,x22,x23,x24,x25,x26,x27,x28,x29,x30,rfl,fun _=>rfl,fun _=>rfl,h2,h3,h4,h5,h6,h7,h8,h9,h10,h11,h12,h13,h14,h15,h16,h17,h18,h19,h20,hg,hb,hbu,hsz⟩
 ·obtain rfl : ({ dst:=some 12,op:=Go.Op.convert 29 5 (Go.Operand.tmp 11),type:=5,pos := "command.go:145",after:=#[{ on:=1,ground:=Go.Ground.data }],guard:=none } : Oper)=o:=Option.some.inj ho
  obtain rfl:=h1 (dep_ haft 0 rfl)
  refine value_ (v:=.int .u8 (e % 256)) (w1:=W) (by rfl) rfl ?_ ?_
  ·go_simp;try rfl
  exact ⟨x10,.int .i64 e,.int .u8 (e % 256),x13,x14,x15,x16,x17,x18,x19,x20,x21,x22,x23,x24,x25,x26,x27,x28,x29,x30,rfl,h0,fun _=>rfl,fun _=>rfl,h3,h4,h5,h6,h7,h8,h9,h10,h11,h12,h13,h14,h15,h16,h17,h18,h19,h20,hg,hb,hbu,hsz⟩
 ·obtain rfl : ({ dst:=some 13,op:=Go.Op.buildSlice 150 1 #[(0,Go.Operand.tmp 12)],type:=150,pos := "command.go:145",after:=#[{ on:=2,ground:=Go.Ground.data }],guard:=none } : Oper)=o:=Option.some.inj ho
  obtain rfl:=h2 (dep_ haft 0 rfl)
  refine value_ (v:=(.slice (some ⟨W.heap.size,0,none⟩) 1 1)) (w1:=W.alloc (.cells #[.int .u8 (e % 256)] 5)) (by rfl) rfl ?_ ?_
  ·go_simp;try rfl
  exact ⟨x10,x11,.int .u8 (e % 256),(.slice (some ⟨W.heap.size,0,none⟩) 1 1),x14,x15,x16,x17,x18,x19,x20,x21,x22,x23,x24,x25,x26,x27,x28,x29,x30,rfl,h0,h1,fun _=>rfl,fun _=>fun _=>⟨_,rfl,heap_alloc_new W _⟩,h4,h5,h6,h7,h8,h9,h10,h11,h12,h13,h14,h15,h16,h17,h18,h19,fun hL=>bat_below (h20 hL) ((Below.refl W.heap.size W).alloc (Nat.le_refl _) _),blk_below hg ((Below.refl W.heap.size W).alloc (Nat.le_refl _) _),below_step hb ((Below.refl W.heap.size W).alloc (Nat.le_refl _) _),fun hL=>blk_below (hbu hL) ((Below.refl W.heap.size W).alloc (Nat.le_refl _) _),Nat.lt_of_lt_of_le hsz (Below.size ((Below.refl W.heap.size W).alloc (Nat.le_refl _) _))⟩
 ·obtain rfl : ({ dst:=some 14,op:=Go.Op.convert 150 9 (Go.Operand.tmp 13),type:=9,pos := "command.go:145",after:=#[{ on:=3,ground:=Go.Ground.data }],guard:=none } : Oper)=o:=Option.some.inj ho
  obtain ⟨h,rfl,hh⟩:=h3 (dep_ haft 0 rfl) hLi
  have hcv:=conv_h hh
  refine value_ (v:=.string (oneB (e % 256))) (w1:=W) (by rfl) rfl ?_ ?_
  ·go_simp;try rfl
  exact ⟨x10,x11,x12,(.slice (some ⟨h,0,none⟩) 1 1),.string (oneB (e % 256)),x15,x16,x17,x18,x19,x20,x21,x22,x23,x24,x25,x26,x27,x28,x29,x30,rfl,h0,h1,h2,fun _ h4=>Bool.noConfusion h4,fun _=>rfl,h5,h6,h7,h8,h9,h10,h11,h12,h13,h14,h15,h16,h17,h18,h19,h20,hg,hb,hbu,hsz⟩
 ·obtain rfl : ({ dst:=some 15,op:=Go.Op.fieldAddr 38 (Go.Operand.tmp 1) 2,type:=0,pos := "command.go:145",after:=#[],guard:=none } : Oper)=o:=Option.some.inj ho
  refine value_ (v:=.pointer (some ⟨g,2,none⟩)) (w1:=W) (by rfl) rfl ?_ ?_
  ·go_simp;try rfl
  exact ⟨x10,x11,x12,x13,x14,.pointer (some ⟨g,2,none⟩),x16,x17,x18,x19,x20,x21,x22,x23,x24,x25,x26,x27,x28,x29,x30,rfl,h0,h1,h2,h3,h4,fun _=>rfl,h6,h7,h8,h9,h10,h11,h12,h13,h14,h15,h16,h17,h18,h19,h20,hg,hb,hbu,hsz⟩
 ·obtain rfl : ({ dst:=some 16,op:=Go.Op.load 3 (Go.Operand.tmp 15),type:=3,pos := "command.go:145",after:=#[{ on:=5,ground:=Go.Ground.data }],guard:=none } : Oper)=o:=Option.some.inj ho
  obtain rfl:=h5 (dep_ haft 0 rfl)
  have hc : W.cell? ⟨g,2,none⟩=some (.int .i64 a0):=(blk_cell hg 2).trans rfl
  refine value_ (v:=.int .i64 a0) (w1:=W) (by rfl) rfl ?_ ?_
  ·go_simp;try rfl
  exact ⟨x10,x11,x12,x13,x14,.pointer (some ⟨g,2,none⟩),.int .i64 a0,x17,x18,x19,x20,x21,x22,x23,x24,x25,x26,x27,x28,x29,x30,rfl,h0,h1,h2,h3,h4,fun _=>rfl,fun _=>rfl,h7,h8,h9,h10,h11,h12,h13,h14,h15,h16,h17,h18,h19,h20,hg,hb,hbu,hsz⟩
 ·obtain rfl : ({ dst:=some 17,op:=Go.Op.fieldAddr 38 (Go.Operand.tmp 1) 3,type:=0,pos := "command.go:145",after:=#[],guard:=none } : Oper)=o:=Option.some.inj ho
  refine value_ (v:=.pointer (some ⟨g,3,none⟩)) (w1:=W) (by rfl) rfl ?_ ?_
  ·go_simp;try rfl
  exact ⟨x10,x11,x12,x13,x14,x15,x16,.pointer (some ⟨g,3,none⟩),x18,x19,x20,x21,x22,x23,x24,x25,x26,x27,x28,x29,x30,rfl,h0,h1,h2,h3,h4,h5,h6,fun _=>rfl,h8,h9,h10,h11,h12,h13,h14,h15,h16,h17,h18,h19,h20,hg,hb,hbu,hsz⟩
 ·obtain rfl : ({ dst:=some 18,op:=Go.Op.load 3 (Go.Operand.tmp 17),type:=3,pos := "command.go:145",after:=#[{ on:=7,ground:=Go.Ground.data }],guard:=none } : Oper)=o:=Option.some.inj ho
  obtain rfl:=h7 (dep_ haft 0 rfl)
  have hc : W.cell? ⟨g,3,none⟩=some (.int .i64 b0):=(blk_cell hg 3).trans rfl
  refine value_ (v:=.int .i64 b0) (w1:=W) (by rfl) rfl ?_ ?_
  ·go_simp;try rfl
  exact ⟨x10,x11,x12,x13,x14,x15,x16,.pointer (some ⟨g,3,none⟩),.int .i64 b0,x19,x20,x21,x22,x23,x24,x25,x26,x27,x28,x29,x30,rfl,h0,h1,h2,h3,h4,h5,h6,fun _=>rfl,fun _=>rfl,h9,h10,h11,h12,h13,h14,h15,h16,h17,h18,h19,h20,hg,hb,hbu,hsz⟩
 ·obtain rfl : ({ dst:=some 19,op:=Go.Op.call { callee:=Go.Callee.value (Go.Operand.func 157),args:=#[Go.Operand.tmp 16,Go.Operand.tmp 18],argTypes:=#[3,3] },type:=9,pos := "command.go:145",after:=#[{ on:=6,ground:=Go.Ground.data },{ on:=8,ground:=Go.Ground.data }],guard:=none } : Oper)=o:=Option.some.inj ho
  obtain rfl:=h6 (dep_ haft 0 rfl)
  obtain rfl:=h8 (dep_ haft 1 rfl)
  refine goes_ Tryz.func157 (by kernel_rfl) rfl #[.int .i64 a0,.int .i64 b0] (by rfl) rfl rfl q27_ ?_
  refine Calls.mono (pair_any a0 b0 W hN.1 hN.2.1 hN.2.2.1 hN.2.2.2) ?_
  rintro e W1 ⟨rfl,hb1⟩
  refine ⟨_,rfl,?_⟩
  exact ⟨x10,x11,x12,x13,x14,x15,.int .i64 a0,x17,.int .i64 b0,.string (pairB a0 b0),x20,x21,x22,x23,x24,x25,x26,x27,x28,x29,x30,rfl,h0,h1,h2,fun hL h4=>blk3_ (h3 hL h4) hb1,h4,h5,fun _=>rfl,h7,fun _=>rfl,fun _=>rfl,h10,h11,h12,h13,h14,h15,h16,h17,h18,h19,fun hL=>bat_below (h20 hL) hb1,blk_below hg hb1,below_step hb hb1,fun hL=>blk_below (hbu hL) hb1,Nat.lt_of_lt_of_le hsz (Below.size hb1)⟩
 ·obtain rfl : ({ dst:=some 20,op:=Go.Op.binOp Go.BinOp.add 9 (Go.Operand.tmp 14) (Go.Operand.tmp 19) 9,type:=9,pos := "command.go:145",after:=#[{ on:=4,ground:=Go.Ground.data },{ on:=9,ground:=Go.Ground.data }],guard:=none } : Oper)=o:=Option.some.inj ho
  obtain rfl:=h4 (dep_ haft 0 rfl)
  obtain rfl:=h9 (dep_ haft 1 rfl)
  have hz1 : (oneB (e % 256)).size=1:=rfl
  have hz2:=pairB_size a0 b0
  refine value_ (v:=.string (oneB (e % 256) ++ pairB a0 b0)) (w1:=W) (by rfl) rfl ?_ ?_
  ·go_simp;try rfl
  exact ⟨x10,x11,x12,x13,.string (oneB (e % 256)),x15,x16,x17,x18,.string (pairB a0 b0),.string (oneB (e % 256) ++ pairB a0 b0),x21,x22,x23,x24,x25,x26,x27,x28,x29,x30,rfl,h0,h1,h2,h3,fun _=>rfl,h5,h6,h7,h8,fun _=>rfl,fun _=>rfl,h11,h12,h13,h14,h15,h16,h17,h18,h19,h20,hg,hb,hbu,hsz⟩
 ·obtain rfl : ({ dst:=some 21,op:=Go.Op.fieldAddr 38 (Go.Operand.tmp 1) 1,type:=0,pos := "command.go:145",after:=#[],guard:=none } : Oper)=o:=Option.some.inj ho
  refine value_ (v:=.pointer (some ⟨g,1,none⟩)) (w1:=W) (by rfl) rfl ?_ ?_
  ·go_simp;try rfl
  exact ⟨x10,x11,x12,x13,x14,x15,x16,x17,x18,x19,x20,.pointer (some ⟨g,1,none⟩),x22,x23,x24,x25,x26,x27,x28,x29,x30,rfl,h0,h1,h2,h3,h4,h5,h6,h7,h8,h9,h10,fun _=>rfl,h12,h13,h14,h15,h16,h17,h18,h19,h20,hg,hb,hbu,hsz⟩
 ·obtain rfl : ({ dst:=some 22,op:=Go.Op.load 9 (Go.Operand.tmp 21),type:=9,pos := "command.go:145",after:=#[{ on:=11,ground:=Go.Ground.data }],guard:=none } : Oper)=o:=Option.some.inj ho
  obtain rfl:=h11 (dep_ haft 0 rfl)
  have hc : W.cell? ⟨g,1,none⟩=some (.string v):=(blk_cell hg 1).trans rfl
  refine value_ (v:=.string v) (w1:=W) (by rfl) rfl ?_ ?_
  ·go_simp;try rfl
  exact ⟨x10,x11,x12,x13,x14,x15,x16,x17,x18,x19,x20,.pointer (some ⟨g,1,none⟩),.string v,x23,x24,x25,x26,x27,x28,x29,x30,rfl,h0,h1,h2,h3,h4,h5,h6,h7,h8,h9,h10,fun _=>rfl,fun _=>rfl,h13,h14,h15,h16,h17,h18,h19,h20,hg,hb,hbu,hsz⟩
 ·obtain rfl : ({ dst:=some 23,op:=Go.Op.call { callee:=Go.Callee.builtin Go.Builtin.len,args:=#[Go.Operand.tmp 22],argTypes:=#[9] },type:=3,pos := "command.go:145",after:=#[{ on:=12,ground:=Go.Ground.data }],guard:=none } : Oper)=o:=Option.some.inj ho
  obtain rfl:=h12 (dep_ haft 0 rfl)
  refine value_ (v:=.int .i64 v.size) (w1:=W) (by rfl) rfl ?_ ?_
  ·go_simp;try rfl
  exact ⟨x10,x11,x12,x13,x14,x15,x16,x17,x18,x19,x20,x21,.string v,.int .i64 v.size,x24,x25,x26,x27,x28,x29,x30,rfl,h0,h1,h2,h3,h4,h5,h6,h7,h8,h9,h10,h11,fun _=>rfl,fun _=>rfl,h14,h15,h16,h17,h18,h19,h20,hg,hb,hbu,hsz⟩
 ·obtain rfl : ({ dst:=some 24,op:=Go.Op.convert 3 152 (Go.Operand.tmp 23),type:=152,pos := "command.go:145",after:=#[{ on:=13,ground:=Go.Ground.data }],guard:=none } : Oper)=o:=Option.some.inj ho
  obtain rfl:=h13 (dep_ haft 0 rfl)
  have hvs : IntKind.u64.wrap (v.size : Int)=v.size:=wrap_u v.size hv
  refine value_ (v:=.int .u64 v.size) (w1:=W) (by rfl) rfl ?_ ?_
  ·go_simp;try rfl
  exact ⟨x10,x11,x12,x13,x14,x15,x16,x17,x18,x19,x20,x21,x22,.int .i64 v.size,.int .u64 v.size,x25,x26,x27,x28,x29,x30,rfl,h0,h1,h2,h3,h4,h5,h6,h7,h8,h9,h10,h11,h12,fun _=>rfl,fun _=>rfl,h15,h16,h17,h18,h19,h20,hg,hb,hbu,hsz⟩
 ·obtain rfl : ({ dst:=some 25,op:=Go.Op.call { callee:=Go.Callee.value (Go.Operand.func 137),args:=#[Go.Operand.tmp 24,Go.Operand.const (Go.Value.int Go.IntKind.i64 2)],argTypes:=#[152,3] },type:=9,pos := "command.go:145",after:=#[{ on:=14,ground:=Go.Ground.data },{ on:=9,ground:=Go.Ground.chain }],guard:=none } : Oper)=o:=Option.some.inj ho
  obtain rfl:=h14 (dep_ haft 0 rfl)
  refine goes_ Tryz.func137 (by kernel_rfl) rfl #[.int .u64 v.size,.int .i64 2] (by rfl) rfl rfl q27_ ?_
  refine Calls.mono (octet_PutBig.calls v.size 2 _ W rfl) ?_
  rintro e W1 ⟨rfl,hb1⟩
  refine ⟨_,rfl,?_⟩
  exact ⟨x10,x11,x12,x13,x14,x15,x16,x17,x18,x19,x20,x21,x22,x23,.int .u64 v.size,.string (big2 v.size),x26,x27,x28,x29,x30,rfl,h0,h1,h2,fun hL h4=>blk3_ (h3 hL h4) hb1,h4,h5,h6,h7,h8,h9,h10,h11,h12,h13,fun _=>rfl,fun _=>rfl,h16,h17,h18,h19,fun hL=>bat_below (h20 hL) hb1,blk_below hg hb1,below_step hb hb1,fun hL=>blk_below (hbu hL) hb1,Nat.lt_of_lt_of_le hsz (Below.size hb1)⟩
 ·obtain rfl : ({ dst:=some 26,op:=Go.Op.binOp Go.BinOp.add 9 (Go.Operand.tmp 20) (Go.Operand.tmp 25) 9,type:=9,pos := "command.go:145",after:=#[{ on:=10,ground:=Go.Ground.data },{ on:=15,ground:=Go.Ground.data }],guard:=none } : Oper)=o:=Option.some.inj ho
  obtain rfl:=h10 (dep_ haft 0 rfl)
  obtain rfl:=h15 (dep_ haft 1 rfl)
  have hz1 : (oneB (e % 256) ++ pairB a0 b0).size=17:=by rw [ByteArray.size_append,oneB_size,pairB_size]
  have hz2 : (big2 v.size).size=2:=big2_size _
  refine value_ (v:=.string ((oneB (e % 256) ++ pairB a0 b0) ++ big2 v.size)) (w1:=W) (by rfl) rfl ?_ ?_
  ·go_simp;try rfl
  exact ⟨x10,x11,x12,x13,x14,x15,x16,x17,x18,x19,.string (oneB (e % 256) ++ pairB a0 b0),x21,x22,x23,x24,.string (big2 v.size),.string ((oneB (e % 256) ++ pairB a0 b0) ++ big2 v.size),x27,x28,x29,x30,rfl,h0,h1,h2,h3,h4,h5,h6,h7,h8,h9,fun _=>rfl,h11,h12,h13,h14,fun _=>rfl,fun _=>rfl,h17,h18,h19,h20,hg,hb,hbu,hsz⟩
 ·obtain rfl : ({ dst:=some 27,op:=Go.Op.fieldAddr 38 (Go.Operand.tmp 1) 1,type:=0,pos := "command.go:145",after:=#[],guard:=none } : Oper)=o:=Option.some.inj ho
  refine value_ (v:=.pointer (some ⟨g,1,none⟩)) (w1:=W) (by rfl) rfl ?_ ?_
  ·go_simp;try rfl
  exact ⟨x10,x11,x12,x13,x14,x15,x16,x17,x18,x19,x20,x21,x22,x23,x24,x25,x26,.pointer (some ⟨g,1,none⟩),x28,x29,x30,rfl,h0,h1,h2,h3,h4,h5,h6,h7,h8,h9,h10,h11,h12,h13,h14,h15,h16,fun _=>rfl,h18,h19,h20,hg,hb,hbu,hsz⟩
 ·obtain rfl : ({ dst:=some 28,op:=Go.Op.load 9 (Go.Operand.tmp 27),type:=9,pos := "command.go:145",after:=#[{ on:=17,ground:=Go.Ground.data }],guard:=none } : Oper)=o:=Option.some.inj ho
  obtain rfl:=h17 (dep_ haft 0 rfl)
  have hc : W.cell? ⟨g,1,none⟩=some (.string v):=(blk_cell hg 1).trans rfl
  refine value_ (v:=.string v) (w1:=W) (by rfl) rfl ?_ ?_
  ·go_simp;try rfl
  exact ⟨x10,x11,x12,x13,x14,x15,x16,x17,x18,x19,x20,x21,x22,x23,x24,x25,x26,.pointer (some ⟨g,1,none⟩),.string v,x29,x30,rfl,h0,h1,h2,h3,h4,h5,h6,h7,h8,h9,h10,h11,h12,h13,h14,h15,h16,fun _=>rfl,fun _=>rfl,h19,h20,hg,hb,hbu,hsz⟩
 ·obtain rfl : ({ dst:=some 29,op:=Go.Op.binOp Go.BinOp.add 9 (Go.Operand.tmp 26) (Go.Operand.tmp 28) 9,type:=9,pos := "command.go:145",after:=#[{ on:=16,ground:=Go.Ground.data },{ on:=18,ground:=Go.Ground.data }],guard:=none } : Oper)=o:=Option.some.inj ho
  obtain rfl:=h16 (dep_ haft 0 rfl)
  obtain rfl:=h18 (dep_ haft 1 rfl)
  have hz1 : ((oneB (e % 256) ++ pairB a0 b0) ++ big2 v.size).size=19:=by rw [ByteArray.size_append,ByteArray.size_append,oneB_size,pairB_size,big2_size]
  have hz3 : (9223372036854775807 < 19 + v.size)=False:=eq_false (by omega)
  refine value_ (v:=.string (headB e v a0 b0)) (w1:=W) (by rfl) rfl ?_ ?_
  ·go_simp;try rfl
  exact ⟨x10,x11,x12,x13,x14,x15,x16,x17,x18,x19,x20,x21,x22,x23,x24,x25,.string ((oneB (e % 256) ++ pairB a0 b0) ++ big2 v.size),x27,.string v,.string (headB e v a0 b0),x30,rfl,h0,h1,h2,h3,h4,h5,h6,h7,h8,h9,h10,h11,h12,h13,h14,h15,fun _=>rfl,h17,fun _=>rfl,fun _=>rfl,h20,hg,hb,hbu,hsz⟩
 ·obtain rfl : ({ dst:=some 30,op:=Go.Op.call { callee:=Go.Callee.value (Go.Operand.func 156),args:=#[Go.Operand.tmp 4,Go.Operand.tmp 29],argTypes:=#[241,9] },type:=244,pos := "command.go:145",after:=#[{ on:=19,ground:=Go.Ground.data },{ on:=15,ground:=Go.Ground.chain }],guard:=none } : Oper)=o:=Option.some.inj ho
  obtain rfl:=h19 (dep_ haft 0 rfl)
  have d4 : L 4=true:=dep_ (hcl 10 _ rfl (dep_ (hcl 16 _ rfl (dep_ (hcl 19 _ rfl (dep_ haft 0 rfl)) 0 rfl)) 0 rfl)) 0 rfl
  have hfr:=isb_fresh (hbu hLi)
  have hz1:=headB_size e v a0 b0
  refine goes_ Tryz.func156 (by kernel_rfl) rfl #[.pointer (some ⟨b,0,none⟩),.string (headB e v a0 b0)] (by rfl) rfl rfl q27_ ?_
  refine Calls.mono (ws_any b b [] (headB e v a0 b0) W hfr (by rw [hz1];simp;omega) (Nat.le_of_lt hsz)) ?_
  rintro e W1 ⟨rfl,hbat,hb1⟩
  refine ⟨_,rfl,?_⟩
  exact ⟨x10,x11,x12,x13,x14,x15,x16,x17,x18,x19,x20,x21,x22,x23,x24,x25,x26,x27,x28,.string (headB e v a0 b0),_,rfl,h0,h1,h2,fun hL h4=>Bool.noConfusion (d4.symm.trans h4),h4,h5,h6,h7,h8,h9,h10,h11,h12,h13,h14,h15,h16,h17,h18,fun _=>rfl,fun _=>hbat,(hb1.block g hgb).trans hg,hb.trans (hb1.mono (by omega)),fun hL=>Bool.noConfusion hL,Nat.lt_of_lt_of_le hsz (Below.size hb1)⟩
 ·cases ho
end Go.Proofs.YtkekohmkaefdnaaGreatDoor.Rq
