import Derived.Test.YtkekohmkaefdnaaGreatDoorHp
set_option linter.unusedSimpArgs false
set_option linter.unusedVariables false
namespace Go.Proofs.YtkekohmkaefdnaaGreatDoor
open Go.RowKit Go.Maps Go.Shelf Go.Proofs.YtkekohmkaefdnaaGreatDoorW.PrintWords Go.Proofs.YtkekohmkaefdnaaGreatDoorW.PrintLast
attribute [local go_sem ↓] Go.wp_at_zero Go.wp_at_succ
def setF (bud : Int) (s : CS) (c : Cm) (now : Int) : RpC × CS:=
 if c.n < 0 then ({ e:=1 },s)
 else if c.op=3∧(findK s.L c.k).isSome=true then ({ e:=10 },s)
 else if (c.op=4 ∨ c.op=6)∧(findK s.L c.k).isSome=false then ({ e:=9 },s)
 else if c.op=6∧c.ver ≠ ((findK s.L c.k).getD it0).ver then ({ e:=11 },s)
 else writeF bud s ⟨c.k,c.v,0,untilF c.n now⟩
set_option maxHeartbeats 4000000 in
set_option maxRecDepth 100000 in
theorem set_gen (cb : Nat) (bud : Int) (s : CS) (O : Nat→Prop) (c : Cm) (now : Int) (w : World) (hC : CaI w cb bud s.L s.ver s.gone O) (hs : Short s.L) (hl : s.L.length < 90000) (hop : c.op=2 ∨ c.op=3 ∨ c.op=4 ∨ c.op=6) (hk1 : c.k.size ≤ 10000) (hk2 : c.v.size ≤ 10000) (hb0 : 0 ≤ bud) (hv0 : 0 ≤ s.ver) (hv1 : s.ver ≤ 1000000000) (hg0 : 0 ≤ s.gone) (hg1 : s.gone ≤ 1000000000) (hn0 : 0 ≤ now) (hn1 : now ≤ 1000000000000) (hn2 : c.n ≤ 1000000000000) :
  Calls Tryz.prog 115 #[.pointer (some ⟨cb,0,none⟩),c.val,.int .i64 now] w fun e w'=>e=.returned (repA (setF bud s c now).1.e ⟨#[]⟩ 0 (setF bud s c now).1.ver (.slice none 0 0))∧CaI w' cb bud (setF bud s c now).2.L (setF bud s c now).2.ver (setF bud s c now).2.gone (Own O w w')∧Tch O w w':=by
 have hLT:=hC.lt
 have hcl:=hLT _ hC.own
 obtain ⟨W0,hW0,ta,ca,cr,hsz⟩:=two_blocks w #[.int .i64 c.op,.string c.k,.string c.v,.int .i64 c.n,.int .i64 c.ver] TCmd #[.int .i64 0,.string ⟨#[]⟩,.int .i64 0,.int .i64 0,.slice none 0 0] TReply
 have hC0:=hC.tch ta (fun _ _ h=>h)
 obtain ⟨tb,vo,bo,ss,Ot,hR⟩:=hC0
 have hget:=fun W (t : Tch (fun _=>False) W0 W)=>(hR.tch t (fun _ _ h=>h)).get hs c.k (by omega) W (Tch.refl _ W)
 rw [gotV_eq] at hget
 generalize hwas : (findK s.L c.k).getD it0=was at hget
 generalize his : (findK s.L c.k).isSome=is at hget
 have HWAS:=Lib.hid hwas
 have HIS:=Lib.hid his
 have CA:=Lib.hid ca
 have CR:=Lib.hid cr
 have TA:=Lib.hid ta
 have HR:=Lib.hid hR
 have HSZ:=Lib.hid hsz
 have hgl:=cr.lt
 have hOtb:=hR.sub _ hR.tab.ownT
 have htl : tb < W0.heap.size:=hR.lt _ hOtb
 have htw : tb < w.heap.size:=hLT _ hOtb
 have hct : cb ≠ tb:=fun e=>hR.nc (e ▸ hR.tab.ownT)
 clear hC ta ca cr hR hwas his hsz
 go_enter Tryz.func115,Tryz.ntmps115
 go_wp2
 try rw [hW0]
 generalize hga : w.heap.size=ga at *
 have mk : ∀ W' : World,Tch (fun k=>k=tb ∨ W0.heap.size ≤ k) W0 W'→(W'.cell? ⟨cb,1,none⟩=some (.pointer (some ⟨tb,0,none⟩))∧W'.cell? ⟨ga,1,none⟩=some (.string c.k)):=fun W' t=>⟨(HR.out.cells.tch t (fun h=>h.elim hct (fun h=>by have:=HR.out.cells.lt;omega))).cell 1 rfl,(CA.out.tch t (fun h=>h.elim (fun h=>by omega) (fun h=>by have:=CA.out.lt;omega))).cell 1 rfl⟩
 clear hW0
 have HGA:=Lib.hid hga
 clear hga
 go_region_held3 (fun W'=>W'.cell? ⟨cb,1,none⟩=some (.pointer (some ⟨tb,0,none⟩))∧W'.cell? ⟨ga,1,none⟩=some (.string c.k))
   ((refine mk _ ?h1;(case h1=>first | exact (Tch.refl _ W0).tdrew | exact (Tch.refl _ W0).talloc.tdrew | exact (((Tch.refl _ W0).tdrew).ttch tt3 (fun _ _ h=>.inl h)) | exact (((Tch.refl _ W0).tdrew).ttch tt3 (fun _ _ h=>.inl h)).talloc | exact (((Tch.refl _ W0).talloc.tdrew).ttch tt3 (fun _ _ h=>.inl h)) | exact (((Tch.refl _ W0).talloc.tdrew).ttch tt3 (fun _ _ h=>.inl h)).ttch (tch_set4 w3 W0.heap.size _ _ _ _) (fun k hk h=>by omega))))
   ((go_at_call 87;refine (hget _ ?_).mono ?_;(first | exact (Tch.refl _ W0).tdrew | exact (Tch.refl _ W0).talloc.tdrew);rintro e w3 ⟨rfl,hM3,tt3⟩;try (have za:=(at_new' W0 #[.string ⟨#[]⟩,.string ⟨#[]⟩,.int .i64 0,.int .i64 0] TItem W0.heap.size rfl).drew.tch tt3 (show ¬ W0.heap.size=tb by omega);have z0:=za.facts4)))
 ·have M:=mid_late (was:=was) HGA.out TA.out CA.out CR.out HSZ.out hLT hOtb hM3 tt3
  obtain ⟨w5,hw5⟩ : ∃ w5,w3.alloc (.cells #[.string was.k,.string was.v,.int .i64 was.ver,.int .i64 was.unt] TItem)=w5:=⟨_,rfl⟩
  rw [hw5] at M ⊢
  generalize w3.heap.size=ta at M ⊢
  clear hw5 hM3 tt3 mk hget
  have hga:=HGA.out
  have hgl5:=M.lt
  have uA:=M.cmd.facts5
  have uR:=M.rep.facts5
  have uI:=M.it.facts4
  have HM:=Lib.hid M
  clear M hga
  by_cases hn : c.n < 0
  ·have hF : setF bud s c now=({ e:=1 },s):=by unfold setF;rw [if_pos hn]
   have HF:=Lib.hid hF
   clear hF
   obtain ⟨W9,hW9,a9,c9,t9⟩:=done5 HM.out.ca HM.out.t HM.out.rep (.inr (.inl rfl)) q19_ q23_ (.int .i64 1) (.string ⟨#[]⟩) (.int .i64 0) (.int .i64 0) (.slice none 0 0)
   go_wp2
   have u9:=a9.facts5
   refine bodyPost_ret (v:=repA 1 ⟨#[]⟩ 0 0 (.slice none 0 0)) q25_ rfl ?_
   rw [HF.out]
   exact ⟨rfl,c9,t9⟩
  ·rcases hop with hop | hop | hop | hop
   ·have hF : setF bud s c now=writeF bud s ⟨c.k,c.v,0,untilF c.n now⟩:=by
     unfold setF
     rw [if_neg hn,if_neg (by omega),if_neg (by omega),if_neg (by omega)]
    have HF:=Lib.hid hF
    rw [hop] at uA
    clear hF
    go_wp2
    obtain ⟨O5,h5,hO5,nO5⟩:=HM.out.ca
    have hun:=fun W=>Pb.cache_until.calls c.n now (untilF c.n now) W (until_some (by omega) hn2 hn0 hn1)
    have hwr:=fun W (t : Tch (fun _=>False) w5 W)=>write_all cb bud s O5 ⟨c.k,c.v,0,untilF c.n now⟩ W (h5.tch t (fun _ _ h=>h)) hs hl ⟨hk1,hk2⟩ hb0 hv0 hv1 hg0 hg1
    have mk : ∀ W' : World,Tch O5 w5 W'→(W'.cell? ⟨ga,1,none⟩=some (.string c.k)∧W'.cell? ⟨ga,2,none⟩=some (.string c.v)∧W'.cell? ⟨ga,3,none⟩=some (.int .i64 c.n)):=fun W' t=>⟨(HM.out.cmd.tch t (nO5 _ (.inl rfl))).cell 1 rfl,(HM.out.cmd.tch t (nO5 _ (.inl rfl))).cell 2 rfl,(HM.out.cmd.tch t (nO5 _ (.inl rfl))).cell 3 rfl⟩
    have hN5 : ∀ k,(k=ga ∨ k=ga + 1 ∨ k=ta)→k < w5.heap.size:=by
     have q:=HM.out.it.lt
     intro k hk
     omega
    have HO5:=Lib.hid hO5
    have HNO:=Lib.hid nO5
    clear uA uR uI h5 hO5 nO5
    refine start_ (n:=12) (S:=fun W'=>W'.cell? ⟨ga,1,none⟩=some (.string c.k)∧W'.cell? ⟨ga,2,none⟩=some (.string c.v)∧W'.cell? ⟨ga,3,none⟩=some (.int .i64 c.n)) (ds:=[11]) _ (by kernel_rfl) rfl rfl (mk _ (Tch.drew _ _)) (fun hHeld=>?_)
    refine pu_ 0 (some 58) ?_
    refine pu_ 1 (some 59) ?_
    refine pu_ 3 (some 61) ?_
    refine pu_ 5 (some 63) ?_
    refine pu_ 7 (some 65) ?_
    refine ta_ 2 (some 60) hHeld ?_
    refine ta_ 4 (some 62) hHeld ?_
    refine ta_ 6 (some 64) hHeld ?_
    refine on_ 8 (some 66) fun K hK=>?_
    go_simp;go_at_call 150;refine (hun _).mono ?_;rintro e w6 ⟨rfl,n6,rfl⟩;have t6:=Tch.drewN (fun _=>False) w5 (1 + n6);go_simp
    refine hK.out _ _ (mk _ (t6.mono (fun _ _ h=>h.elim))) (fun hHeld2_=>?_)
    clear hK K hHeld;have hHeld:=hHeld2_;clear hHeld2_
    refine nm_ (some 66) ?_
    refine pu_ 9 (some 67) ?_
    refine on_ 10 (some 68) fun K hK=>?_
    go_simp;go_at_call 149;refine (hwr _ t6).mono ?_;rintro e w7 ⟨rfl,hC7,t7⟩;have t67:=(t6.mono (S':=O5) (fun _ _ h=>h.elim)).trans t7 (fun _ _ h=>h);obtain ⟨c7,t07⟩:=CaX.step HO5.out HNO.out hN5 HM.out.t t6 t7 hC7;have r7:=HM.out.rep.tch t67 (HNO.out _ (.inr (.inl rfl)));have u7:=r7.facts5;go_simp
    refine hK.out _ _ (mk _ t67) (fun hHeld2_=>?_)
    clear hK K hHeld;have hHeld:=hHeld2_;clear hHeld2_
    refine nm_ (some 68) ?_
    refine la_ 11 none fun K hK=>?_
    refine skip_ (w1:=?_) (by rfl) rfl ?_ ?_;rotate_left;· (go_simp;rfl)
    refine hK.out _ _ ?_
    clear hK K
    refine nm_ none ?_
    refine done_ (by kernel_rfl) ?_;clear hHeld
    obtain ⟨W9,hW9,a9,c9,t9⟩:=done5 c7 t07 r7 (.inr (.inl rfl)) q19_ q23_ (.int .i64 (writeF bud s ⟨c.k,c.v,0,untilF c.n now⟩).1.e) (.string ⟨#[]⟩) (.int .i64 0) (.int .i64 (writeF bud s ⟨c.k,c.v,0,untilF c.n now⟩).1.ver) (.slice none 0 0)
    try rw [hW9]
    have C9:=Lib.hid c9
    have T9:=Lib.hid t9
    have u9:=a9.facts5
    clear c7 t07 r7 u7 t7 hC7 t67 t6 mk hwr hun c9 t9 hW9
    go_wp2
    refine bodyPost_ret (v:=repA (writeF bud s ⟨c.k,c.v,0,untilF c.n now⟩).1.e ⟨#[]⟩ 0 (writeF bud s ⟨c.k,c.v,0,untilF c.n now⟩).1.ver (.slice none 0 0)) q25_ rfl ?_
    rw [HF.out]
    exact ⟨rfl,C9.out,T9.out⟩
   ·cases is with
    | true=>
     have hF : setF bud s c now=({ e:=10 },s):=by
      unfold setF
      rw [if_neg hn,if_pos ⟨hop,HIS.out⟩]
     rw [hop] at uA
     have HF:=Lib.hid hF
     clear hF
     obtain ⟨W9,hW9,a9,c9,t9⟩:=done5 HM.out.ca HM.out.t HM.out.rep (.inr (.inl rfl)) q19_ q23_ (.int .i64 10) (.string ⟨#[]⟩) (.int .i64 0) (.int .i64 0) (.slice none 0 0)
     go_wp2
     have u9:=a9.facts5
     refine bodyPost_ret (v:=repA 10 ⟨#[]⟩ 0 0 (.slice none 0 0)) q25_ rfl ?_
     rw [HF.out]
     exact ⟨rfl,c9,t9⟩
    | false=>
     have hF : setF bud s c now=writeF bud s ⟨c.k,c.v,0,untilF c.n now⟩:=by
      unfold setF
      rw [if_neg hn,if_neg (by rw [HIS.out];simp),if_neg (by omega),if_neg (by omega)]
     have HF:=Lib.hid hF
     rw [hop] at uA
     clear hF
     go_wp2
     obtain ⟨O5,h5,hO5,nO5⟩:=HM.out.ca
     have hun:=fun W=>Pb.cache_until.calls c.n now (untilF c.n now) W (until_some (by omega) hn2 hn0 hn1)
     have hwr:=fun W (t : Tch (fun _=>False) w5 W)=>write_all cb bud s O5 ⟨c.k,c.v,0,untilF c.n now⟩ W (h5.tch t (fun _ _ h=>h)) hs hl ⟨hk1,hk2⟩ hb0 hv0 hv1 hg0 hg1
     have mk : ∀ W' : World,Tch O5 w5 W'→(W'.cell? ⟨ga,1,none⟩=some (.string c.k)∧W'.cell? ⟨ga,2,none⟩=some (.string c.v)∧W'.cell? ⟨ga,3,none⟩=some (.int .i64 c.n)):=fun W' t=>⟨(HM.out.cmd.tch t (nO5 _ (.inl rfl))).cell 1 rfl,(HM.out.cmd.tch t (nO5 _ (.inl rfl))).cell 2 rfl,(HM.out.cmd.tch t (nO5 _ (.inl rfl))).cell 3 rfl⟩
     have hN5 : ∀ k,(k=ga ∨ k=ga + 1 ∨ k=ta)→k < w5.heap.size:=by
      have q:=HM.out.it.lt
      intro k hk
      omega
     have HO5:=Lib.hid hO5
     have HNO:=Lib.hid nO5
     clear uA uR uI h5 hO5 nO5
     refine start_ (n:=12) (S:=fun W'=>W'.cell? ⟨ga,1,none⟩=some (.string c.k)∧W'.cell? ⟨ga,2,none⟩=some (.string c.v)∧W'.cell? ⟨ga,3,none⟩=some (.int .i64 c.n)) (ds:=[11]) _ (by kernel_rfl) rfl rfl (mk _ (Tch.drew _ _)) (fun hHeld=>?_)
     refine pu_ 0 (some 58) ?_
     refine pu_ 1 (some 59) ?_
     refine pu_ 3 (some 61) ?_
     refine pu_ 5 (some 63) ?_
     refine pu_ 7 (some 65) ?_
     refine ta_ 2 (some 60) hHeld ?_
     refine ta_ 4 (some 62) hHeld ?_
     refine ta_ 6 (some 64) hHeld ?_
     refine on_ 8 (some 66) fun K hK=>?_
     go_simp;go_at_call 150;refine (hun _).mono ?_;rintro e w6 ⟨rfl,n6,rfl⟩;have t6:=Tch.drewN (fun _=>False) w5 (1 + n6);go_simp
     refine hK.out _ _ (mk _ (t6.mono (fun _ _ h=>h.elim))) (fun hHeld2_=>?_)
     clear hK K hHeld;have hHeld:=hHeld2_;clear hHeld2_
     refine nm_ (some 66) ?_
     refine pu_ 9 (some 67) ?_
     refine on_ 10 (some 68) fun K hK=>?_
     go_simp;go_at_call 149;refine (hwr _ t6).mono ?_;rintro e w7 ⟨rfl,hC7,t7⟩;have t67:=(t6.mono (S':=O5) (fun _ _ h=>h.elim)).trans t7 (fun _ _ h=>h);obtain ⟨c7,t07⟩:=CaX.step HO5.out HNO.out hN5 HM.out.t t6 t7 hC7;have r7:=HM.out.rep.tch t67 (HNO.out _ (.inr (.inl rfl)));have u7:=r7.facts5;go_simp
     refine hK.out _ _ (mk _ t67) (fun hHeld2_=>?_)
     clear hK K hHeld;have hHeld:=hHeld2_;clear hHeld2_
     refine nm_ (some 68) ?_
     refine la_ 11 none fun K hK=>?_
     refine skip_ (w1:=?_) (by rfl) rfl ?_ ?_;rotate_left;· (go_simp;rfl)
     refine hK.out _ _ ?_
     clear hK K
     refine nm_ none ?_
     refine done_ (by kernel_rfl) ?_;clear hHeld
     obtain ⟨W9,hW9,a9,c9,t9⟩:=done5 c7 t07 r7 (.inr (.inl rfl)) q19_ q23_ (.int .i64 (writeF bud s ⟨c.k,c.v,0,untilF c.n now⟩).1.e) (.string ⟨#[]⟩) (.int .i64 0) (.int .i64 (writeF bud s ⟨c.k,c.v,0,untilF c.n now⟩).1.ver) (.slice none 0 0)
     try rw [hW9]
     have C9:=Lib.hid c9
     have T9:=Lib.hid t9
     have u9:=a9.facts5
     clear c7 t07 r7 u7 t7 hC7 t67 t6 mk hwr hun c9 t9 hW9
     go_wp2
     refine bodyPost_ret (v:=repA (writeF bud s ⟨c.k,c.v,0,untilF c.n now⟩).1.e ⟨#[]⟩ 0 (writeF bud s ⟨c.k,c.v,0,untilF c.n now⟩).1.ver (.slice none 0 0)) q25_ rfl ?_
     rw [HF.out]
     exact ⟨rfl,C9.out,T9.out⟩
   ·cases is with
    | true=>
     have hF : setF bud s c now=writeF bud s ⟨c.k,c.v,0,untilF c.n now⟩:=by
      unfold setF
      rw [if_neg hn,if_neg (by omega),if_neg (by rw [HIS.out];simp),if_neg (by omega)]
     have HF:=Lib.hid hF
     rw [hop] at uA
     clear hF
     go_wp2
     obtain ⟨O5,h5,hO5,nO5⟩:=HM.out.ca
     have hun:=fun W=>Pb.cache_until.calls c.n now (untilF c.n now) W (until_some (by omega) hn2 hn0 hn1)
     have hwr:=fun W (t : Tch (fun _=>False) w5 W)=>write_all cb bud s O5 ⟨c.k,c.v,0,untilF c.n now⟩ W (h5.tch t (fun _ _ h=>h)) hs hl ⟨hk1,hk2⟩ hb0 hv0 hv1 hg0 hg1
     have mk : ∀ W' : World,Tch O5 w5 W'→(W'.cell? ⟨ga,1,none⟩=some (.string c.k)∧W'.cell? ⟨ga,2,none⟩=some (.string c.v)∧W'.cell? ⟨ga,3,none⟩=some (.int .i64 c.n)):=fun W' t=>⟨(HM.out.cmd.tch t (nO5 _ (.inl rfl))).cell 1 rfl,(HM.out.cmd.tch t (nO5 _ (.inl rfl))).cell 2 rfl,(HM.out.cmd.tch t (nO5 _ (.inl rfl))).cell 3 rfl⟩
     have hN5 : ∀ k,(k=ga ∨ k=ga + 1 ∨ k=ta)→k < w5.heap.size:=by
      have q:=HM.out.it.lt
      intro k hk
      omega
     have HO5:=Lib.hid hO5
     have HNO:=Lib.hid nO5
     clear uA uR uI h5 hO5 nO5
     refine start_ (n:=12) (S:=fun W'=>W'.cell? ⟨ga,1,none⟩=some (.string c.k)∧W'.cell? ⟨ga,2,none⟩=some (.string c.v)∧W'.cell? ⟨ga,3,none⟩=some (.int .i64 c.n)) (ds:=[11]) _ (by kernel_rfl) rfl rfl (mk _ (Tch.drew _ _)) (fun hHeld=>?_)
     refine pu_ 0 (some 58) ?_
     refine pu_ 1 (some 59) ?_
     refine pu_ 3 (some 61) ?_
     refine pu_ 5 (some 63) ?_
     refine pu_ 7 (some 65) ?_
     refine ta_ 2 (some 60) hHeld ?_
     refine ta_ 4 (some 62) hHeld ?_
     refine ta_ 6 (some 64) hHeld ?_
     refine on_ 8 (some 66) fun K hK=>?_
     go_simp;go_at_call 150;refine (hun _).mono ?_;rintro e w6 ⟨rfl,n6,rfl⟩;have t6:=Tch.drewN (fun _=>False) w5 (1 + n6);go_simp
     refine hK.out _ _ (mk _ (t6.mono (fun _ _ h=>h.elim))) (fun hHeld2_=>?_)
     clear hK K hHeld;have hHeld:=hHeld2_;clear hHeld2_
     refine nm_ (some 66) ?_
     refine pu_ 9 (some 67) ?_
     refine on_ 10 (some 68) fun K hK=>?_
     go_simp;go_at_call 149;refine (hwr _ t6).mono ?_;rintro e w7 ⟨rfl,hC7,t7⟩;have t67:=(t6.mono (S':=O5) (fun _ _ h=>h.elim)).trans t7 (fun _ _ h=>h);obtain ⟨c7,t07⟩:=CaX.step HO5.out HNO.out hN5 HM.out.t t6 t7 hC7;have r7:=HM.out.rep.tch t67 (HNO.out _ (.inr (.inl rfl)));have u7:=r7.facts5;go_simp
     refine hK.out _ _ (mk _ t67) (fun hHeld2_=>?_)
     clear hK K hHeld;have hHeld:=hHeld2_;clear hHeld2_
     refine nm_ (some 68) ?_
     refine la_ 11 none fun K hK=>?_
     refine skip_ (w1:=?_) (by rfl) rfl ?_ ?_;rotate_left;· (go_simp;rfl)
     refine hK.out _ _ ?_
     clear hK K
     refine nm_ none ?_
     refine done_ (by kernel_rfl) ?_;clear hHeld
     obtain ⟨W9,hW9,a9,c9,t9⟩:=done5 c7 t07 r7 (.inr (.inl rfl)) q19_ q23_ (.int .i64 (writeF bud s ⟨c.k,c.v,0,untilF c.n now⟩).1.e) (.string ⟨#[]⟩) (.int .i64 0) (.int .i64 (writeF bud s ⟨c.k,c.v,0,untilF c.n now⟩).1.ver) (.slice none 0 0)
     try rw [hW9]
     have C9:=Lib.hid c9
     have T9:=Lib.hid t9
     have u9:=a9.facts5
     clear c7 t07 r7 u7 t7 hC7 t67 t6 mk hwr hun c9 t9 hW9
     go_wp2
     refine bodyPost_ret (v:=repA (writeF bud s ⟨c.k,c.v,0,untilF c.n now⟩).1.e ⟨#[]⟩ 0 (writeF bud s ⟨c.k,c.v,0,untilF c.n now⟩).1.ver (.slice none 0 0)) q25_ rfl ?_
     rw [HF.out]
     exact ⟨rfl,C9.out,T9.out⟩
    | false=>
     have hF : setF bud s c now=({ e:=9 },s):=by
      unfold setF
      rw [if_neg hn,if_neg (by omega),if_pos ⟨.inl hop,HIS.out⟩]
     rw [hop] at uA
     have HF:=Lib.hid hF
     clear hF
     obtain ⟨W9,hW9,a9,c9,t9⟩:=done5 HM.out.ca HM.out.t HM.out.rep (.inr (.inl rfl)) q19_ q23_ (.int .i64 9) (.string ⟨#[]⟩) (.int .i64 0) (.int .i64 0) (.slice none 0 0)
     go_wp2
     have u9:=a9.facts5
     refine bodyPost_ret (v:=repA 9 ⟨#[]⟩ 0 0 (.slice none 0 0)) q25_ rfl ?_
     rw [HF.out]
     exact ⟨rfl,c9,t9⟩
   ·cases is with
    | true=>
     by_cases hv : c.ver=was.ver
     ·have hF : setF bud s c now=writeF bud s ⟨c.k,c.v,0,untilF c.n now⟩:=by
       unfold setF
       rw [if_neg hn,if_neg (by omega),if_neg (by rw [HIS.out];simp),if_neg (by rw [HWAS.out];intro h;exact h.2 hv)]
      have HF:=Lib.hid hF
      rw [hop] at uA
      clear hF
      go_wp2
      obtain ⟨O5,h5,hO5,nO5⟩:=HM.out.ca
      have hun:=fun W=>Pb.cache_until.calls c.n now (untilF c.n now) W (until_some (by omega) hn2 hn0 hn1)
      have hwr:=fun W (t : Tch (fun _=>False) w5 W)=>write_all cb bud s O5 ⟨c.k,c.v,0,untilF c.n now⟩ W (h5.tch t (fun _ _ h=>h)) hs hl ⟨hk1,hk2⟩ hb0 hv0 hv1 hg0 hg1
      have mk : ∀ W' : World,Tch O5 w5 W'→(W'.cell? ⟨ga,1,none⟩=some (.string c.k)∧W'.cell? ⟨ga,2,none⟩=some (.string c.v)∧W'.cell? ⟨ga,3,none⟩=some (.int .i64 c.n)):=fun W' t=>⟨(HM.out.cmd.tch t (nO5 _ (.inl rfl))).cell 1 rfl,(HM.out.cmd.tch t (nO5 _ (.inl rfl))).cell 2 rfl,(HM.out.cmd.tch t (nO5 _ (.inl rfl))).cell 3 rfl⟩
      have hN5 : ∀ k,(k=ga ∨ k=ga + 1 ∨ k=ta)→k < w5.heap.size:=by
       have q:=HM.out.it.lt
       intro k hk
       omega
      have HO5:=Lib.hid hO5
      have HNO:=Lib.hid nO5
      clear uA uR uI h5 hO5 nO5
      refine start_ (n:=12) (S:=fun W'=>W'.cell? ⟨ga,1,none⟩=some (.string c.k)∧W'.cell? ⟨ga,2,none⟩=some (.string c.v)∧W'.cell? ⟨ga,3,none⟩=some (.int .i64 c.n)) (ds:=[11]) _ (by kernel_rfl) rfl rfl (mk _ (Tch.drew _ _)) (fun hHeld=>?_)
      refine pu_ 0 (some 58) ?_
      refine pu_ 1 (some 59) ?_
      refine pu_ 3 (some 61) ?_
      refine pu_ 5 (some 63) ?_
      refine pu_ 7 (some 65) ?_
      refine ta_ 2 (some 60) hHeld ?_
      refine ta_ 4 (some 62) hHeld ?_
      refine ta_ 6 (some 64) hHeld ?_
      refine on_ 8 (some 66) fun K hK=>?_
      go_simp;go_at_call 150;refine (hun _).mono ?_;rintro e w6 ⟨rfl,n6,rfl⟩;have t6:=Tch.drewN (fun _=>False) w5 (1 + n6);go_simp
      refine hK.out _ _ (mk _ (t6.mono (fun _ _ h=>h.elim))) (fun hHeld2_=>?_)
      clear hK K hHeld;have hHeld:=hHeld2_;clear hHeld2_
      refine nm_ (some 66) ?_
      refine pu_ 9 (some 67) ?_
      refine on_ 10 (some 68) fun K hK=>?_
      go_simp;go_at_call 149;refine (hwr _ t6).mono ?_;rintro e w7 ⟨rfl,hC7,t7⟩;have t67:=(t6.mono (S':=O5) (fun _ _ h=>h.elim)).trans t7 (fun _ _ h=>h);obtain ⟨c7,t07⟩:=CaX.step HO5.out HNO.out hN5 HM.out.t t6 t7 hC7;have r7:=HM.out.rep.tch t67 (HNO.out _ (.inr (.inl rfl)));have u7:=r7.facts5;go_simp
      refine hK.out _ _ (mk _ t67) (fun hHeld2_=>?_)
      clear hK K hHeld;have hHeld:=hHeld2_;clear hHeld2_
      refine nm_ (some 68) ?_
      refine la_ 11 none fun K hK=>?_
      refine skip_ (w1:=?_) (by rfl) rfl ?_ ?_;rotate_left;· (go_simp;rfl)
      refine hK.out _ _ ?_
      clear hK K
      refine nm_ none ?_
      refine done_ (by kernel_rfl) ?_;clear hHeld
      obtain ⟨W9,hW9,a9,c9,t9⟩:=done5 c7 t07 r7 (.inr (.inl rfl)) q19_ q23_ (.int .i64 (writeF bud s ⟨c.k,c.v,0,untilF c.n now⟩).1.e) (.string ⟨#[]⟩) (.int .i64 0) (.int .i64 (writeF bud s ⟨c.k,c.v,0,untilF c.n now⟩).1.ver) (.slice none 0 0)
      try rw [hW9]
      have C9:=Lib.hid c9
      have T9:=Lib.hid t9
      have u9:=a9.facts5
      clear c7 t07 r7 u7 t7 hC7 t67 t6 mk hwr hun c9 t9 hW9
      go_wp2
      refine bodyPost_ret (v:=repA (writeF bud s ⟨c.k,c.v,0,untilF c.n now⟩).1.e ⟨#[]⟩ 0 (writeF bud s ⟨c.k,c.v,0,untilF c.n now⟩).1.ver (.slice none 0 0)) q25_ rfl ?_
      rw [HF.out]
      exact ⟨rfl,C9.out,T9.out⟩
     ·have hF : setF bud s c now=({ e:=11 },s):=by
       unfold setF
       rw [if_neg hn,if_neg (by omega),if_neg (by rw [HIS.out];simp),if_pos ⟨hop,by rw [HWAS.out];exact hv⟩]
      rw [hop] at uA
      have HF:=Lib.hid hF
      clear hF
      obtain ⟨W9,hW9,a9,c9,t9⟩:=done5 HM.out.ca HM.out.t HM.out.rep (.inr (.inl rfl)) q19_ q23_ (.int .i64 11) (.string ⟨#[]⟩) (.int .i64 0) (.int .i64 0) (.slice none 0 0)
      go_wp2
      have u9:=a9.facts5
      refine bodyPost_ret (v:=repA 11 ⟨#[]⟩ 0 0 (.slice none 0 0)) q25_ rfl ?_
      rw [HF.out]
      exact ⟨rfl,c9,t9⟩
    | false=>
     have hF : setF bud s c now=({ e:=9 },s):=by
      unfold setF
      rw [if_neg hn,if_neg (by omega),if_pos ⟨.inr hop,HIS.out⟩]
     rw [hop] at uA
     have HF:=Lib.hid hF
     clear hF
     obtain ⟨W9,hW9,a9,c9,t9⟩:=done5 HM.out.ca HM.out.t HM.out.rep (.inr (.inl rfl)) q19_ q23_ (.int .i64 9) (.string ⟨#[]⟩) (.int .i64 0) (.int .i64 0) (.slice none 0 0)
     go_wp2
     have u9:=a9.facts5
     refine bodyPost_ret (v:=repA 9 ⟨#[]⟩ 0 0 (.slice none 0 0)) q25_ rfl ?_
     rw [HF.out]
     exact ⟨rfl,c9,t9⟩
 ·have M:=mid_early (was:=was) HGA.out TA.out CA.out CR.out HSZ.out hLT hOtb hM3 tt3
  obtain ⟨w5,hw5⟩ : ∃ w5,((((w3.setCell ⟨W0.heap.size,0,none⟩ (.string was.k)).setCell ⟨W0.heap.size,1,none⟩ (.string was.v)).setCell ⟨W0.heap.size,2,none⟩ (.int .i64 was.ver)).setCell ⟨W0.heap.size,3,none⟩ (.int .i64 was.unt))=w5:=⟨_,rfl⟩
  rw [hw5] at M ⊢
  generalize hta : W0.heap.size=ta at M ⊢
  clear hw5 hM3 tt3 mk hget hta za z0
  have hga:=HGA.out
  have hgl5:=M.lt
  have uA:=M.cmd.facts5
  have uR:=M.rep.facts5
  have uI:=M.it.facts4
  have HM:=Lib.hid M
  clear M hga
  by_cases hn : c.n < 0
  ·have hF : setF bud s c now=({ e:=1 },s):=by unfold setF;rw [if_pos hn]
   have HF:=Lib.hid hF
   clear hF
   obtain ⟨W9,hW9,a9,c9,t9⟩:=done5 HM.out.ca HM.out.t HM.out.rep (.inr (.inl rfl)) q19_ q23_ (.int .i64 1) (.string ⟨#[]⟩) (.int .i64 0) (.int .i64 0) (.slice none 0 0)
   go_wp2
   have u9:=a9.facts5
   refine bodyPost_ret (v:=repA 1 ⟨#[]⟩ 0 0 (.slice none 0 0)) q25_ rfl ?_
   rw [HF.out]
   exact ⟨rfl,c9,t9⟩
  ·rcases hop with hop | hop | hop | hop
   ·have hF : setF bud s c now=writeF bud s ⟨c.k,c.v,0,untilF c.n now⟩:=by
     unfold setF
     rw [if_neg hn,if_neg (by omega),if_neg (by omega),if_neg (by omega)]
    have HF:=Lib.hid hF
    rw [hop] at uA
    clear hF
    go_wp2
    obtain ⟨O5,h5,hO5,nO5⟩:=HM.out.ca
    have hun:=fun W=>Pb.cache_until.calls c.n now (untilF c.n now) W (until_some (by omega) hn2 hn0 hn1)
    have hwr:=fun W (t : Tch (fun _=>False) w5 W)=>write_all cb bud s O5 ⟨c.k,c.v,0,untilF c.n now⟩ W (h5.tch t (fun _ _ h=>h)) hs hl ⟨hk1,hk2⟩ hb0 hv0 hv1 hg0 hg1
    have mk : ∀ W' : World,Tch O5 w5 W'→(W'.cell? ⟨ga,1,none⟩=some (.string c.k)∧W'.cell? ⟨ga,2,none⟩=some (.string c.v)∧W'.cell? ⟨ga,3,none⟩=some (.int .i64 c.n)):=fun W' t=>⟨(HM.out.cmd.tch t (nO5 _ (.inl rfl))).cell 1 rfl,(HM.out.cmd.tch t (nO5 _ (.inl rfl))).cell 2 rfl,(HM.out.cmd.tch t (nO5 _ (.inl rfl))).cell 3 rfl⟩
    have hN5 : ∀ k,(k=ga ∨ k=ga + 1 ∨ k=ta)→k < w5.heap.size:=by
     have q:=HM.out.it.lt
     intro k hk
     omega
    have HO5:=Lib.hid hO5
    have HNO:=Lib.hid nO5
    clear uA uR uI h5 hO5 nO5
    refine start_ (n:=12) (S:=fun W'=>W'.cell? ⟨ga,1,none⟩=some (.string c.k)∧W'.cell? ⟨ga,2,none⟩=some (.string c.v)∧W'.cell? ⟨ga,3,none⟩=some (.int .i64 c.n)) (ds:=[11]) _ (by kernel_rfl) rfl rfl (mk _ (Tch.drew _ _)) (fun hHeld=>?_)
    refine pu_ 0 (some 58) ?_
    refine pu_ 1 (some 59) ?_
    refine pu_ 3 (some 61) ?_
    refine pu_ 5 (some 63) ?_
    refine pu_ 7 (some 65) ?_
    refine ta_ 2 (some 60) hHeld ?_
    refine ta_ 4 (some 62) hHeld ?_
    refine ta_ 6 (some 64) hHeld ?_
    refine on_ 8 (some 66) fun K hK=>?_
    go_simp;go_at_call 150;refine (hun _).mono ?_;rintro e w6 ⟨rfl,n6,rfl⟩;have t6:=Tch.drewN (fun _=>False) w5 (1 + n6);go_simp
    refine hK.out _ _ (mk _ (t6.mono (fun _ _ h=>h.elim))) (fun hHeld2_=>?_)
    clear hK K hHeld;have hHeld:=hHeld2_;clear hHeld2_
    refine nm_ (some 66) ?_
    refine pu_ 9 (some 67) ?_
    refine on_ 10 (some 68) fun K hK=>?_
    go_simp;go_at_call 149;refine (hwr _ t6).mono ?_;rintro e w7 ⟨rfl,hC7,t7⟩;have t67:=(t6.mono (S':=O5) (fun _ _ h=>h.elim)).trans t7 (fun _ _ h=>h);obtain ⟨c7,t07⟩:=CaX.step HO5.out HNO.out hN5 HM.out.t t6 t7 hC7;have r7:=HM.out.rep.tch t67 (HNO.out _ (.inr (.inl rfl)));have u7:=r7.facts5;go_simp
    refine hK.out _ _ (mk _ t67) (fun hHeld2_=>?_)
    clear hK K hHeld;have hHeld:=hHeld2_;clear hHeld2_
    refine nm_ (some 68) ?_
    refine la_ 11 none fun K hK=>?_
    refine skip_ (w1:=?_) (by rfl) rfl ?_ ?_;rotate_left;· (go_simp;rfl)
    refine hK.out _ _ ?_
    clear hK K
    refine nm_ none ?_
    refine done_ (by kernel_rfl) ?_;clear hHeld
    obtain ⟨W9,hW9,a9,c9,t9⟩:=done5 c7 t07 r7 (.inr (.inl rfl)) q19_ q23_ (.int .i64 (writeF bud s ⟨c.k,c.v,0,untilF c.n now⟩).1.e) (.string ⟨#[]⟩) (.int .i64 0) (.int .i64 (writeF bud s ⟨c.k,c.v,0,untilF c.n now⟩).1.ver) (.slice none 0 0)
    try rw [hW9]
    have C9:=Lib.hid c9
    have T9:=Lib.hid t9
    have u9:=a9.facts5
    clear c7 t07 r7 u7 t7 hC7 t67 t6 mk hwr hun c9 t9 hW9
    go_wp2
    refine bodyPost_ret (v:=repA (writeF bud s ⟨c.k,c.v,0,untilF c.n now⟩).1.e ⟨#[]⟩ 0 (writeF bud s ⟨c.k,c.v,0,untilF c.n now⟩).1.ver (.slice none 0 0)) q25_ rfl ?_
    rw [HF.out]
    exact ⟨rfl,C9.out,T9.out⟩
   ·cases is with
    | true=>
     have hF : setF bud s c now=({ e:=10 },s):=by
      unfold setF
      rw [if_neg hn,if_pos ⟨hop,HIS.out⟩]
     rw [hop] at uA
     have HF:=Lib.hid hF
     clear hF
     obtain ⟨W9,hW9,a9,c9,t9⟩:=done5 HM.out.ca HM.out.t HM.out.rep (.inr (.inl rfl)) q19_ q23_ (.int .i64 10) (.string ⟨#[]⟩) (.int .i64 0) (.int .i64 0) (.slice none 0 0)
     go_wp2
     have u9:=a9.facts5
     refine bodyPost_ret (v:=repA 10 ⟨#[]⟩ 0 0 (.slice none 0 0)) q25_ rfl ?_
     rw [HF.out]
     exact ⟨rfl,c9,t9⟩
    | false=>
     have hF : setF bud s c now=writeF bud s ⟨c.k,c.v,0,untilF c.n now⟩:=by
      unfold setF
      rw [if_neg hn,if_neg (by rw [HIS.out];simp),if_neg (by omega),if_neg (by omega)]
     have HF:=Lib.hid hF
     rw [hop] at uA
     clear hF
     go_wp2
     obtain ⟨O5,h5,hO5,nO5⟩:=HM.out.ca
     have hun:=fun W=>Pb.cache_until.calls c.n now (untilF c.n now) W (until_some (by omega) hn2 hn0 hn1)
     have hwr:=fun W (t : Tch (fun _=>False) w5 W)=>write_all cb bud s O5 ⟨c.k,c.v,0,untilF c.n now⟩ W (h5.tch t (fun _ _ h=>h)) hs hl ⟨hk1,hk2⟩ hb0 hv0 hv1 hg0 hg1
     have mk : ∀ W' : World,Tch O5 w5 W'→(W'.cell? ⟨ga,1,none⟩=some (.string c.k)∧W'.cell? ⟨ga,2,none⟩=some (.string c.v)∧W'.cell? ⟨ga,3,none⟩=some (.int .i64 c.n)):=fun W' t=>⟨(HM.out.cmd.tch t (nO5 _ (.inl rfl))).cell 1 rfl,(HM.out.cmd.tch t (nO5 _ (.inl rfl))).cell 2 rfl,(HM.out.cmd.tch t (nO5 _ (.inl rfl))).cell 3 rfl⟩
     have hN5 : ∀ k,(k=ga ∨ k=ga + 1 ∨ k=ta)→k < w5.heap.size:=by
      have q:=HM.out.it.lt
      intro k hk
      omega
     have HO5:=Lib.hid hO5
     have HNO:=Lib.hid nO5
     clear uA uR uI h5 hO5 nO5
     refine start_ (n:=12) (S:=fun W'=>W'.cell? ⟨ga,1,none⟩=some (.string c.k)∧W'.cell? ⟨ga,2,none⟩=some (.string c.v)∧W'.cell? ⟨ga,3,none⟩=some (.int .i64 c.n)) (ds:=[11]) _ (by kernel_rfl) rfl rfl (mk _ (Tch.drew _ _)) (fun hHeld=>?_)
     refine pu_ 0 (some 58) ?_
     refine pu_ 1 (some 59) ?_
     refine pu_ 3 (some 61) ?_
     refine pu_ 5 (some 63) ?_
     refine pu_ 7 (some 65) ?_
     refine ta_ 2 (some 60) hHeld ?_
     refine ta_ 4 (some 62) hHeld ?_
     refine ta_ 6 (some 64) hHeld ?_
     refine on_ 8 (some 66) fun K hK=>?_
     go_simp;go_at_call 150;refine (hun _).mono ?_;rintro e w6 ⟨rfl,n6,rfl⟩;have t6:=Tch.drewN (fun _=>False) w5 (1 + n6);go_simp
     refine hK.out _ _ (mk _ (t6.mono (fun _ _ h=>h.elim))) (fun hHeld2_=>?_)
     clear hK K hHeld;have hHeld:=hHeld2_;clear hHeld2_
     refine nm_ (some 66) ?_
     refine pu_ 9 (some 67) ?_
     refine on_ 10 (some 68) fun K hK=>?_
     go_simp;go_at_call 149;refine (hwr _ t6).mono ?_;rintro e w7 ⟨rfl,hC7,t7⟩;have t67:=(t6.mono (S':=O5) (fun _ _ h=>h.elim)).trans t7 (fun _ _ h=>h);obtain ⟨c7,t07⟩:=CaX.step HO5.out HNO.out hN5 HM.out.t t6 t7 hC7;have r7:=HM.out.rep.tch t67 (HNO.out _ (.inr (.inl rfl)));have u7:=r7.facts5;go_simp
     refine hK.out _ _ (mk _ t67) (fun hHeld2_=>?_)
     clear hK K hHeld;have hHeld:=hHeld2_;clear hHeld2_
     refine nm_ (some 68) ?_
     refine la_ 11 none fun K hK=>?_
     refine skip_ (w1:=?_) (by rfl) rfl ?_ ?_;rotate_left;· (go_simp;rfl)
     refine hK.out _ _ ?_
     clear hK K
     refine nm_ none ?_
     refine done_ (by kernel_rfl) ?_;clear hHeld
     obtain ⟨W9,hW9,a9,c9,t9⟩:=done5 c7 t07 r7 (.inr (.inl rfl)) q19_ q23_ (.int .i64 (writeF bud s ⟨c.k,c.v,0,untilF c.n now⟩).1.e) (.string ⟨#[]⟩) (.int .i64 0) (.int .i64 (writeF bud s ⟨c.k,c.v,0,untilF c.n now⟩).1.ver) (.slice none 0 0)
     try rw [hW9]
     have C9:=Lib.hid c9
     have T9:=Lib.hid t9
     have u9:=a9.facts5
     clear c7 t07 r7 u7 t7 hC7 t67 t6 mk hwr hun c9 t9 hW9
     go_wp2
     refine bodyPost_ret (v:=repA (writeF bud s ⟨c.k,c.v,0,untilF c.n now⟩).1.e ⟨#[]⟩ 0 (writeF bud s ⟨c.k,c.v,0,untilF c.n now⟩).1.ver (.slice none 0 0)) q25_ rfl ?_
     rw [HF.out]
     exact ⟨rfl,C9.out,T9.out⟩
   ·cases is with
    | true=>
     have hF : setF bud s c now=writeF bud s ⟨c.k,c.v,0,untilF c.n now⟩:=by
      unfold setF
      rw [if_neg hn,if_neg (by omega),if_neg (by rw [HIS.out];simp),if_neg (by omega)]
     have HF:=Lib.hid hF
     rw [hop] at uA
     clear hF
     go_wp2
     obtain ⟨O5,h5,hO5,nO5⟩:=HM.out.ca
     have hun:=fun W=>Pb.cache_until.calls c.n now (untilF c.n now) W (until_some (by omega) hn2 hn0 hn1)
     have hwr:=fun W (t : Tch (fun _=>False) w5 W)=>write_all cb bud s O5 ⟨c.k,c.v,0,untilF c.n now⟩ W (h5.tch t (fun _ _ h=>h)) hs hl ⟨hk1,hk2⟩ hb0 hv0 hv1 hg0 hg1
     have mk : ∀ W' : World,Tch O5 w5 W'→(W'.cell? ⟨ga,1,none⟩=some (.string c.k)∧W'.cell? ⟨ga,2,none⟩=some (.string c.v)∧W'.cell? ⟨ga,3,none⟩=some (.int .i64 c.n)):=fun W' t=>⟨(HM.out.cmd.tch t (nO5 _ (.inl rfl))).cell 1 rfl,(HM.out.cmd.tch t (nO5 _ (.inl rfl))).cell 2 rfl,(HM.out.cmd.tch t (nO5 _ (.inl rfl))).cell 3 rfl⟩
     have hN5 : ∀ k,(k=ga ∨ k=ga + 1 ∨ k=ta)→k < w5.heap.size:=by
      have q:=HM.out.it.lt
      intro k hk
      omega
     have HO5:=Lib.hid hO5
     have HNO:=Lib.hid nO5
     clear uA uR uI h5 hO5 nO5
     refine start_ (n:=12) (S:=fun W'=>W'.cell? ⟨ga,1,none⟩=some (.string c.k)∧W'.cell? ⟨ga,2,none⟩=some (.string c.v)∧W'.cell? ⟨ga,3,none⟩=some (.int .i64 c.n)) (ds:=[11]) _ (by kernel_rfl) rfl rfl (mk _ (Tch.drew _ _)) (fun hHeld=>?_)
     refine pu_ 0 (some 58) ?_
     refine pu_ 1 (some 59) ?_
     refine pu_ 3 (some 61) ?_
     refine pu_ 5 (some 63) ?_
     refine pu_ 7 (some 65) ?_
     refine ta_ 2 (some 60) hHeld ?_
     refine ta_ 4 (some 62) hHeld ?_
     refine ta_ 6 (some 64) hHeld ?_
     refine on_ 8 (some 66) fun K hK=>?_
     go_simp;go_at_call 150;refine (hun _).mono ?_;rintro e w6 ⟨rfl,n6,rfl⟩;have t6:=Tch.drewN (fun _=>False) w5 (1 + n6);go_simp
     refine hK.out _ _ (mk _ (t6.mono (fun _ _ h=>h.elim))) (fun hHeld2_=>?_)
     clear hK K hHeld;have hHeld:=hHeld2_;clear hHeld2_
     refine nm_ (some 66) ?_
     refine pu_ 9 (some 67) ?_
     refine on_ 10 (some 68) fun K hK=>?_
     go_simp;go_at_call 149;refine (hwr _ t6).mono ?_;rintro e w7 ⟨rfl,hC7,t7⟩;have t67:=(t6.mono (S':=O5) (fun _ _ h=>h.elim)).trans t7 (fun _ _ h=>h);obtain ⟨c7,t07⟩:=CaX.step HO5.out HNO.out hN5 HM.out.t t6 t7 hC7;have r7:=HM.out.rep.tch t67 (HNO.out _ (.inr (.inl rfl)));have u7:=r7.facts5;go_simp
     refine hK.out _ _ (mk _ t67) (fun hHeld2_=>?_)
     clear hK K hHeld;have hHeld:=hHeld2_;clear hHeld2_
     refine nm_ (some 68) ?_
     refine la_ 11 none fun K hK=>?_
     refine skip_ (w1:=?_) (by rfl) rfl ?_ ?_;rotate_left;· (go_simp;rfl)
     refine hK.out _ _ ?_
     clear hK K
     refine nm_ none ?_
     refine done_ (by kernel_rfl) ?_;clear hHeld
     obtain ⟨W9,hW9,a9,c9,t9⟩:=done5 c7 t07 r7 (.inr (.inl rfl)) q19_ q23_ (.int .i64 (writeF bud s ⟨c.k,c.v,0,untilF c.n now⟩).1.e) (.string ⟨#[]⟩) (.int .i64 0) (.int .i64 (writeF bud s ⟨c.k,c.v,0,untilF c.n now⟩).1.ver) (.slice none 0 0)
     try rw [hW9]
     have C9:=Lib.hid c9
     have T9:=Lib.hid t9
     have u9:=a9.facts5
     clear c7 t07 r7 u7 t7 hC7 t67 t6 mk hwr hun c9 t9 hW9
     go_wp2
     refine bodyPost_ret (v:=repA (writeF bud s ⟨c.k,c.v,0,untilF c.n now⟩).1.e ⟨#[]⟩ 0 (writeF bud s ⟨c.k,c.v,0,untilF c.n now⟩).1.ver (.slice none 0 0)) q25_ rfl ?_
     rw [HF.out]
     exact ⟨rfl,C9.out,T9.out⟩
    | false=>
     have hF : setF bud s c now=({ e:=9 },s):=by
      unfold setF
      rw [if_neg hn,if_neg (by omega),if_pos ⟨.inl hop,HIS.out⟩]
     rw [hop] at uA
     have HF:=Lib.hid hF
     clear hF
     obtain ⟨W9,hW9,a9,c9,t9⟩:=done5 HM.out.ca HM.out.t HM.out.rep (.inr (.inl rfl)) q19_ q23_ (.int .i64 9) (.string ⟨#[]⟩) (.int .i64 0) (.int .i64 0) (.slice none 0 0)
     go_wp2
     have u9:=a9.facts5
     refine bodyPost_ret (v:=repA 9 ⟨#[]⟩ 0 0 (.slice none 0 0)) q25_ rfl ?_
     rw [HF.out]
     exact ⟨rfl,c9,t9⟩
   ·cases is with
    | true=>
     by_cases hv : c.ver=was.ver
     ·have hF : setF bud s c now=writeF bud s ⟨c.k,c.v,0,untilF c.n now⟩:=by
       unfold setF
       rw [if_neg hn,if_neg (by omega),if_neg (by rw [HIS.out];simp),if_neg (by rw [HWAS.out];intro h;exact h.2 hv)]
      have HF:=Lib.hid hF
      rw [hop] at uA
      clear hF
      go_wp2
      obtain ⟨O5,h5,hO5,nO5⟩:=HM.out.ca
      have hun:=fun W=>Pb.cache_until.calls c.n now (untilF c.n now) W (until_some (by omega) hn2 hn0 hn1)
      have hwr:=fun W (t : Tch (fun _=>False) w5 W)=>write_all cb bud s O5 ⟨c.k,c.v,0,untilF c.n now⟩ W (h5.tch t (fun _ _ h=>h)) hs hl ⟨hk1,hk2⟩ hb0 hv0 hv1 hg0 hg1
      have mk : ∀ W' : World,Tch O5 w5 W'→(W'.cell? ⟨ga,1,none⟩=some (.string c.k)∧W'.cell? ⟨ga,2,none⟩=some (.string c.v)∧W'.cell? ⟨ga,3,none⟩=some (.int .i64 c.n)):=fun W' t=>⟨(HM.out.cmd.tch t (nO5 _ (.inl rfl))).cell 1 rfl,(HM.out.cmd.tch t (nO5 _ (.inl rfl))).cell 2 rfl,(HM.out.cmd.tch t (nO5 _ (.inl rfl))).cell 3 rfl⟩
      have hN5 : ∀ k,(k=ga ∨ k=ga + 1 ∨ k=ta)→k < w5.heap.size:=by
       have q:=HM.out.it.lt
       intro k hk
       omega
      have HO5:=Lib.hid hO5
      have HNO:=Lib.hid nO5
      clear uA uR uI h5 hO5 nO5
      refine start_ (n:=12) (S:=fun W'=>W'.cell? ⟨ga,1,none⟩=some (.string c.k)∧W'.cell? ⟨ga,2,none⟩=some (.string c.v)∧W'.cell? ⟨ga,3,none⟩=some (.int .i64 c.n)) (ds:=[11]) _ (by kernel_rfl) rfl rfl (mk _ (Tch.drew _ _)) (fun hHeld=>?_)
      refine pu_ 0 (some 58) ?_
      refine pu_ 1 (some 59) ?_
      refine pu_ 3 (some 61) ?_
      refine pu_ 5 (some 63) ?_
      refine pu_ 7 (some 65) ?_
      refine ta_ 2 (some 60) hHeld ?_
      refine ta_ 4 (some 62) hHeld ?_
      refine ta_ 6 (some 64) hHeld ?_
      refine on_ 8 (some 66) fun K hK=>?_
      go_simp;go_at_call 150;refine (hun _).mono ?_;rintro e w6 ⟨rfl,n6,rfl⟩;have t6:=Tch.drewN (fun _=>False) w5 (1 + n6);go_simp
      refine hK.out _ _ (mk _ (t6.mono (fun _ _ h=>h.elim))) (fun hHeld2_=>?_)
      clear hK K hHeld;have hHeld:=hHeld2_;clear hHeld2_
      refine nm_ (some 66) ?_
      refine pu_ 9 (some 67) ?_
      refine on_ 10 (some 68) fun K hK=>?_
      go_simp;go_at_call 149;refine (hwr _ t6).mono ?_;rintro e w7 ⟨rfl,hC7,t7⟩;have t67:=(t6.mono (S':=O5) (fun _ _ h=>h.elim)).trans t7 (fun _ _ h=>h);obtain ⟨c7,t07⟩:=CaX.step HO5.out HNO.out hN5 HM.out.t t6 t7 hC7;have r7:=HM.out.rep.tch t67 (HNO.out _ (.inr (.inl rfl)));have u7:=r7.facts5;go_simp
      refine hK.out _ _ (mk _ t67) (fun hHeld2_=>?_)
      clear hK K hHeld;have hHeld:=hHeld2_;clear hHeld2_
      refine nm_ (some 68) ?_
      refine la_ 11 none fun K hK=>?_
      refine skip_ (w1:=?_) (by rfl) rfl ?_ ?_;rotate_left;· (go_simp;rfl)
      refine hK.out _ _ ?_
      clear hK K
      refine nm_ none ?_
      refine done_ (by kernel_rfl) ?_;clear hHeld
      obtain ⟨W9,hW9,a9,c9,t9⟩:=done5 c7 t07 r7 (.inr (.inl rfl)) q19_ q23_ (.int .i64 (writeF bud s ⟨c.k,c.v,0,untilF c.n now⟩).1.e) (.string ⟨#[]⟩) (.int .i64 0) (.int .i64 (writeF bud s ⟨c.k,c.v,0,untilF c.n now⟩).1.ver) (.slice none 0 0)
      try rw [hW9]
      have C9:=Lib.hid c9
      have T9:=Lib.hid t9
      have u9:=a9.facts5
      clear c7 t07 r7 u7 t7 hC7 t67 t6 mk hwr hun c9 t9 hW9
      go_wp2
      refine bodyPost_ret (v:=repA (writeF bud s ⟨c.k,c.v,0,untilF c.n now⟩).1.e ⟨#[]⟩ 0 (writeF bud s ⟨c.k,c.v,0,untilF c.n now⟩).1.ver (.slice none 0 0)) q25_ rfl ?_
      rw [HF.out]
      exact ⟨rfl,C9.out,T9.out⟩
     ·have hF : setF bud s c now=({ e:=11 },s):=by
       unfold setF
       rw [if_neg hn,if_neg (by omega),if_neg (by rw [HIS.out];simp),if_pos ⟨hop,by rw [HWAS.out];exact hv⟩]
      rw [hop] at uA
      have HF:=Lib.hid hF
      clear hF
      obtain ⟨W9,hW9,a9,c9,t9⟩:=done5 HM.out.ca HM.out.t HM.out.rep (.inr (.inl rfl)) q19_ q23_ (.int .i64 11) (.string ⟨#[]⟩) (.int .i64 0) (.int .i64 0) (.slice none 0 0)
      go_wp2
      have u9:=a9.facts5
      refine bodyPost_ret (v:=repA 11 ⟨#[]⟩ 0 0 (.slice none 0 0)) q25_ rfl ?_
      rw [HF.out]
      exact ⟨rfl,c9,t9⟩
    | false=>
     have hF : setF bud s c now=({ e:=9 },s):=by
      unfold setF
      rw [if_neg hn,if_neg (by omega),if_pos ⟨.inr hop,HIS.out⟩]
     rw [hop] at uA
     have HF:=Lib.hid hF
     clear hF
     obtain ⟨W9,hW9,a9,c9,t9⟩:=done5 HM.out.ca HM.out.t HM.out.rep (.inr (.inl rfl)) q19_ q23_ (.int .i64 9) (.string ⟨#[]⟩) (.int .i64 0) (.int .i64 0) (.slice none 0 0)
     go_wp2
     have u9:=a9.facts5
     refine bodyPost_ret (v:=repA 9 ⟨#[]⟩ 0 0 (.slice none 0 0)) q25_ rfl ?_
     rw [HF.out]
     exact ⟨rfl,c9,t9⟩
end Go.Proofs.YtkekohmkaefdnaaGreatDoor
namespace Go.Proofs.YtkekohmkaefdnaaGreatDoor
open Go.RowKit Go.Maps Go.Shelf Go.Proofs.YtkekohmkaefdnaaGreatDoorW.PrintWords Go.Proofs.YtkekohmkaefdnaaGreatDoorW.PrintLast
attribute [local go_sem ↓] Go.wp_at_zero Go.wp_at_succ
def behindF (bud : Int) (s : CS) (x : It) (more : ByteArray) : RpC × CS:=
 if 500 < x.v.size + more.size then ({ e:=13 },s) else writeF bud s { x with v:=x.v ++ more }
set_option maxHeartbeats 4000000 in
set_option maxRecDepth 100000 in
theorem behind_gen (cb : Nat) (bud : Int) (s : CS) (O : Nat→Prop) (x : It) (more : ByteArray) (w : World) (hC : CaI w cb bud s.L s.ver s.gone O) (hs : Short s.L) (hl : s.L.length < 90000) (hx : ShortI x) (hm : more.size ≤ 10000) (hb0 : 0 ≤ bud) (hv0 : 0 ≤ s.ver) (hv1 : s.ver ≤ 1000000000) (hg0 : 0 ≤ s.gone) (hg1 : s.gone ≤ 1000000000) :
  Calls Tryz.prog 154 #[.pointer (some ⟨cb,0,none⟩),x.val,.string more] w fun e w'=>e=.returned (repA (behindF bud s x more).1.e ⟨#[]⟩ 0 (behindF bud s x more).1.ver (.slice none 0 0))∧CaI w' cb bud (behindF bud s x more).2.L (behindF bud s x more).2.ver (behindF bud s x more).2.gone (Own O w w')∧Tch O w w':=by
 have hLT:=hC.lt
 have hxv:=hx.2
 obtain ⟨W0,hW0,ta,ca,cr,hsz⟩:=two_blocks w #[.string x.k,.string x.v,.int .i64 x.ver,.int .i64 x.unt] TItem #[.int .i64 0,.string ⟨#[]⟩,.int .i64 0,.int .i64 0,.slice none 0 0] TReply
 have uA:=ca.facts4
 have uR:=cr.facts5
 have CA:=Lib.hid ca
 have CR:=Lib.hid cr
 have TA:=Lib.hid ta
 have HC:=Lib.hid hC
 have HSZ:=Lib.hid hsz
 have hgl:=cr.lt
 clear hC ca cr ta hsz
 have hcat : (x.v ++ more).size=x.v.size + more.size:=ByteArray.size_append ..
 have HCAT:=Lib.hid hcat
 clear hcat
 by_cases h : 500 < x.v.size + more.size
 ·have hF : behindF bud s x more=({ e:=13 },s):=by unfold behindF;rw [if_pos h]
  have HF:=Lib.hid hF
  have hI : (500 : Int) < (x.v.size : Int) + (more.size : Int):=by omega
  clear hF h
  go_enter Tryz.func154,Tryz.ntmps154
  go_wp2
  try rw [hW0]
  generalize hga : w.heap.size=ga at *
  have t1:=Tch.set W0 ⟨ga,1,none⟩ (.string (x.v ++ more))
  have hC0:=HC.out.tch TA.out (fun _ _ h=>h)
  have X1 : CaX w (W0.setCell ⟨ga,1,none⟩ (.string (x.v ++ more))) O cb bud s (fun k=>ga ≤ k):=⟨O,hC0.tch t1 (fun k hk e=>by have:=hLT k hk;have e' : k=ga:=e;omega),fun _ h=>.inl h,fun k hk h=>by have:=hLT k h;omega⟩
  have T1 : Tch O w (W0.setCell ⟨ga,1,none⟩ (.string (x.v ++ more))):=(TA.out.mono (fun _ _ h=>h.elim)).tset (fun h=>by have h' : ga < w.heap.size:=h;omega)
  obtain ⟨W9,hW9,a9,c9,t9⟩:=done5 X1 T1 (CR.out.tch t1 (by show ga + 1 ≠ ga;omega)) (show ga ≤ ga + 1 by omega) (by rw [hga];exact hLT) (by rw [hga];omega) (.int .i64 13) (.string ⟨#[]⟩) (.int .i64 0) (.int .i64 0) (.slice none 0 0)
  rw [hW9]
  have u9:=a9.facts5
  refine bodyPost_ret (v:=repA 13 ⟨#[]⟩ 0 0 (.slice none 0 0)) (by simp [results,Tryz.results154,go_sem,u9]) rfl ?_
  rw [HF.out]
  exact ⟨rfl,c9,t9⟩
 ·have hF : behindF bud s x more=writeF bud s { x with v:=x.v ++ more }:=by unfold behindF;rw [if_neg h]
  have HF:=Lib.hid hF
  have hI : (x.v.size : Int) + (more.size : Int) ≤ 500:=by omega
  have hsh : ShortI { x with v:=x.v ++ more }:=⟨hx.1,by show (x.v ++ more).size ≤ 10000;rw [HCAT.out];omega⟩
  clear hF h
  go_enter Tryz.func154,Tryz.ntmps154
  go_wp2_with fail
  try rw [hW0]
  generalize hga : w.heap.size=ga at *
  have t1:=Tch.set W0 ⟨ga,1,none⟩ (.string (x.v ++ more))
  have hC1:=(HC.out.tch TA.out (fun _ _ h=>h)).tch t1 (fun k hk e=>by have:=hLT k hk;have e' : k=ga:=e;omega)
  have hr1:=CR.out.tch t1 (by show ga + 1 ≠ ga;omega)
  have T1 : Tch O w (W0.setCell ⟨ga,1,none⟩ (.string (x.v ++ more))):=(TA.out.mono (fun _ _ h=>h.elim)).tset (fun h=>by have h' : ga < w.heap.size:=h;omega)
  obtain ⟨W1,hW1⟩ : ∃ W1,W0.setCell ⟨ga,1,none⟩ (.string (x.v ++ more))=W1:=⟨_,rfl⟩
  rw [hW1] at hC1 hr1 T1
  try rw [hW1]
  have hwr:=write_all cb bud s O { x with v:=x.v ++ more } W1 hC1 hs hl hsh hb0 hv0 hv1 hg0 hg1
  have hl1:=hr1.lt
  have R1:=Lib.hid hr1
  have T1':=Lib.hid T1
  have HW1:=Lib.hid hW1
  have HGA:=Lib.hid hga
  clear hC1 hr1 T1 t1 uA uR hW0 hW1 hga
  refine hwr.mono ?_
  rintro e w7 ⟨rfl,hC7,t7⟩
  obtain ⟨c7,t07⟩:=CaX.step (N:=fun k=>k=ga + 1) (fun k h=>.inl h) (fun k hk h=>by have:=hLT k h;omega) (fun k hk=>by omega) T1'.out (Tch.refl _ W1) t7 hC7
  have r7:=R1.out.tch t7 (fun h=>by have:=hLT _ h;omega)
  have u7:=r7.facts5
  obtain ⟨W9,hW9,a9,c9,t9⟩:=done5 c7 t07 r7 rfl q19_ q23_ (.int .i64 (writeF bud s { x with v:=x.v ++ more }).1.e) (.string ⟨#[]⟩) (.int .i64 0) (.int .i64 (writeF bud s { x with v:=x.v ++ more }).1.ver) (.slice none 0 0)
  have C9:=Lib.hid c9
  have T9:=Lib.hid t9
  have u9:=a9.facts5
  clear c7 t07 r7 t7 hC7 c9 t9 hwr
  go_wp2
  try rw [hW9]
  refine bodyPost_ret (v:=repA (writeF bud s { x with v:=x.v ++ more }).1.e ⟨#[]⟩ 0 (writeF bud s { x with v:=x.v ++ more }).1.ver (.slice none 0 0)) (by simp [results,Tryz.results154,go_sem,u9]) rfl ?_
  rw [HF.out]
  exact ⟨rfl,C9.out,T9.out⟩
end Go.Proofs.YtkekohmkaefdnaaGreatDoor
