import Derived.Test.YtkekohmkaefdnaaGreatDoorCr
import Derived.Test.YtkekohmkaefdnaaGreatDoorPy
set_option linter.unusedSimpArgs false
set_option linter.unusedVariables false
namespace Go.Proofs.YtkekohmkaefdnaaGreatDoor
open Go.RowKit Go.Maps Go.Shelf Go.Proofs.YtkekohmkaefdnaaGreatDoorW.PrintWords Go.Proofs.YtkekohmkaefdnaaGreatDoorW.PrintLast
attribute [local go_sem ↓] Go.wp_at_zero Go.wp_at_succ
def costI (x : It) : Int:=16 + (x.k.size : Int) + (x.v.size : Int)
def usedL (L : List It) : Int:=(L.map costI).sum
def ShortI (x : It) : Prop:=x.k.size ≤ 10000∧x.v.size ≤ 10000
def Short (L : List It) : Prop:=L.length ≤ 90000∧∀ x ∈ L,ShortI x
theorem cost_some (x : It) (h : ShortI x) (i u : Int) : Pb.cache_Cost.f x.k x.v i u=some (costI x):=by
 obtain ⟨h1,h2⟩:=h
 have e : wrap64 (wrap64 (16 + (x.k.size : Int)) + (x.v.size : Int))=16 + (x.k.size : Int) + (x.v.size : Int):=by
  unfold wrap64
  omega
 unfold Pb.cache_Cost.f costI
 rw [e]
theorem cost_range {x : It} (h : ShortI x) : 16 ≤ costI x∧costI x ≤ 20016:=by
 obtain ⟨h1,h2⟩:=h
 unfold costI
 omega
theorem used_range : ∀ {L : List It},(∀ x ∈ L,ShortI x)→16 * (L.length : Int) ≤ usedL L∧usedL L ≤ 20016 * (L.length : Int)
 | [],_=>by simp [usedL]
 | x :: L,h=>by
  have h1:=used_range (L:=L) fun y hy=>h y (List.mem_cons_of_mem _ hy)
  have h2:=cost_range (h x (List.mem_cons_self ..))
  have e : usedL (x :: L)=costI x + usedL L:=by simp [usedL]
  rw [e,List.length_cons]
  omega
theorem used_perm {L M : List It} (h : L.Perm M) : usedL L=usedL M:=by
 unfold usedL
 induction h with
 | nil=>rfl
 | cons x _ ih=>simp [ih]
 | swap x y l=>simp;omega
 | trans _ _ h1 h2=>exact h1.trans h2
theorem used_cut {L : List It} {key : ByteArray} {x : It} (hn : (L.map It.k).Nodup) (hf : findK L key=some x) : usedL L=costI x + usedL (cutL L key):=by
 have:=used_perm (cut_perm hn (findK_some hf).1 (findK_some hf).2)
 rw [this]
 simp [usedL]
theorem used_snoc (L : List It) (x : It) : usedL (L ++ [x])=usedL L + costI x:=by simp [usedL]
theorem cut_length (L : List It) (key : ByteArray) : (cutL L key).length ≤ L.length:=List.length_filter_le _ _
theorem cut_len_some {L : List It} {key : ByteArray} {x : It} (hn : (L.map It.k).Nodup) (hf : findK L key=some x) : L.length=(cutL L key).length + 1:=by
 have:=(cut_perm hn (findK_some hf).1 (findK_some hf).2).length_eq
 rw [this]
 rfl
theorem Short.cut {L : List It} (h : Short L) (key : ByteArray) : Short (cutL L key):=⟨Nat.le_trans (cut_length L key) h.1,fun x hx=>h.2 x (List.mem_filter.1 hx).1⟩
theorem StrIs.form {w : World} {v : Value} {l : List ByteArray} {b : Option Nat} (h : StrIs w v l b) : ∃ A n c,v=.slice A n c:=by
 cases h with
 | nil=>exact ⟨_,_,_,rfl⟩
 | row l b c zs h hc hm hz=>exact ⟨_,_,_,rfl⟩
structure CaR (w : World) (cb : Nat) (bud : Int) (L : List It) (ver gone : Int) (O : Nat→Prop) (tb : Nat) (vo : Value) (bo : Option Nat) (ss : List (List It)) (Ot : Nat→Prop) : Prop where
 cells : At w cb (cacheV bud tb vo (usedL L) ver gone) TCache
 order : StrIs w vo (L.map It.k) bo
 tab : TabI w tb ss (L.length : Int) Ot
 ok : TabOK ss L
 sub : ∀ k,Ot k→O k
 oc : O cb
 oo : ∀ g,bo=some g→O g
 nc : ¬ Ot cb
 no : ∀ g,bo=some g→¬ Ot g
 lt : ∀ k,O k→k < w.heap.size
 sl : ss.length ≤ 200000
def CaI (w : World) (cb : Nat) (bud : Int) (L : List It) (ver gone : Int) (O : Nat→Prop) : Prop:=∃ tb vo bo ss Ot,CaR w cb bud L ver gone O tb vo bo ss Ot
theorem CaR.tch {w w1 : World} {cb tb : Nat} {bud ver gone : Int} {L : List It} {O Ot S : Nat→Prop} {vo : Value} {bo : Option Nat} {ss : List (List It)} (h : CaR w cb bud L ver gone O tb vo bo ss Ot) (t : Tch S w w1) (hd : ∀ k,O k→¬ S k) : CaR w1 cb bud L ver gone O tb vo bo ss Ot:=
 ⟨h.cells.tch t (hd _ h.oc),h.order.tch t (fun g hg=>hd _ (h.oo g hg)),h.tab.tch t (fun k hk=>hd _ (h.sub k hk)),h.ok,h.sub,h.oc,h.oo,h.nc,h.no,fun k hk=>t.lt (h.lt k hk),h.sl⟩
theorem CaI.tch {w w1 : World} {cb : Nat} {bud ver gone : Int} {L : List It} {O S : Nat→Prop} (h : CaI w cb bud L ver gone O) (t : Tch S w w1) (hd : ∀ k,O k→¬ S k) : CaI w1 cb bud L ver gone O:=by
 obtain ⟨tb,vo,bo,ss,Ot,h⟩:=h
 exact ⟨tb,vo,bo,ss,Ot,h.tch t hd⟩
theorem CaI.mono {w : World} {cb : Nat} {bud ver gone : Int} {L : List It} {O O' : Nat→Prop} (h : CaI w cb bud L ver gone O) (hO : ∀ k,O k→O' k) (hl : ∀ k,O' k→k < w.heap.size) : CaI w cb bud L ver gone O':=by
 obtain ⟨tb,vo,bo,ss,Ot,h⟩:=h
 exact ⟨tb,vo,bo,ss,Ot,h.cells,h.order,h.tab,h.ok,fun k hk=>hO k (h.sub k hk),hO _ h.oc,fun g hg=>hO g (h.oo g hg),h.nc,h.no,hl,h.sl⟩
theorem CaI.lt {w : World} {cb : Nat} {bud ver gone : Int} {L : List It} {O : Nat→Prop} (h : CaI w cb bud L ver gone O) : ∀ k,O k→k < w.heap.size:=by
 obtain ⟨tb,vo,bo,ss,Ot,h⟩:=h
 exact h.lt
theorem CaI.nodup {w : World} {cb : Nat} {bud ver gone : Int} {L : List It} {O : Nat→Prop} (h : CaI w cb bud L ver gone O) : (L.map It.k).Nodup:=by
 obtain ⟨tb,vo,bo,ss,Ot,h⟩:=h
 exact h.ok.nodup
theorem CaI.own {w : World} {cb : Nat} {bud ver gone : Int} {L : List It} {O : Nat→Prop} (h : CaI w cb bud L ver gone O) : O cb:=by
 obtain ⟨tb,vo,bo,ss,Ot,h⟩:=h
 exact h.oc
theorem CaR.few {w : World} {cb tb : Nat} {bud ver gone : Int} {L : List It} {O Ot : Nat→Prop} {vo : Value} {bo : Option Nat} {ss : List (List It)} (h : CaR w cb bud L ver gone O tb vo bo ss Ot) (hs : Short L) : Few ss:=
 few_of h.ok.pos (Nat.le_trans h.sl (by decide)) (by rw [h.ok.count];exact Nat.le_trans hs.1 (by decide))
theorem find_short {L : List It} {key : ByteArray} {x : It} (hs : Short L) (h : findK L key=some x) : ShortI x:=hs.2 x (findK_some h).1
theorem CaI.setVer {w : World} {cb : Nat} {bud ver gone : Int} {L : List It} {O : Nat→Prop} (h : CaI w cb bud L ver gone O) (v : Int) : CaI (w.setCell ⟨cb,4,none⟩ (.int .i64 v)) cb bud L v gone O:=by
 obtain ⟨tb,vo,bo,ss,Ot,h⟩:=h
 have t:=Tch.set w ⟨cb,4,none⟩ (.int .i64 v)
 exact ⟨tb,vo,bo,ss,Ot,h.cells.set 4 (.int .i64 v),h.order.tch t (fun g hg e=>h.order.ne h.cells (by decide) (hg.trans (congrArg some (show g=cb from e)))),h.tab.tch t (fun k hk e=>h.nc ((show k=cb from e) ▸ hk)),h.ok,h.sub,h.oc,h.oo,h.nc,h.no,fun k hk=>by rw [size_set];exact h.lt k hk,h.sl⟩
theorem CaI.setGone {w : World} {cb : Nat} {bud ver gone : Int} {L : List It} {O : Nat→Prop} (h : CaI w cb bud L ver gone O) (v : Int) : CaI (w.setCell ⟨cb,5,none⟩ (.int .i64 v)) cb bud L ver v O:=by
 obtain ⟨tb,vo,bo,ss,Ot,h⟩:=h
 have t:=Tch.set w ⟨cb,5,none⟩ (.int .i64 v)
 exact ⟨tb,vo,bo,ss,Ot,h.cells.set 5 (.int .i64 v),h.order.tch t (fun g hg e=>h.order.ne h.cells (by decide) (hg.trans (congrArg some (show g=cb from e)))),h.tab.tch t (fun k hk e=>h.nc ((show k=cb from e) ▸ hk)),h.ok,h.sub,h.oc,h.oo,h.nc,h.no,fun k hk=>by rw [size_set];exact h.lt k hk,h.sl⟩
theorem CaR.again {w W : World} {cb tb : Nat} {bud ver gone : Int} {L : List It} {O Ot : Nat→Prop} {vo : Value} {bo : Option Nat} {ss : List (List It)} (h : CaR w cb bud L ver gone O tb vo bo ss Ot) (t : Tch O w W)
  {L' : List It} {ver' gone' : Int} {vo' : Value} {bo' : Option Nat} {ss' : List (List It)} {Ot' : Nat→Prop} (hc : At W cb (cacheV bud tb vo' (usedL L') ver' gone') TCache) (ho : StrIs W vo' (L'.map It.k) bo') (ht : TabI W tb ss' (L'.length : Int) Ot') (hk : TabOK ss' L') (hsub : ∀ k,Ot' k→Own Ot w W k)
  (hoo : ∀ g,bo'=some g→O g ∨ w.heap.size ≤ g∧g < W.heap.size) (hno : ∀ g,bo'=some g→¬ Ot' g) (hsl : ss'.length ≤ 200000) : CaI W cb bud L' ver' gone' (Own O w W):=
 ⟨tb,vo',bo',ss',Ot',hc,ho,ht,hk,fun k hk=>(hsub k hk).elim (fun h1=>.inl (h.sub k h1)) .inr,.inl h.oc,hoo,fun h1=>(hsub _ h1).elim h.nc (fun h2=>by have:=h.cells.lt;omega),hno,Own.lt h.lt t.size,hsl⟩
set_option maxHeartbeats 4000000 in
set_option maxRecDepth 100000 in
theorem del_gen (cb : Nat) (bud : Int) (L : List It) (ver gone : Int) (O : Nat→Prop) (key : ByteArray) (w : World) (hC : CaI w cb bud L ver gone O) (hk : key.size ≤ 1000000) (hs : Short L) :
  Calls Tryz.prog 148 #[.pointer (some ⟨cb,0,none⟩),.string key] w fun e w'=>e=.returned (.tuple #[])∧CaI w' cb bud (cutL L key) ver gone (Own O w w')∧Tch O w w':=by
 obtain ⟨tb,vo,bo,ss,Ot,hR⟩:=hC
 have hLT:=hR.lt
 have hcl:=hR.cells.lt
 have ta : Tch (fun _=>False) w (w.alloc (.cells #[.string key] TStr)):=Tch.alloc _ _ _
 have ca : At (w.alloc (.cells #[.string key] TStr)) w.heap.size [.string key] TStr:=At.new w _ _
 have hR1:=hR.tch ta (fun _ _ h=>h)
 have hbo : bo ≠ some w.heap.size:=fun e=>Nat.lt_irrefl _ (hLT _ (hR.oo _ e))
 have hst:=strike_gen vo (L.map It.k) bo w.heap.size key _ hR1.order (by rw [List.length_map];exact Nat.le_trans hs.1 (by decide)) (ca.cell 0 rfl) hbo
 rw [strike_keys] at hst
 have c2:=hR1.cells.cell 2 rfl
 have HR:=Lib.hid hR
 have HCA:=Lib.hid ca
 have HTA:=Lib.hid ta
 have hlook:=hR.ok.look key
 have hF:=hR.few hs
 clear hR hR1 ta ca
 go_enter Tryz.func148,Tryz.ntmps148
 go_wp2_with (go_at_call 217;refine hst.mono ?_;rintro e w1 ⟨vo',rfl,hso,t1⟩;obtain ⟨oA,oN,oC,rfl⟩:=hso.form;have f2:=((HR.out.cells.tch HTA.out (fun h=>h)).tch t1 (HR.out.order.ne HR.out.cells (by decide))).frozen 2;have c2:=((HR.out.cells.tch HTA.out (fun h=>h)).tch t1 (HR.out.order.ne HR.out.cells (by decide))).cell 2 rfl)
 have hb1:=HR.out.order.ne HR.out.cells (by decide)
 have ht1 : Tch (fun k=>bo=some k) w w1:=(HTA.out.mono (fun _ _ h=>h.elim)).trans t1 (fun _ _ h=>h)
 have hcells : At (w1.setCell ⟨cb,2,none⟩ (.slice oA oN oC)) cb (cacheV bud tb (.slice oA oN oC) (usedL L) ver gone) TCache:=((HR.out.cells.tch HTA.out (fun h=>h)).tch t1 hb1).set 2 (.slice oA oN oC)
 have t2 : Tch (fun k=>k=cb ∨ bo=some k) w (w1.setCell ⟨cb,2,none⟩ (.slice oA oN oC)):=(ht1.mono (fun _ _ h=>.inr h)).tset (fun _=>.inl rfl)
 have horder : StrIs (w1.setCell ⟨cb,2,none⟩ (.slice oA oN oC)) (.slice oA oN oC) ((cutL L key).map It.k) bo:=hso.tch (Tch.set w1 ⟨cb,2,none⟩ (.slice oA oN oC)) (fun g hg e=>hb1 (hg.trans (congrArg some (show g=cb from e))))
 have htab : TabI (w1.setCell ⟨cb,2,none⟩ (.slice oA oN oC)) tb ss (L.length : Int) Ot:=HR.out.tab.tch t2 (fun k hk h=>h.elim (fun e=>HR.out.nc (e ▸ hk)) (fun e=>HR.out.no k e hk))
 have hkey : At (w1.setCell ⟨cb,2,none⟩ (.slice oA oN oC)) w.heap.size [.string key] TStr:=(HCA.out.tch t1 hbo).other _ _ (by show w.heap.size ≠ cb;omega)
 have hwl : w.heap.size < (w1.setCell ⟨cb,2,none⟩ (.slice oA oN oC)).heap.size:=hkey.lt
 obtain ⟨W2,hW2⟩ : ∃ W2,w1.setCell ⟨cb,2,none⟩ (.slice oA oN oC)=W2:=⟨_,rfl⟩
 rw [hW2] at hcells t2 horder htab hkey hwl ⊢
 have HC2:=Lib.hid hcells
 have HT2:=Lib.hid t2
 have HO2:=Lib.hid horder
 have HTab:=Lib.hid htab
 have HK2:=Lib.hid hkey
 clear hst t1 hso ht1 hcells t2 horder hkey hW2 f2 c2 hb1
 have hget:=fun W (t : Tch (fun _=>False) W2 W)=>get_gen tb key ss (L.length : Int) Ot W (HTab.out.tch t (fun _ _ h=>h)) hk hF
 rw [hlook] at hget
 have htl:=htab.lt _ htab.ownT
 have htl2 : tb < W2.heap.size:=htl
 have hOtb:=htab.ownT
 clear htab
 have hct : cb ≠ tb:=fun e=>HR.out.nc (e ▸ hOtb)
 generalize hga : w.heap.size=ga at *
 have hgt : ga ≠ tb:=by have:=HR.out.lt _ (HR.out.sub _ hOtb);omega
 have mk : ∀ W' : World,Tch (fun k=>k=tb ∨ W2.heap.size ≤ k) W2 W'→(W'.cell? ⟨cb,1,none⟩=some (.pointer (some ⟨tb,0,none⟩))∧W'.cell? ⟨ga,0,none⟩=some (.string key)):=fun W' t=>⟨(HC2.out.tch t (fun h=>h.elim hct (fun h=>by have:=HC2.out.lt;omega))).cell 1 rfl,(HK2.out.tch t (fun h=>h.elim hgt (fun h=>by omega))).cell 0 rfl⟩
 go_wp2
 cases hf : findK L key with
 | none=>
  rw [hf] at hget
  simp only [gotV] at hget
  go_region_held3 (fun W'=>W'.cell? ⟨cb,1,none⟩=some (.pointer (some ⟨tb,0,none⟩))∧W'.cell? ⟨ga,0,none⟩=some (.string key))
   ((refine mk _ ?h1;(case h1=>first | exact (Tch.refl _ W2).tdrew | exact (Tch.refl _ W2).talloc.tdrew | exact (((Tch.refl _ W2).tdrew).ttch tt3 (fun _ _ h=>.inl h)) | exact (((Tch.refl _ W2).tdrew).ttch tt3 (fun _ _ h=>.inl h)).talloc | exact (((Tch.refl _ W2).talloc.tdrew).ttch tt3 (fun _ _ h=>.inl h)) | exact (((Tch.refl _ W2).talloc.tdrew).ttch tt3 (fun _ _ h=>.inl h)).ttch (tch_set4 w3 W2.heap.size _ _ _ _) (fun k hk h=>by omega))))
   ((go_at_call 87;refine (hget _ ?_).mono ?_;(first | exact (Tch.refl _ W2).tdrew | exact (Tch.refl _ W2).talloc.tdrew);rintro e w3 ⟨rfl,hM3,tt3⟩;try (have za:=(at_new' W2 #[.string ⟨#[]⟩,.string ⟨#[]⟩,.int .i64 0,.int .i64 0] TItem W2.heap.size rfl).drew.tch tt3 (show ¬ W2.heap.size=tb by omega);have z0:=za.cell 0 rfl;have z1:=za.cell 1 rfl;have z2:=za.cell 2 rfl;have z3:=za.cell 3 rfl;have y0:=za.frozen 0;have y1:=za.frozen 1;have y2:=za.frozen 2;have y3:=za.frozen 3)))
  all_goals
   rename_i hH
   have hcut : cutL L key=L:=cut_none hf
   have hfin : ∀ (Wx w5 : World) (sb : Nat) (vs : List Value) (bs : List (Option Nat)),W2.heap.size ≤ Wx.heap.size→Tch (fun k=>k=tb) Wx w3→TabM w5 tb sb vs bs ss (L.length : Int) (Own Ot Wx w3)→w3.heap.size ≤ w5.heap.size→Tch (fun k=>k=tb ∨ W2.heap.size ≤ k) W2 w5→CaI w5 cb bud (cutL L key) ver gone (Own O w w5)∧Tch O w w5:=by
    intro Wx w5 sb vs bs q1 q2 hM q3 t5
    have q4:=HT2.out.size
    have t9 : Tch O w w5:=(HT2.out.mono (fun k hk h=>h.elim (fun e=>e ▸ HR.out.oc) (fun e=>HR.out.oo k e))).trans t5 (fun k hk h=>h.elim (fun e=>e ▸ HR.out.sub _ hOtb) (fun h=>by omega))
    have ho5 : StrIs w5 (.slice oA oN oC) ((cutL L key).map It.k) bo:=HO2.out.tch t5 (fun g hg h=>by
     rcases h with h | h
     ·exact HR.out.no g hg (h ▸ hOtb)
     ·have:=HR.out.lt g (HR.out.oo g hg);omega)
    rw [hcut] at ho5 ⊢
    refine ⟨HR.out.again t9 (HC2.out.tch t5 (fun h=>h.elim hct (fun h=>by have:=HC2.out.lt;omega))) ho5 (.inr ⟨sb,vs,bs,hM⟩) HR.out.ok ?_ (fun g hg=>.inl (HR.out.oo g hg)) ?_ HR.out.sl,t9⟩
    ·rintro k (h | ⟨h,h'⟩)
     ·exact .inl h
     ·exact .inr ⟨by omega,by omega⟩
    ·rintro g hg (h | ⟨h,h'⟩)
     ·exact HR.out.no g hg h
     ·have:=HR.out.lt g (HR.out.oo g hg);omega
  ·obtain ⟨sb,vs,bs,hM⟩:=hM3
   have t5 : Tch (fun k=>k=tb ∨ W2.heap.size ≤ k) W2 (w3.alloc (.cells #[.string ⟨#[]⟩,.string ⟨#[]⟩,.int .i64 0,.int .i64 0] TItem)):=(((Tch.refl _ W2).tdrew).ttch tt3 (fun _ _ h=>.inl h)).talloc
   have hf5:=hfin W2.drew (w3.alloc (.cells #[.string ⟨#[]⟩,.string ⟨#[]⟩,.int .i64 0,.int .i64 0] TItem)) sb vs bs (Nat.le_refl _) tt3 (hM.tch (Tch.alloc (fun _=>False) _ _) (fun _ _ h=>h)) (by simp) t5
   have HF5:=Lib.hid hf5
   clear hf5 t5 hM hfin hH mk hget tt3
   go_wp2
   go_end0
   exact ⟨rfl,HF5.out.1,HF5.out.2⟩
  ·obtain ⟨sb,vs,bs,hM⟩:=hM3
   have t4:=tch_set4 w3 W2.heap.size (.string ⟨#[]⟩) (.string ⟨#[]⟩) (.int .i64 0) (.int .i64 0)
   have t5:=(((Tch.refl (fun k=>k=tb ∨ W2.heap.size ≤ k) W2).talloc.tdrew).ttch tt3 (fun _ _ h=>.inl h)).ttch t4 (fun k hk h=>by omega)
   have hf5:=hfin (W2.alloc (.cells #[.string ⟨#[]⟩,.string ⟨#[]⟩,.int .i64 0,.int .i64 0] TItem)).drew _ sb vs bs (by simp) tt3 (hM.tch t4 (fun k hk e=>by
    rcases hk with hk | ⟨hk,_⟩
    ·have h1:=HR.out.lt k (HR.out.sub k hk)
     have h2:=HT2.out.size
     omega
    ·simp at hk
     omega)) (by simp) t5
   have HF5:=Lib.hid hf5
   clear hf5 t5 t4 hM hfin hH mk hget tt3 za z0 z1 z2 z3 y0 y1 y2 y3
   go_wp2
   go_end0
   exact ⟨rfl,HF5.out.1,HF5.out.2⟩
 | some x=>
  rw [hf] at hget
  simp only [gotV] at hget
  have hlook' : lookS ss key=some x:=hlook.trans hf
  go_region_held3 (fun W'=>W'.cell? ⟨cb,1,none⟩=some (.pointer (some ⟨tb,0,none⟩))∧W'.cell? ⟨ga,0,none⟩=some (.string key))
   ((refine mk _ ?h1;(case h1=>first | exact (Tch.refl _ W2).tdrew | exact (Tch.refl _ W2).talloc.tdrew | exact (((Tch.refl _ W2).tdrew).ttch tt3 (fun _ _ h=>.inl h)) | exact (((Tch.refl _ W2).tdrew).ttch tt3 (fun _ _ h=>.inl h)).talloc | exact (((Tch.refl _ W2).talloc.tdrew).ttch tt3 (fun _ _ h=>.inl h)) | exact (((Tch.refl _ W2).talloc.tdrew).ttch tt3 (fun _ _ h=>.inl h)).ttch (tch_set4 w3 W2.heap.size _ _ _ _) (fun k hk h=>by omega))))
   ((go_at_call 87;refine (hget _ ?_).mono ?_;(first | exact (Tch.refl _ W2).tdrew | exact (Tch.refl _ W2).talloc.tdrew);rintro e w3 ⟨rfl,hM3,tt3⟩;try (have za:=(at_new' W2 #[.string ⟨#[]⟩,.string ⟨#[]⟩,.int .i64 0,.int .i64 0] TItem W2.heap.size rfl).drew.tch tt3 (show ¬ W2.heap.size=tb by omega);have z0:=za.cell 0 rfl;have z1:=za.cell 1 rfl;have z2:=za.cell 2 rfl;have z3:=za.cell 3 rfl;have y0:=za.frozen 0;have y1:=za.frozen 1;have y2:=za.frozen 2;have y3:=za.frozen 3)))
  ·obtain ⟨sb,vs,bs,hM⟩:=hM3
   have hsp : ∃ (ta : Nat) (w5 : World) (Ot5 : Nat→Prop),w3.heap.size=ta∧(w3.alloc (.cells #[.string x.k,.string x.v,.int .i64 x.ver,.int .i64 x.unt] TItem))=w5∧At w5 ta x.cells TItem∧TabI w5 tb ss (L.length : Int) Ot5∧Tch (fun k=>k=tb ∨ W2.heap.size ≤ k) W2 w5∧W2.heap.size ≤ ta∧¬ Ot5 ta∧∀ k,Ot5 k→Own Ot W2 w5 k:=
    ⟨_,_,Own Ot W2.drew w3,rfl,rfl,At.new w3 _ _,.inr ⟨sb,vs,bs,hM.tch (Tch.alloc (fun _=>False) _ _) (fun _ _ h=>h)⟩,(((Tch.refl _ W2).tdrew).ttch tt3 (fun _ _ h=>.inl h)).talloc,tt3.size,fun h=>by
     rcases h with h | ⟨_,h⟩
     ·have h1:=HR.out.lt _ (HR.out.sub _ h)
      have h2:=HT2.out.size
      have h3 : W2.heap.size ≤ w3.heap.size:=tt3.size
      omega
     ·omega,fun k h=>h.elim .inl (fun h=>.inr ⟨h.1,by simp;omega⟩)⟩
   obtain ⟨ta,w5,Ot5,h5a,h5b,hA5,hT5,t5,hta,hna,hsub5⟩:=hsp
   rw [h5b,h5a]
   clear h5a h5b hM tt3 hget
   have HA5:=Lib.hid hA5
   have HT5:=Lib.hid hT5
   have T5:=Lib.hid t5
   have HS5:=Lib.hid hsub5
   have hold : ∀ k,k < w.heap.size→Own Ot W2 w5 k→Ot k:=fun k hk h=>Own.old h (Nat.lt_of_lt_of_le hk HT2.out.size)
   have hcb5 : ¬ Ot5 cb:=fun h=>HR.out.nc (hold cb HR.out.cells.lt (hsub5 _ h))
   have hga5 : ¬ Ot5 ga:=fun h=>by
    rcases hsub5 _ h with h | ⟨h,_⟩
    ·have:=HR.out.lt _ (HR.out.sub _ h);omega
    ·omega
   have hC5:=HC2.out.tch t5 (fun h=>h.elim hct (fun h=>by have:=HC2.out.lt;omega))
   have hK5:=HK2.out.tch t5 (fun h=>h.elim hgt (fun h=>by omega))
   have HC5:=Lib.hid hC5
   have HK5:=Lib.hid hK5
   have hO5:=hT5.ownT
   have hn0 : (0 : Int) ≤ (L.length : Int):=by omega
   have hn1 : (L.length : Int) ≤ 1000000000:=by have:=hs.1;omega
   have hdel:=fun W (t : Tch (fun _=>False) w5 W)=>tdel_gen tb key ss (L.length : Int) Ot5 W (HT5.out.tch t (fun _ _ h=>h)) hk hF hn0 hn1
   rw [hlook'] at hdel
   clear hA5 hT5 t5 hsub5 mk hn0 hn1 hK5
   go_wp2
   refine start_ (n:=6) (S:=fun W'=>W'.cell? ⟨cb,1,none⟩=some (.pointer (some ⟨tb,0,none⟩))∧W'.cell? ⟨ga,0,none⟩=some (.string key)) (ds:=[]) _ (by kernel_rfl) rfl rfl (⟨HC5.out.cell 1 rfl,HK5.out.cell 0 rfl⟩) (fun hHeld=>?_)
   refine pu_ 0 (some 25) ?_
   refine pu_ 1 (some 26) ?_
   refine pu_ 2 (some 27) ?_
   refine ta_ 3 (some 28) hHeld ?_
   refine ta_ 4 (some 29) hHeld ?_
   refine on_ 5 (some 30) fun K hK=>?_
   go_simp;go_at_call 219;refine (hdel _ (Tch.drew _ _)).mono ?_;rintro e w6 ⟨rfl,⟨sb6,vs6,bs6,hM6⟩,t6⟩;go_simp
   refine hK.out _ _ (⟨(HC5.out.drew.tch t6 hcb5).cell 1 rfl,(HK5.out.drew.tch t6 hga5).cell 0 rfl⟩) (fun hHeld2_=>?_)
   clear hK K hHeld;have hHeld:=hHeld2_;clear hHeld2_
   refine nm_ (some 30) ?_
   refine done_ (by kernel_rfl) ?_;clear hHeld
   have hA6:=HA5.out.drew.tch t6 hna
   have hC6:=HC5.out.drew.tch t6 hcb5
   have t56 : Tch Ot5 w5 w6:=(Tch.drew Ot5 w5).trans t6 (fun _ _ h=>h)
   have HA6:=Lib.hid hA6
   have HC6:=Lib.hid hC6
   have T6:=Lib.hid t56
   have HM6:=Lib.hid hM6
   have hsx:=find_short hs hf
   have hco:=fun W=>Pb.cache_Cost.calls x.k x.v x.ver x.unt (costI x) W (cost_some x hsx _ _)
   have hused:=used_cut HR.out.ok.nodup hf
   have hcr:=cost_range hsx
   have hur:=used_range (L:=cutL L key) (hs.cut key).2
   have hul:=(hs.cut key).1
   have hsub1 : IntKind.i64.wrap (usedL L - costI x)=usedL (cutL L key):=q43_
   have hsub2 : wrap64 (usedL L - costI x)=usedL (cutL L key):=by unfold wrap64;omega
   have mk6 : ∀ W' : World,Tch (fun _=>False) w6 W'→(W'.cell? ⟨cb,3,none⟩=some (.int .i64 (usedL L))∧W'.cell? ⟨ta,0,none⟩=some (.string x.k)∧W'.cell? ⟨ta,1,none⟩=some (.string x.v)∧W'.cell? ⟨ta,2,none⟩=some (.int .i64 x.ver)∧W'.cell? ⟨ta,3,none⟩=some (.int .i64 x.unt)):=fun W' t=>⟨(HC6.out.tch t (fun h=>h)).cell 3 rfl,(HA6.out.tch t (fun h=>h)).cell 0 rfl,(HA6.out.tch t (fun h=>h)).cell 1 rfl,(HA6.out.tch t (fun h=>h)).cell 2 rfl,(HA6.out.tch t (fun h=>h)).cell 3 rfl⟩
   clear hA6 hC6 t6 t56 hM6 hused hcr hur hul hdel
   go_wp2
   refine start_ (n:=10) (S:=fun W'=>W'.cell? ⟨cb,3,none⟩=some (.int .i64 (usedL L))∧W'.cell? ⟨ta,0,none⟩=some (.string x.k)∧W'.cell? ⟨ta,1,none⟩=some (.string x.v)∧W'.cell? ⟨ta,2,none⟩=some (.int .i64 x.ver)∧W'.cell? ⟨ta,3,none⟩=some (.int .i64 x.unt)) (ds:=[9]) _ (by kernel_rfl) rfl rfl (mk6 _ (Tch.drew _ _)) (fun hHeld=>?_)
   refine pu_ 0 (some 31) ?_
   refine pu_ 1 (some 32) ?_
   refine pu_ 2 (some 33) ?_
   refine ta_ 3 (some 34) hHeld ?_
   refine ta_ 4 (some 35) hHeld ?_
   refine on_ 5 (some 36) fun K hK=>?_
   go_simp;go_at_call 220;refine (hco _).mono ?_;rintro e w7 ⟨rfl,hb7⟩;have t7:=(Tch.drew (fun _=>False) w6).tbelow hb7;have hC7:=HC6.out.tch t7 (fun h=>h);have k7:=hC7.cell 3 rfl;have z7:=hC7.frozen 3;go_simp
   refine hK.out _ _ (mk6 _ t7) (fun hHeld2_=>?_)
   clear hK K hHeld;have hHeld:=hHeld2_;clear hHeld2_
   refine nm_ (some 36) ?_
   refine pu_ 6 (some 37) ?_
   refine pu_ 7 (some 38) ?_
   refine pu_ 8 (some 39) ?_
   refine la_ 9 none fun K hK=>?_
   refine skip_ (w1:=?_) (by rfl) rfl ?_ ?_;rotate_left;· (go_simp;rfl)
   refine hK.out _ _ ?_
   clear hK K
   refine nm_ none ?_
   refine done_ (by kernel_rfl) ?_;clear hHeld
   have hC8 : At (w7.setCell ⟨cb,3,none⟩ (.int .i64 (usedL (cutL L key)))) cb (cacheV bud tb (.slice oA oN oC) (usedL (cutL L key)) ver gone) TCache:=hC7.set 3 _
   have t68 : Tch (fun k=>k=cb) w6 (w7.setCell ⟨cb,3,none⟩ (.int .i64 (usedL (cutL L key)))):=(t7.mono (fun _ _ h=>h.elim)).tset (fun _=>rfl)
   obtain ⟨w8,hw8⟩ : ∃ w8,w7.setCell ⟨cb,3,none⟩ (.int .i64 (usedL (cutL L key)))=w8:=⟨_,rfl⟩
   rw [hw8] at hC8 t68 ⊢
   have q2:=HT2.out.size
   have q5:=T5.out.size
   have q6:=T6.out.size
   have q8:=t68.size
   have t8 : Tch O w w8:=(((HT2.out.mono (fun k hk h=>h.elim (fun e=>e ▸ HR.out.oc) (fun e=>HR.out.oo k e))).trans T5.out (fun k hk h=>h.elim (fun e=>e ▸ HR.out.sub _ hOtb) (fun h=>by omega))).trans T6.out (fun k hk h=>HR.out.sub k (hold k hk (HS5.out k h)))).trans t68 (fun k hk h=>h ▸ HR.out.oc)
   have hsub8 : ∀ k,Own Ot5 w5.drew w6 k→Own Ot w w8 k:=by
    rintro k (h | ⟨h,h'⟩)
    ·rcases HS5.out k h with h | ⟨h,h'⟩
     ·exact .inl h
     ·exact .inr ⟨by omega,by omega⟩
    ·have h1 : w5.heap.size ≤ k:=h
     exact .inr ⟨by omega,by omega⟩
   have hM8 : TabI w8 tb (delS ss key) (((cutL L key).length : Nat) : Int) (Own Ot5 w5.drew w6):=by
    have hl:=cut_len_some HR.out.ok.nodup hf
    have hM:=HM6.out.tch t68 (fun k hk e=>by
     subst e
     exact HR.out.nc (Own.old (hsub8 _ hk) HR.out.cells.lt))
    have e : (if (some x).isSome=true then (L.length : Int) - 1 else (L.length : Int))=(((cutL L key).length : Nat) : Int):=by
     rw [if_pos (show (some x).isSome=true from rfl)];omega
    rw [e] at hM
    exact .inr ⟨sb6,vs6,bs6,hM⟩
   have ho8 : StrIs w8 (.slice oA oN oC) ((cutL L key).map It.k) bo:=by
    have hno : ∀ g,bo=some g→¬ Own Ot5 w5.drew w6 g:=fun g hg h=>HR.out.no g hg (Own.old (hsub8 _ h) (HR.out.lt g (HR.out.oo g hg)))
    have ho5:=HO2.out.tch T5.out (fun g hg h=>by
     rcases h with h | h
     ·exact HR.out.no g hg (h ▸ hOtb)
     ·have:=HR.out.lt g (HR.out.oo g hg);omega)
    exact (ho5.tch T6.out (fun g hg h=>hno g hg (.inl h))).tch t68 (fun g hg h=>HR.out.order.ne HR.out.cells (by decide) (h ▸ hg))
   have hfin:=HR.out.again t8 hC8 ho8 hM8 (HR.out.ok.del key) hsub8 (fun g hg=>.inl (HR.out.oo g hg)) (fun g hg h=>HR.out.no g hg (Own.old (hsub8 _ h) (HR.out.lt g (HR.out.oo g hg)))) (by rw [delS_length];exact HR.out.sl)
   have HF:=Lib.hid hfin
   have T8:=Lib.hid t8
   clear hfin t8 hC8 t68 hM8 ho8 hsub8 hC7 t7 k7 z7 hb7 mk6 hco hw8
   go_wp2
   go_end0
   exact ⟨rfl,HF.out,T8.out⟩
  ·obtain ⟨sb,vs,bs,hM⟩:=hM3
   have t4:=tch_set4 w3 W2.heap.size (.string x.k) (.string x.v) (.int .i64 x.ver) (.int .i64 x.unt)
   have hsp : ∃ (ta : Nat) (w5 : World) (Ot5 : Nat→Prop),W2.heap.size=ta∧((((w3.setCell ⟨W2.heap.size,0,none⟩ (.string x.k)).setCell ⟨W2.heap.size,1,none⟩ (.string x.v)).setCell ⟨W2.heap.size,2,none⟩ (.int .i64 x.ver)).setCell ⟨W2.heap.size,3,none⟩ (.int .i64 x.unt))=w5∧At w5 ta x.cells TItem∧TabI w5 tb ss (L.length : Int) Ot5∧Tch (fun k=>k=tb ∨ W2.heap.size ≤ k) W2 w5∧W2.heap.size ≤ ta∧¬ Ot5 ta∧∀ k,Ot5 k→Own Ot W2 w5 k:=by
    have hsz : (W2.alloc (.cells #[.string ⟨#[]⟩,.string ⟨#[]⟩,.int .i64 0,.int .i64 0] TItem)).drew.heap.size=W2.heap.size + 1:=by simp
    have hno : ¬ Own Ot (W2.alloc (.cells #[.string ⟨#[]⟩,.string ⟨#[]⟩,.int .i64 0,.int .i64 0] TItem)).drew w3 W2.heap.size:=fun h=>by
     rcases h with h | ⟨h,_⟩
     ·have h1:=HR.out.lt _ (HR.out.sub _ h)
      have h2:=HT2.out.size
      omega
     ·omega
    refine ⟨_,_,Own Ot (W2.alloc (.cells #[.string ⟨#[]⟩,.string ⟨#[]⟩,.int .i64 0,.int .i64 0] TItem)).drew w3,rfl,rfl,at_set4 za _ _ _ _,.inr ⟨sb,vs,bs,hM.tch t4 (fun k hk e=>?_)⟩,(((Tch.refl _ W2).talloc.tdrew).ttch tt3 (fun _ _ h=>.inl h)).ttch t4 (fun k hk h=>by omega),Nat.le_refl _,hno,?_⟩
    ·subst e
     exact hno hk
    ·rintro k (h | ⟨h,h'⟩)
     ·exact .inl h
     ·exact .inr ⟨by omega,Nat.lt_of_lt_of_le h' t4.size⟩
   obtain ⟨ta,w5,Ot5,h5a,h5b,hA5,hT5,t5,hta,hna,hsub5⟩:=hsp
   rw [h5b,h5a]
   clear h5b hM tt3 hget t4 za z0 z1 z2 z3 y0 y1 y2 y3
   have HA5:=Lib.hid hA5
   have HT5:=Lib.hid hT5
   have T5:=Lib.hid t5
   have HS5:=Lib.hid hsub5
   have hold : ∀ k,k < w.heap.size→Own Ot W2 w5 k→Ot k:=fun k hk h=>Own.old h (Nat.lt_of_lt_of_le hk HT2.out.size)
   have hcb5 : ¬ Ot5 cb:=fun h=>HR.out.nc (hold cb HR.out.cells.lt (hsub5 _ h))
   have hga5 : ¬ Ot5 ga:=fun h=>by
    rcases hsub5 _ h with h | ⟨h,_⟩
    ·have:=HR.out.lt _ (HR.out.sub _ h);omega
    ·omega
   have hC5:=HC2.out.tch t5 (fun h=>h.elim hct (fun h=>by have:=HC2.out.lt;omega))
   have hK5:=HK2.out.tch t5 (fun h=>h.elim hgt (fun h=>by omega))
   have HC5:=Lib.hid hC5
   have HK5:=Lib.hid hK5
   have hO5:=hT5.ownT
   have hn0 : (0 : Int) ≤ (L.length : Int):=by omega
   have hn1 : (L.length : Int) ≤ 1000000000:=by have:=hs.1;omega
   have hdel:=fun W (t : Tch (fun _=>False) w5 W)=>tdel_gen tb key ss (L.length : Int) Ot5 W (HT5.out.tch t (fun _ _ h=>h)) hk hF hn0 hn1
   rw [hlook'] at hdel
   clear hA5 hT5 t5 hsub5 mk hn0 hn1 hK5
   go_wp2
   refine start_ (n:=6) (S:=fun W'=>W'.cell? ⟨cb,1,none⟩=some (.pointer (some ⟨tb,0,none⟩))∧W'.cell? ⟨ga,0,none⟩=some (.string key)) (ds:=[]) _ (by kernel_rfl) rfl rfl (⟨HC5.out.cell 1 rfl,HK5.out.cell 0 rfl⟩) (fun hHeld=>?_)
   refine pu_ 0 (some 25) ?_
   refine pu_ 1 (some 26) ?_
   refine pu_ 2 (some 27) ?_
   refine ta_ 3 (some 28) hHeld ?_
   refine ta_ 4 (some 29) hHeld ?_
   refine on_ 5 (some 30) fun K hK=>?_
   go_simp;go_at_call 219;refine (hdel _ (Tch.drew _ _)).mono ?_;rintro e w6 ⟨rfl,⟨sb6,vs6,bs6,hM6⟩,t6⟩;go_simp
   refine hK.out _ _ (⟨(HC5.out.drew.tch t6 hcb5).cell 1 rfl,(HK5.out.drew.tch t6 hga5).cell 0 rfl⟩) (fun hHeld2_=>?_)
   clear hK K hHeld;have hHeld:=hHeld2_;clear hHeld2_
   refine nm_ (some 30) ?_
   refine done_ (by kernel_rfl) ?_;clear hHeld
   have hA6:=HA5.out.drew.tch t6 hna
   have hC6:=HC5.out.drew.tch t6 hcb5
   have t56 : Tch Ot5 w5 w6:=(Tch.drew Ot5 w5).trans t6 (fun _ _ h=>h)
   have HA6:=Lib.hid hA6
   have HC6:=Lib.hid hC6
   have T6:=Lib.hid t56
   have HM6:=Lib.hid hM6
   have hsx:=find_short hs hf
   have hco:=fun W=>Pb.cache_Cost.calls x.k x.v x.ver x.unt (costI x) W (cost_some x hsx _ _)
   have hused:=used_cut HR.out.ok.nodup hf
   have hcr:=cost_range hsx
   have hur:=used_range (L:=cutL L key) (hs.cut key).2
   have hul:=(hs.cut key).1
   have hsub1 : IntKind.i64.wrap (usedL L - costI x)=usedL (cutL L key):=q43_
   have hsub2 : wrap64 (usedL L - costI x)=usedL (cutL L key):=by unfold wrap64;omega
   have mk6 : ∀ W' : World,Tch (fun _=>False) w6 W'→(W'.cell? ⟨cb,3,none⟩=some (.int .i64 (usedL L))∧W'.cell? ⟨ta,0,none⟩=some (.string x.k)∧W'.cell? ⟨ta,1,none⟩=some (.string x.v)∧W'.cell? ⟨ta,2,none⟩=some (.int .i64 x.ver)∧W'.cell? ⟨ta,3,none⟩=some (.int .i64 x.unt)):=fun W' t=>⟨(HC6.out.tch t (fun h=>h)).cell 3 rfl,(HA6.out.tch t (fun h=>h)).cell 0 rfl,(HA6.out.tch t (fun h=>h)).cell 1 rfl,(HA6.out.tch t (fun h=>h)).cell 2 rfl,(HA6.out.tch t (fun h=>h)).cell 3 rfl⟩
   clear hA6 hC6 t6 t56 hM6 hused hcr hur hul hdel
   go_wp2
   refine start_ (n:=10) (S:=fun W'=>W'.cell? ⟨cb,3,none⟩=some (.int .i64 (usedL L))∧W'.cell? ⟨ta,0,none⟩=some (.string x.k)∧W'.cell? ⟨ta,1,none⟩=some (.string x.v)∧W'.cell? ⟨ta,2,none⟩=some (.int .i64 x.ver)∧W'.cell? ⟨ta,3,none⟩=some (.int .i64 x.unt)) (ds:=[9]) _ (by kernel_rfl) rfl rfl (mk6 _ (Tch.drew _ _)) (fun hHeld=>?_)
   refine pu_ 0 (some 31) ?_
   refine pu_ 1 (some 32) ?_
   refine pu_ 2 (some 33) ?_
   refine ta_ 3 (some 34) hHeld ?_
   refine ta_ 4 (some 35) hHeld ?_
   refine on_ 5 (some 36) fun K hK=>?_
   go_simp;go_at_call 220;refine (hco _).mono ?_;rintro e w7 ⟨rfl,hb7⟩;have t7:=(Tch.drew (fun _=>False) w6).tbelow hb7;have hC7:=HC6.out.tch t7 (fun h=>h);have k7:=hC7.cell 3 rfl;have z7:=hC7.frozen 3;go_simp
   refine hK.out _ _ (mk6 _ t7) (fun hHeld2_=>?_)
   clear hK K hHeld;have hHeld:=hHeld2_;clear hHeld2_
   refine nm_ (some 36) ?_
   refine pu_ 6 (some 37) ?_
   refine pu_ 7 (some 38) ?_
   refine pu_ 8 (some 39) ?_
   refine la_ 9 none fun K hK=>?_
   refine skip_ (w1:=?_) (by rfl) rfl ?_ ?_;rotate_left;· (go_simp;rfl)
   refine hK.out _ _ ?_
   clear hK K
   refine nm_ none ?_
   refine done_ (by kernel_rfl) ?_;clear hHeld
   have hC8 : At (w7.setCell ⟨cb,3,none⟩ (.int .i64 (usedL (cutL L key)))) cb (cacheV bud tb (.slice oA oN oC) (usedL (cutL L key)) ver gone) TCache:=hC7.set 3 _
   have t68 : Tch (fun k=>k=cb) w6 (w7.setCell ⟨cb,3,none⟩ (.int .i64 (usedL (cutL L key)))):=(t7.mono (fun _ _ h=>h.elim)).tset (fun _=>rfl)
   obtain ⟨w8,hw8⟩ : ∃ w8,w7.setCell ⟨cb,3,none⟩ (.int .i64 (usedL (cutL L key)))=w8:=⟨_,rfl⟩
   rw [hw8] at hC8 t68 ⊢
   have q2:=HT2.out.size
   have q5:=T5.out.size
   have q6:=T6.out.size
   have q8:=t68.size
   have t8 : Tch O w w8:=(((HT2.out.mono (fun k hk h=>h.elim (fun e=>e ▸ HR.out.oc) (fun e=>HR.out.oo k e))).trans T5.out (fun k hk h=>h.elim (fun e=>e ▸ HR.out.sub _ hOtb) (fun h=>by omega))).trans T6.out (fun k hk h=>HR.out.sub k (hold k hk (HS5.out k h)))).trans t68 (fun k hk h=>h ▸ HR.out.oc)
   have hsub8 : ∀ k,Own Ot5 w5.drew w6 k→Own Ot w w8 k:=by
    rintro k (h | ⟨h,h'⟩)
    ·rcases HS5.out k h with h | ⟨h,h'⟩
     ·exact .inl h
     ·exact .inr ⟨by omega,by omega⟩
    ·have h1 : w5.heap.size ≤ k:=h
     exact .inr ⟨by omega,by omega⟩
   have hM8 : TabI w8 tb (delS ss key) (((cutL L key).length : Nat) : Int) (Own Ot5 w5.drew w6):=by
    have hl:=cut_len_some HR.out.ok.nodup hf
    have hM:=HM6.out.tch t68 (fun k hk e=>by
     subst e
     exact HR.out.nc (Own.old (hsub8 _ hk) HR.out.cells.lt))
    have e : (if (some x).isSome=true then (L.length : Int) - 1 else (L.length : Int))=(((cutL L key).length : Nat) : Int):=by
     rw [if_pos (show (some x).isSome=true from rfl)];omega
    rw [e] at hM
    exact .inr ⟨sb6,vs6,bs6,hM⟩
   have ho8 : StrIs w8 (.slice oA oN oC) ((cutL L key).map It.k) bo:=by
    have hno : ∀ g,bo=some g→¬ Own Ot5 w5.drew w6 g:=fun g hg h=>HR.out.no g hg (Own.old (hsub8 _ h) (HR.out.lt g (HR.out.oo g hg)))
    have ho5:=HO2.out.tch T5.out (fun g hg h=>by
     rcases h with h | h
     ·exact HR.out.no g hg (h ▸ hOtb)
     ·have:=HR.out.lt g (HR.out.oo g hg);omega)
    exact (ho5.tch T6.out (fun g hg h=>hno g hg (.inl h))).tch t68 (fun g hg h=>HR.out.order.ne HR.out.cells (by decide) (h ▸ hg))
   have hfin:=HR.out.again t8 hC8 ho8 hM8 (HR.out.ok.del key) hsub8 (fun g hg=>.inl (HR.out.oo g hg)) (fun g hg h=>HR.out.no g hg (Own.old (hsub8 _ h) (HR.out.lt g (HR.out.oo g hg)))) (by rw [delS_length];exact HR.out.sl)
   have HF:=Lib.hid hfin
   have T8:=Lib.hid t8
   clear hfin t8 hC8 t68 hM8 ho8 hsub8 hC7 t7 k7 z7 hb7 mk6 hco hw8
   go_wp2
   go_end0
   exact ⟨rfl,HF.out,T8.out⟩
end Go.Proofs.YtkekohmkaefdnaaGreatDoor
namespace Go.Proofs.YtkekohmkaefdnaaGreatDoor
open Go.RowKit Go.Maps Go.Shelf Go.Proofs.YtkekohmkaefdnaaGreatDoorW.PrintWords Go.Proofs.YtkekohmkaefdnaaGreatDoorW.PrintLast
attribute [local go_sem ↓] Go.wp_at_zero Go.wp_at_succ
def putL (L : List It) (x : It) : List It:=cutL L x.k ++ [x]
theorem putS_length {ss : List (List It)} {L : List It} {x : It} (h : TabOK ss L) (hl : L.length ≤ 90000) (hs : ss.length ≤ 200000) : (putS ss x).length ≤ 200000:=by
 have h1:=insS_count ss x h.pos
 have h2:=h.count
 unfold putS
 split
 ·unfold growS
  rw [insAll_length]
  have : (fresh (2 * (insS ss x).length)).length=2 * ss.length:=by simp [fresh,insS_length]
  omega
 ·rw [insS_length];exact hs
theorem Short.put {L : List It} {x : It} (h : Short L) (hl : L.length < 90000) (hx : ShortI x) : Short (putL L x):=by
 refine ⟨?_,fun y hy=>?_⟩
 ·have:=cut_length L x.k
  unfold putL
  rw [List.length_append,List.length_singleton]
  omega
 ·rcases List.mem_append.1 hy with hy | hy
  ·exact h.2 y (List.mem_filter.1 hy).1
  ·obtain rfl:=List.mem_singleton.1 hy
   exact hx
theorem StrIs.fresh {w W : World} {v : Value} {l : List ByteArray} {b : Option Nat} {g : Nat} (h : StrIs w v l b) (hat : v.ownBlock=some g ∨ g=W.heap.size + 1) (hs : w.heap.size ≤ W.heap.size) : b=some g ∨ w.heap.size ≤ g:=by
 rcases hat with h1 | rfl
 ·rw [h.own.2] at h1
  exact .inl h1
 ·exact .inr (by omega)
theorem StrIs.at_ {w : World} {v : Value} {l : List ByteArray} {g : Nat} (h : StrIs w v l (some g)) : ∃ cs,At w g cs TStr:=by
 cases h with
 | row l b c zs h hc hm hz=>exact ⟨_,h⟩
set_option maxHeartbeats 4000000 in
set_option maxRecDepth 100000 in
theorem put_gen (cb : Nat) (bud : Int) (L : List It) (ver gone : Int) (O : Nat→Prop) (x : It) (w : World) (hC : CaI w cb bud L ver gone O) (hs : Short L) (hl : L.length < 90000) (hx : ShortI x) :
  Calls Tryz.prog 152 #[.pointer (some ⟨cb,0,none⟩),x.val] w fun e w'=>e=.returned (.tuple #[])∧CaI w' cb bud (putL L x) ver gone (Own O w w')∧Tch O w w':=by
 have hLT:=hC.lt
 have hcl:=hLT _ hC.own
 have hk1:=fun W=>clone_any x.k W (by have:=hx.1;omega)
 have hk2:=fun W=>clone_any x.v W (by have:=hx.2;omega)
 have ta : Tch (fun _=>False) w (w.alloc (.cells #[.string x.k,.string x.v,.int .i64 x.ver,.int .i64 x.unt] TItem)):=Tch.alloc _ _ _
 have ca : At (w.alloc (.cells #[.string x.k,.string x.v,.int .i64 x.ver,.int .i64 x.unt] TItem)) w.heap.size x.cells TItem:=At.new w _ _
 obtain ⟨W0,hW0⟩ : ∃ W0,w.alloc (.cells #[.string x.k,.string x.v,.int .i64 x.ver,.int .i64 x.unt] TItem)=W0:=⟨_,rfl⟩
 rw [hW0] at ta ca
 have HC:=Lib.hid hC
 have CA:=Lib.hid ca
 have TA:=Lib.hid ta
 have hgl:=ca.lt
 go_enter Tryz.func152,Tryz.ntmps152
 go_wp2
 try rw [hW0]
 generalize hga : w.heap.size=ga at *
 clear hC ca ta hW0
 refine start_ (n:=10) (S:=fun W'=>W'.cell? ⟨ga,0,none⟩=some (.string x.k)∧W'.cell? ⟨ga,1,none⟩=some (.string x.v)) (ds:=[7,9]) _ (by kernel_rfl) rfl rfl (⟨CA.out.cell 0 rfl,CA.out.cell 1 rfl⟩) (fun hHeld=>?_)
 refine pu_ 0 (some 4) ?_
 refine pu_ 3 (some 7) ?_
 refine ta_ 1 (some 5) hHeld ?_
 refine ta_ 4 (some 8) hHeld ?_
 refine on_ 2 (some 6) fun K hK=>?_
 go_simp;go_at_call 57;refine (hk1 _).mono ?_;rintro e w1 ⟨rfl,hb1⟩;have t1:=(Tch.drew (fun _=>False) W0).tbelow hb1;go_simp
 refine hK.out _ _ (⟨(CA.out.tch t1 (fun h=>h)).cell 0 rfl,(CA.out.tch t1 (fun h=>h)).cell 1 rfl⟩) (fun hHeld2_=>?_)
 clear hK K hHeld;have hHeld:=hHeld2_;clear hHeld2_
 refine nm_ (some 6) ?_
 refine pu_ 6 (some 10) ?_
 refine on_ 5 (some 9) fun K hK=>?_
 go_simp;go_at_call 57;refine (hk2 _).mono ?_;rintro e w2 ⟨rfl,hb2⟩;have t2:=t1.tbelow hb2;have a0:=(CA.out.tch t2 (fun h=>h)).cell 0 rfl;have a1:=(CA.out.tch t2 (fun h=>h)).cell 1 rfl;have z0:=(CA.out.tch t2 (fun h=>h)).frozen 0;have z1:=(CA.out.tch t2 (fun h=>h)).frozen 1;go_simp
 refine hK.out _ _ (⟨(CA.out.tch t2 (fun h=>h)).cell 0 rfl,(CA.out.tch t2 (fun h=>h)).cell 1 rfl⟩) (fun hHeld2_=>?_)
 clear hK K hHeld;have hHeld:=hHeld2_;clear hHeld2_
 refine nm_ (some 9) ?_
 refine la_ 7 none fun K hK=>?_
 refine skip_ (w1:=?_) (by rfl) rfl ?_ ?_;rotate_left;· (go_simp;rfl)
 refine hK.out _ _ ?_
 clear hK K
 refine nm_ none ?_
 refine pu_ 8 (some 11) ?_
 refine la_ 9 none fun K hK=>?_
 refine skip_ (w1:=?_) (by rfl) rfl ?_ ?_;rotate_left;· (go_simp;rfl)
 refine hK.out _ _ ?_
 clear hK K
 refine nm_ none ?_
 refine done_ (by kernel_rfl) ?_;clear hHeld
 have hA2 : At ((w2.setCell ⟨ga,0,none⟩ (.string x.k)).setCell ⟨ga,1,none⟩ (.string x.v)) ga x.cells TItem:=((CA.out.tch t2 (fun h=>h)).akeep (i:=0) rfl).akeep (i:=1) rfl
 have t3 : Tch (fun _=>False) w ((w2.setCell ⟨ga,0,none⟩ (.string x.k)).setCell ⟨ga,1,none⟩ (.string x.v)):=((TA.out.trans t2 (fun _ _ h=>h)).tset (fun h=>by have h' : ga < w.heap.size:=h;omega)).tset (fun h=>by have h' : ga < w.heap.size:=h;omega)
 obtain ⟨W3,hW3⟩ : ∃ W3,(w2.setCell ⟨ga,0,none⟩ (.string x.k)).setCell ⟨ga,1,none⟩ (.string x.v)=W3:=⟨_,rfl⟩
 rw [hW3] at hA2 t3 ⊢
 have hdel:=del_gen cb bud L ver gone O x.k W3 (HC.out.tch t3 (fun _ _ h=>h)) (by have:=hx.1;omega) hs
 have b0:=hA2.cell 0 rfl
 have hgl3:=hA2.lt
 have A3:=Lib.hid hA2
 have T3:=Lib.hid t3
 clear hA2 t3 t2 t1 hb1 hb2 a0 a1 z0 z1 hW3 hk1 hk2 CA TA
 go_wp2_with (go_at_call 148;refine hdel.mono ?_;rintro e w4 ⟨rfl,⟨tb,vo,bo,ss,Ot,hR⟩,t4⟩)
 have hg4 : ¬ Own O W3 w4 ga:=fun h=>by
  rcases h with h | ⟨h,_⟩
  ·have:=hLT _ h;omega
  ·omega
 have hgt : ¬ Ot ga:=fun h=>hg4 (hR.sub _ h)
 have hA4:=A3.out.tch t4 (fun h=>hg4 (.inl h))
 have hno : lookS ss x.k=none:=(hR.ok.look x.k).trans (find_cut L x.k)
 have hcnt:=hR.ok.count
 have hsc:=hs.cut x.k
 have hput:=fun W (t : Tch (fun _=>False) w4 W)=>tput_gen tb x ss ((cutL L x.k).length : Int) Ot W (hR.tab.tch t (fun _ _ h=>h)) (by have:=hx.1;omega) hno hR.ok.pos hR.sl (by rw [hcnt];have:=hsc.1;omega) (fun l hl y hy=>by
  have:=(hsc.2 y (hR.ok.perm.mem_iff.1 (List.mem_flatten.2 ⟨l,hl,hy⟩))).1
  omega) (by rw [hcnt])
 have hcl4:=hR.cells.lt
 have HR:=Lib.hid hR
 have A4:=Lib.hid hA4
 have T4:=Lib.hid t4
 have hcg : cb ≠ ga:=by omega
 have mk4 : ∀ W' : World,Tch Ot w4 W'→(W'.cell? ⟨cb,1,none⟩=some (.pointer (some ⟨tb,0,none⟩))∧W'.cell? ⟨ga,0,none⟩=some (.string x.k)∧W'.cell? ⟨ga,1,none⟩=some (.string x.v)∧W'.cell? ⟨ga,2,none⟩=some (.int .i64 x.ver)∧W'.cell? ⟨ga,3,none⟩=some (.int .i64 x.unt)):=fun W' t=>⟨(HR.out.cells.tch t HR.out.nc).cell 1 rfl,(A4.out.tch t hgt).cell 0 rfl,(A4.out.tch t hgt).cell 1 rfl,(A4.out.tch t hgt).cell 2 rfl,(A4.out.tch t hgt).cell 3 rfl⟩
 clear hR hA4 t4 hdel b0 hno
 go_wp2
 refine start_ (n:=6) (S:=fun W'=>W'.cell? ⟨cb,1,none⟩=some (.pointer (some ⟨tb,0,none⟩))∧W'.cell? ⟨ga,0,none⟩=some (.string x.k)∧W'.cell? ⟨ga,1,none⟩=some (.string x.v)∧W'.cell? ⟨ga,2,none⟩=some (.int .i64 x.ver)∧W'.cell? ⟨ga,3,none⟩=some (.int .i64 x.unt)) (ds:=[]) _ (by kernel_rfl) rfl rfl (mk4 _ (Tch.drew _ _)) (fun hHeld=>?_)
 refine pu_ 0 (some 16) ?_
 refine pu_ 1 (some 17) ?_
 refine pu_ 2 (some 18) ?_
 refine ta_ 3 (some 19) hHeld ?_
 refine ta_ 4 (some 20) hHeld ?_
 refine on_ 5 (some 21) fun K hK=>?_
 go_simp;go_at_call 222;refine (hput _ (Tch.drew _ _)).mono ?_;rintro e w5 ⟨rfl,⟨sb5,vs5,bs5,hM5⟩,t5⟩;go_simp
 refine hK.out _ _ (mk4 _ ((Tch.drew Ot w4).trans t5 (fun _ _ h=>h))) (fun hHeld2_=>?_)
 clear hK K hHeld;have hHeld:=hHeld2_;clear hHeld2_
 refine nm_ (some 21) ?_
 refine done_ (by kernel_rfl) ?_;clear hHeld
 have t45 : Tch Ot w4 w5:=(Tch.drew Ot w4).trans t5 (fun _ _ h=>h)
 have hC5:=HR.out.cells.tch t45 HR.out.nc
 have hA5:=A4.out.tch t45 hgt
 have ho5:=HR.out.order.tch t45 (fun g hg=>HR.out.no g hg)
 have hcr:=cost_range hx
 have hur:=used_range (L:=cutL L x.k) hsc.2
 have hul:=hsc.1
 have hco:=fun W=>Pb.cache_Cost.calls x.k x.v x.ver x.unt (costI x) W (cost_some x hx _ _)
 have hadd1 : IntKind.i64.wrap (usedL (cutL L x.k) + costI x)=usedL (putL L x):=by unfold putL;rw [used_snoc];simp [IntKind.wrap,IntKind.bits,IntKind.signed];omega
 have hadd2 : wrap64 (usedL (cutL L x.k) + costI x)=usedL (putL L x):=by unfold putL;rw [used_snoc];unfold wrap64;omega
 have C5:=Lib.hid hC5
 have A5:=Lib.hid hA5
 have O5:=Lib.hid ho5
 have T5:=Lib.hid t45
 have M5:=Lib.hid hM5
 have mk5 : ∀ W' : World,Tch (fun _=>False) w5 W'→(W'.cell? ⟨cb,3,none⟩=some (.int .i64 (usedL (cutL L x.k)))∧W'.cell? ⟨ga,0,none⟩=some (.string x.k)∧W'.cell? ⟨ga,1,none⟩=some (.string x.v)∧W'.cell? ⟨ga,2,none⟩=some (.int .i64 x.ver)∧W'.cell? ⟨ga,3,none⟩=some (.int .i64 x.unt)):=fun W' t=>⟨(C5.out.tch t (fun h=>h)).cell 3 rfl,(A5.out.tch t (fun h=>h)).cell 0 rfl,(A5.out.tch t (fun h=>h)).cell 1 rfl,(A5.out.tch t (fun h=>h)).cell 2 rfl,(A5.out.tch t (fun h=>h)).cell 3 rfl⟩
 clear hC5 hA5 ho5 t45 t5 hM5 mk4 hput hcr hur hul
 go_wp2
 refine start_ (n:=10) (S:=fun W'=>W'.cell? ⟨cb,3,none⟩=some (.int .i64 (usedL (cutL L x.k)))∧W'.cell? ⟨ga,0,none⟩=some (.string x.k)∧W'.cell? ⟨ga,1,none⟩=some (.string x.v)∧W'.cell? ⟨ga,2,none⟩=some (.int .i64 x.ver)∧W'.cell? ⟨ga,3,none⟩=some (.int .i64 x.unt)) (ds:=[9]) _ (by kernel_rfl) rfl rfl (mk5 _ (Tch.drew _ _)) (fun hHeld=>?_)
 refine pu_ 0 (some 22) ?_
 refine pu_ 1 (some 23) ?_
 refine pu_ 2 (some 24) ?_
 refine ta_ 3 (some 25) hHeld ?_
 refine ta_ 4 (some 26) hHeld ?_
 refine on_ 5 (some 27) fun K hK=>?_
 go_simp;go_at_call 220;refine (hco _).mono ?_;rintro e w6 ⟨rfl,hb6⟩;have t6:=(Tch.drew (fun _=>False) w5).tbelow hb6;have hC6:=C5.out.tch t6 (fun h=>h);have k6:=hC6.cell 3 rfl;have z6:=hC6.frozen 3;go_simp
 refine hK.out _ _ (mk5 _ t6) (fun hHeld2_=>?_)
 clear hK K hHeld;have hHeld:=hHeld2_;clear hHeld2_
 refine nm_ (some 27) ?_
 refine pu_ 6 (some 28) ?_
 refine pu_ 7 (some 29) ?_
 refine pu_ 8 (some 30) ?_
 refine la_ 9 none fun K hK=>?_
 refine skip_ (w1:=?_) (by rfl) rfl ?_ ?_;rotate_left;· (go_simp;rfl)
 refine hK.out _ _ ?_
 clear hK K
 refine nm_ none ?_
 refine done_ (by kernel_rfl) ?_;clear hHeld
 have hC7 : At (w6.setCell ⟨cb,3,none⟩ (.int .i64 (usedL (putL L x)))) cb (cacheV bud tb vo (usedL (putL L x)) ver gone) TCache:=hC6.set 3 _
 have t57 : Tch (fun k=>k=cb) w5 (w6.setCell ⟨cb,3,none⟩ (.int .i64 (usedL (putL L x)))):=(t6.mono (fun _ _ h=>h.elim)).tset (fun _=>rfl)
 obtain ⟨w7,hw7⟩ : ∃ w7,w6.setCell ⟨cb,3,none⟩ (.int .i64 (usedL (putL L x)))=w7:=⟨_,rfl⟩
 rw [hw7] at hC7 t57 ⊢
 have hA7:=A5.out.tch t57 (Ne.symm hcg)
 have ho7:=O5.out.tch t57 (fun g hg h=>HR.out.order.ne HR.out.cells (by decide) (h ▸ hg))
 have hcl7:=hC7.lt
 have hgl7:=hA7.lt
 have C7:=Lib.hid hC7
 have A7:=Lib.hid hA7
 have O7:=Lib.hid ho7
 have T7:=Lib.hid t57
 clear hC7 hA7 ho7 t57 t6 hC6 k6 z6 hb6 mk5 hco hw7
 obtain ⟨i0,hi0,hz0,hz1,hz2⟩:=info_parts info_str
 have hbc : bo ≠ some cb:=HR.out.order.ne HR.out.cells (by decide)
 have hbg : bo ≠ some ga:=fun e=>hg4 (HR.out.oo _ e)
 have hll : ((cutL L x.k).map It.k).length ≤ 90000:=by rw [List.length_map];exact hsc.1
 have mk7 : ∀ W' : World,Tch (fun k=>bo=some k) w7 W'→(W'.cell? ⟨cb,2,none⟩=some vo∧W'.cell? ⟨ga,0,none⟩=some (.string x.k)):=fun W' t=>⟨(C7.out.tch t hbc).cell 2 rfl,(A7.out.tch t hbg).cell 0 rfl⟩
 have hcap : ((cutL L x.k).map It.k).length + 1 ≤ maxLen:=by unfold maxLen;omega
 generalize hks : (cutL L x.k).map It.k=ks at O7 hll hcap
 have HKS:=Lib.hid hks
 clear hks
 go_wp2
 refine start_ (n:=12) (S:=fun W'=>W'.cell? ⟨cb,2,none⟩=some vo∧W'.cell? ⟨ga,0,none⟩=some (.string x.k)) (ds:=[11]) _ (by kernel_rfl) rfl rfl (mk7 _ (Tch.drew _ _)) (fun hHeld=>?_)
 refine pu_ 0 (some 31) ?_
 refine pu_ 1 (some 32) ?_
 refine pu_ 2 (some 33) ?_
 refine pu_ 3 (some 34) ?_
 refine pu_ 5 (some 36) ?_
 refine ta_ 4 (some 35) hHeld ?_
 refine ta_ 6 (some 37) hHeld ?_
 refine on_ 7 (some 38) fun K hK=>?_
 go_simp
 refine hK.out _ _ (mk7 _ (((Tch.refl _ w7).talloc).tdrew)) (fun hHeld2_=>?_)
 clear hK K hHeld;have hHeld:=hHeld2_;clear hHeld2_
 refine nm_ (some 38) ?_
 refine on_ 8 (some 39) fun K hK=>?_
 refine step_append_lies _ (by rfl) _ _ _ (by rfl) 0 TStr i0 _ 1 16 Tryz.underlying36 hi0 hz0 hz1 hz2 rfl (by decide) vo ks.length (ks.map Value.string) (by rfl) (ownsRow_tch O7.out.own.1 (((Tch.refl (fun _=>False) w7).talloc).tdrew) (fun _ h=>h.elim)) ⟨w7.heap.size,0,none⟩ 1 1 [.string x.k] (by rfl) (by rfl) (World.news_of_block (cs:=#[.string x.k]) (t:=TStr) (fr:=(0,0)) (heap_alloc_new w7 _)) (by simp [Value.oneCell']) (by decide) hcap (by omega) (by simp) (w7.heap.size + 1) (by simp) ?_;intro g cap w8 hown8 hgr hat hlt;have t8:=O7.out.grown (((Tch.refl (fun _=>False) w7).talloc).tdrew) hgr;have hC8:=C7.out.tch t8 hbc;have k8:=hC8.cell 2 rfl;have z8:=hC8.frozen 2
 refine hK.out _ _ (mk7 _ t8) (fun hHeld2_=>?_)
 clear hK K hHeld;have hHeld:=hHeld2_;clear hHeld2_
 refine nm_ (some 39) ?_
 refine pu_ 9 (some 40) ?_
 refine pu_ 10 (some 41) ?_
 refine la_ 11 none fun K hK=>?_
 refine skip_ (w1:=?_) (by rfl) rfl ?_ ?_;rotate_left;· (go_simp;rfl)
 refine hK.out _ _ ?_
 clear hK K
 refine nm_ none ?_
 refine done_ (by kernel_rfl) ?_;clear hHeld
 have hs8:=StrIs.snoc hown8
 have hC9 : At (w8.setCell ⟨cb,2,none⟩ (.slice (some ⟨g,0,none⟩) (ks.length + 1) cap)) cb (cacheV bud tb (.slice (some ⟨g,0,none⟩) (ks.length + 1) cap) (usedL (putL L x)) ver gone) TCache:=hC8.set 2 _
 have hgc : g ≠ cb:=hs8.at_.elim fun cs h=>at_ne2 h hC8 (by decide)
 have ho9 : StrIs (w8.setCell ⟨cb,2,none⟩ (.slice (some ⟨g,0,none⟩) (ks.length + 1) cap)) (.slice (some ⟨g,0,none⟩) (ks.length + 1) cap) (ks ++ [x.k]) (some g):=hs8.tch (Tch.set w8 ⟨cb,2,none⟩ _) (fun g' hg' e=>hgc ((Option.some.inj hg').trans e))
 have t79 : Tch (fun k=>k=cb ∨ bo=some k) w7 (w8.setCell ⟨cb,2,none⟩ (.slice (some ⟨g,0,none⟩) (ks.length + 1) cap)):=(t8.mono (fun _ _ h=>.inr h)).tset (fun _=>.inl rfl)
 have hgf:=O7.out.fresh (w:=w7) hat (by simp)
 obtain ⟨w9,hw9⟩ : ∃ w9,w8.setCell ⟨cb,2,none⟩ (.slice (some ⟨g,0,none⟩) (ks.length + 1) cap)=w9:=⟨_,rfl⟩
 rw [hw9] at hC9 ho9 t79 ⊢
 have q3:=T3.out.size
 have q4:=T4.out.size
 have q5:=T5.out.size
 have q7:=T7.out.size
 have q9:=t79.size
 have hOtl : ∀ k,Ot k→k < w4.heap.size:=fun k h=>HR.out.lt k (HR.out.sub k h)
 have t49 : Tch (Own O W3 w4) w4 w9:=((T5.out.mono (fun k _ h=>HR.out.sub k h)).trans T7.out (fun k _ h=>h ▸ HR.out.oc)).trans t79 (fun k _ h=>h.elim (fun e=>e ▸ HR.out.oc) (fun e=>HR.out.oo k e))
 have hnew : ∀ k,Own Ot w4.drew w5 k→k < w4.heap.size→Ot k:=fun k h hk=>Own.old h hk
 have hM9 : TabI w9 tb (putS ss x) (((putL L x).length : Nat) : Int) (Own Ot w4.drew w5):=by
  have hM:=(M5.out.tch T7.out (fun k hk e=>by
   subst e
   exact HR.out.nc (hnew _ hk hcl4))).tch t79 (fun k hk h=>by
   rcases h with e | e
   ·subst e
    exact HR.out.nc (hnew _ hk hcl4)
   ·exact HR.out.no k e (hnew k hk (HR.out.lt k (HR.out.oo k e))))
  have e : ((cutL L x.k).length : Int) + 1=(((putL L x).length : Nat) : Int):=by unfold putL;rw [List.length_append,List.length_singleton];omega
  rw [e] at hM
  exact .inr ⟨sb5,vs5,bs5,hM⟩
 have ho9' : StrIs w9 (.slice (some ⟨g,0,none⟩) (ks.length + 1) cap) ((putL L x).map It.k) (some g):=by
  have e : (putL L x).map It.k=ks ++ [x.k]:=by unfold putL;rw [List.map_append,HKS.out];rfl
  rw [e]
  exact ho9
 have hgl9:=ho9.lt
 have hca:=HR.out.again t49 hC9 ho9' hM9 (HR.out.ok.put x (find_cut L x.k)) (by
   rintro k (h | ⟨h,h'⟩)
   ·exact .inl h
   ·have h1 : w4.heap.size ≤ k:=h
    exact .inr ⟨h1,by omega⟩) (by
   intro g' hg'
   injection hg' with hg'
   subst hg'
   rcases hgf with h | h
   ·exact .inl (HR.out.oo _ h)
   ·exact .inr ⟨by omega,hgl9⟩) (by
   intro g' hg' h
   injection hg' with hg'
   subst hg'
   rcases hgf with h1 | h1
   ·exact HR.out.no _ h1 (hnew _ h (HR.out.lt _ (HR.out.oo _ h1)))
   ·rcases h with h | ⟨_,h⟩
    ·have:=hOtl _ h;omega
    ·omega) (putS_length HR.out.ok hsc.1 HR.out.sl)
 have t9 : Tch O w w9:=((T3.out.mono (fun _ _ h=>h.elim)).trans T4.out (fun _ _ h=>h)).trans t49 (fun k hk h=>by
  rcases h with h | ⟨h,_⟩
  ·exact h
  ·omega)
 have hfin:=hca.mono (O':=Own O w w9) (by
  rintro k ((h | ⟨h,h'⟩) | ⟨h,h'⟩)
  ·exact .inl h
  ·exact .inr ⟨by omega,by omega⟩
  ·exact .inr ⟨by omega,h'⟩) (Own.lt HC.out.lt t9.size)
 have HF:=Lib.hid hfin
 have T9:=Lib.hid t9
 clear hfin t9 hca ho9' hM9 t49 hC9 ho9 t79 hs8 hC8 t8 k8 z8 hown8 hgr hat hlt hgf hw9 mk7
 go_wp2
 go_end0
 exact ⟨rfl,HF.out,T9.out⟩
end Go.Proofs.YtkekohmkaefdnaaGreatDoor
