import Derived.Test.YtkekohmkaefdnaaGreatDoorCi
import Derived.Test.YtkekohmkaefdnaaGreatDoorPt
import Derived.Deep.AppendLies
import Derived.Test.YtkekohmkaefdnaaGreatDoorWLast
import Derived.Test.YtkekohmkaefdnaaGreatDoorPR4
import Derived.Test.YtkekohmkaefdnaaGreatDoorPo
set_option linter.unusedSimpArgs false
set_option linter.unusedVariables false
set_option maxHeartbeats 4000000
set_option maxRecDepth 100000
namespace Go.Proofs.YtkekohmkaefdnaaGreatDoor
open Go.RowKit Go.Maps Go.Shelf Go.Proofs.YtkekohmkaefdnaaGreatDoorW.PrintWords Go.Proofs.YtkekohmkaefdnaaGreatDoorW.PrintLast
attribute [local go_sem ↓] Go.wp_at_zero Go.wp_at_succ
def Mid (w : World) (tb : Nat) (m : Nat) (n : Int) (xs : List It) (wr : World) : Prop:=
 Tch (fun k=>k=tb) w wr∧∃ sb vs bs,TabM wr tb sb vs bs (insAll (fresh m) xs) n (Own (fun k=>k=tb) w wr)
theorem Mid.start {w : World} {tb sb : Nat} {vs : List Value} {bs : List (Option Nat)} {ss : List (List It)} {n : Int} {O : Nat→Prop} (h : TabM w tb sb vs bs ss n O) (m : Nat) :
  Mid w tb m n [] ((w.setCell ⟨tb,4,none⟩ (.slice (some ⟨w.heap.size,0,none⟩) m m)).alloc (.cells (List.replicate m (Value.slice none 0 0)).toArray 46)):=by
 have hlt:=h.tab.lt
 have t : Tch (fun k=>k=tb) w ((w.setCell ⟨tb,4,none⟩ (.slice (some ⟨w.heap.size,0,none⟩) m m)).alloc (.cells (List.replicate m (Value.slice none 0 0)).toArray 46)):=(Tch.set w ⟨tb,4,none⟩ _).talloc
 have hn:=at_new' (w.setCell ⟨tb,4,none⟩ (.slice (some ⟨w.heap.size,0,none⟩) m m)) (List.replicate m (Value.slice none 0 0)).toArray 46 w.heap.size (size_set _ _ _)
 have hl : (insAll (fresh m) []).length=m:=by rw [insAll_length];simp [fresh]
 refine ⟨t,w.heap.size,List.replicate m (.slice none 0 0),List.replicate m none,?_,hn,?_,?_,?_,?_,.inl rfl,.inr ⟨Nat.le_refl _,hn.lt⟩,?_,?_⟩
 ·rw [hl]
  exact (h.tab.set 4 _).alloc _
 ·rw [hl,List.length_replicate]
 ·rw [hl,List.length_replicate]
 ·intro i v l b e1 e2 e3
  obtain rfl:=List.eq_of_mem_replicate (List.mem_of_getElem? e1)
  obtain rfl:=List.eq_of_mem_replicate (List.mem_of_getElem? e3)
  obtain rfl : l=[]:=List.eq_of_mem_replicate (List.mem_of_getElem? (show (List.replicate m ([] : List It))[i]? = some l from e2))
  exact .nil
 ·intro i j b e1
  have:=List.mem_of_getElem? e1
  simp at this
 ·intro b hb
  simp at hb
 ·intro k hk
  rcases hk with rfl | ⟨_,h⟩
  ·exact t.lt hlt
  ·exact h
theorem grow_gen (tb sb : Nat) (vs : List Value) (bs : List (Option Nat)) (ss : List (List It)) (n : Int) (O : Nat→Prop) (w : World) (hM : TabM w tb sb vs bs ss n O) (h0 : 0 < ss.length) (h1 : ss.length ≤ 400000) (h2 : ss.flatten.length ≤ 400000) (hk : ∀ l ∈ ss,∀ x ∈ l,x.k.size ≤ 1000000) :
  Calls Tryz.prog 281 #[.pointer (some ⟨tb,0,none⟩)] w fun e w'=>e=.returned (.tuple #[])∧Mid w tb (2 * ss.length) n ss.flatten w':=by
 have c4:=hM.tab.cell 4 rfl
 have f4:=hM.tab.frozen 4
 have htl:=hM.tab.lt
 have hmk:=fun W=>make_items (2 * ss.length) (by omega) W
 rw [show ((2 * ss.length : Nat) : Int)=2 * (ss.length : Int) from by omega] at hmk
 have hw1 : IntKind.i64.wrap (2 * (ss.length : Int))=2 * (ss.length : Int):=q43_
 have hw2 : wrap64 (2 * (ss.length : Int))=2 * (ss.length : Int):=by unfold wrap64;omega
 have HM:=Lib.hid hM
 clear hM
 go_enter Tryz.func281,Tryz.ntmps281
 go_wp2
 go_loopg [22] ss.length (fun gg s22 wr=>∃ j : Nat,s22=.int .i64 (j : Int)∧j + gg=ss.length∧Mid w tb (2 * ss.length) n (ss.take j).flatten wr)
 case atStart=>exact ⟨0,rfl,by omega,Mid.start HM.out _⟩
 case round=>
  obtain ⟨j,rfl,hj,hmid⟩:=hrel
  rcases Nat.eq_zero_or_pos gk with hg0 | hg0
  ·have hjl : ¬ (j : Int) < (ss.length : Int):=by omega
   obtain rfl : j=ss.length:=by omega
   rw [List.take_length] at hmid
   have HMI:=Lib.hid hmid
   clear hmid
   go_wp2
   go_end0
   exact ⟨rfl,HMI.out⟩
  ·have hjl : (j : Int) < (ss.length : Int):=by omega
   have hjl' : j < ss.length:=by omega
   obtain ⟨v,l,b,e1,e2,e3,hrow⟩:=HM.out.at_ hjl'
   have s4:=(HM.out.slots.tch hmid.1 (Ne.symm (at_ne2 HM.out.tab HM.out.slots (by decide)))).cell j e1
   have HMI:=Lib.hid hmid
   clear hmid
   have htk : (ss.take (j + 1)).flatten=(ss.take j).flatten ++ l:=by
    rw [List.take_add_one,e2,List.flatten_append]
    simp
   have hfl : ((ss.take j).flatten ++ l).length ≤ ss.flatten.length:=by
    rw [← htk]
    have h:=congrArg (fun q=>(List.flatten q).length) (List.take_append_drop (j + 1) ss)
    simp only [List.flatten_append,List.length_append] at h
    omega
   rw [List.length_append] at hfl
   have hlm:=List.mem_of_getElem? e2
   cases hrow with
   | nil=>
    go_wp2
    go_loopg [28] 0 (fun gg s28 wr2=>s28=.int .i64 0∧wr2=wr)
    case atStart=>exact ⟨rfl,rfl⟩
    case round=>
     obtain ⟨rfl,rfl⟩:=hrel
     go_wp2
     go_roundg (ss.length - (j + 1))
     case measure=>omega
     case rel=>exact ⟨j + 1,congrArg (Value.int .i64) (by omega),by omega,by rw [htk,List.append_nil];exact HMI.out⟩
   | row _ b' c zs hb hc hm hz=>
    go_wp2
    go_loopg [28] l.length (fun gg s28 wr2=>∃ i : Nat,s28=.int .i64 (i : Int)∧i + gg=l.length∧Mid w tb (2 * ss.length) n ((ss.take j).flatten ++ l.take i) wr2)
    case atStart=>exact ⟨0,rfl,by omega,by rw [List.take_zero,List.append_nil];exact HMI.out⟩
    case round=>
     obtain ⟨i,rfl,hi,hmid⟩:=hrel
     rcases Nat.eq_zero_or_pos gk with hg0' | hg0'
     ·have hil : ¬ (i : Int) < (l.length : Int):=by omega
      rw [List.take_of_length_le (show l.length ≤ i by omega)] at hmid
      have HMJ:=Lib.hid hmid
      clear hmid
      go_wp2
      go_roundg (ss.length - (j + 1))
      case measure=>omega
      case rel=>exact ⟨j + 1,congrArg (Value.int .i64) (by omega),by omega,by rw [htk];exact HMJ.out⟩
     ·have hil : (i : Int) < (l.length : Int):=by omega
      obtain ⟨x,hx⟩ : ∃ x,l[i]? = some x:=⟨_,List.getElem?_eq_getElem (by omega)⟩
      have hxk:=hk l hlm x (List.mem_of_getElem? hx)
      have hb2:=hb.tch hmid.1 (at_ne2 hb HM.out.tab (by decide))
      have hq : ∀ (m : Nat) (v : Value),m < 4→x.cells[m]? = some v→wr.cell? ⟨b',i * 4 + m,none⟩=some v:=fun m v hm hv=>hb2.cell (i * 4 + m) (by
       rw [Nat.mul_comm,List.getElem?_append_left (by rw [rowOf_length];omega),rowOf_get hx m hm,hv])
      have q0 : wr.cell? ⟨b',i * 4,none⟩=some (.string x.k):=hq 0 _ (by decide) rfl
      have q1:=hq 1 _ (by decide) rfl
      have q2:=hq 2 _ (by decide) rfl
      have q3:=hq 3 _ (by decide) rfl
      obtain ⟨tm,sb2,vs2,bs2,hM2⟩:=hmid
      have hfl2 : (l.take i).length ≤ l.length:=by rw [List.length_take];omega
      have hTl : (insAll (fresh (2 * ss.length)) ((ss.take j).flatten ++ l.take i)).length=2 * ss.length:=by rw [insAll_length];simp [fresh]
      have hTc : (insAll (fresh (2 * ss.length)) ((ss.take j).flatten ++ l.take i)).flatten.length ≤ 400000:=by
       rw [insAll_count _ _ (by simp [fresh];omega),fresh_flat,List.length_append]
       omega
      have htk2 : insAll (fresh (2 * ss.length)) ((ss.take j).flatten ++ l.take (i + 1))=insS (insAll (fresh (2 * ss.length)) ((ss.take j).flatten ++ l.take i)) x:=by
       rw [← insAll_snoc,List.append_assoc,List.take_add_one,hx]
       rfl
      generalize hT : insAll (fresh (2 * ss.length)) ((ss.take j).flatten ++ l.take i)=T at hM2 hTl hTc htk2
      have hF : Few T:=few_of (by omega) (by omega) (by omega)
      have ta : Tch (fun _=>False) wr (wr.alloc (.cells #[.string x.k,.string x.v,.int .i64 x.ver,.int .i64 x.unt] TItem)):=Tch.alloc _ _ _
      have ca : At (wr.alloc (.cells #[.string x.k,.string x.v,.int .i64 x.ver,.int .i64 x.unt] TItem)) wr.heap.size x.cells TItem:=At.new _ _ _
      have hp:=place_gen tb x.k T n _ _ (.inr ⟨sb2,vs2,bs2,hM2.tch ta (fun _ _ h=>h)⟩) hxk hF
      have htl2:=hM2.lt tb hM2.ownT
      have HN0:=Lib.hid hM2.lt
      have HCA:=Lib.hid ca
      have HTA:=Lib.hid ta
      have HTM:=Lib.hid tm
      have HTL:=Lib.hid hTl
      have HTC:=Lib.hid hTc
      have HTK:=Lib.hid htk2
      clear hq hb2 hM2 hT ta ca tm hTl hTc htk2
      go_wp2_with fail
      refine hp.mono ?_
      rintro e w3 ⟨rfl,⟨sb3,vs3,bs3,hM3⟩,t3⟩
      clear hp q0 q1 q2 q3
      have hsl : slotOf T.length x.k < T.length:=slotOf_lt _ hF.1
      obtain ⟨v3,l3,b3,f1,f2,f3,hrow3⟩:=hM3.at_ hsl
      have hll3 : l3.length ≤ 400000:=Nat.le_trans (row_le_flat T l3 (List.mem_of_getElem? f2)) HTC.out
      have ca3:=HCA.out.tch t3 (show ¬ wr.heap.size=tb by omega)
      have p0:=ca3.cell 0 rfl
      have p1:=ca3.cell 1 rfl
      have p2:=ca3.cell 2 rfl
      have p3:=ca3.cell 3 rfl
      have c4':=hM3.tab.cell 4 rfl
      have s4':=hM3.slots.cell _ f1
      have hsli : ((slotOf T.length x.k : Nat) : Int) < (T.length : Int):=by omega
      have hsl3:=hM3.slots.lt
      have htl3:=hM3.tab.lt
      have hgl3:=ca3.lt
      have HM3:=Lib.hid hM3
      have HT3:=Lib.hid t3
      have HR3:=Lib.hid hrow3
      have HF3:=Lib.hid f3
      have HC3:=Lib.hid ca3
      have F1:=Lib.hid f1
      have F2:=Lib.hid f2
      clear hM3 t3 hrow3 ca3 f1 f3 f2
      obtain ⟨i0,hi0,hz0,hz1,hz2⟩:=info_parts info_item
      go_wp2
      have hbg : b3 ≠ some wr.heap.size:=fun e=>by
       rcases HM3.out.ownR _ (e ▸ List.mem_of_getElem? HF3.out) with h | ⟨h,_⟩
       ·exact absurd (HN0.out _ h) (Nat.lt_irrefl _)
       ·have q : (wr.alloc (.cells #[.string x.k,.string x.v,.int .i64 x.ver,.int .i64 x.unt] TItem)).heap.size=wr.heap.size + 1:=by simp
        omega
      have mk : ∀ W' : World,Tch (fun k=>b3=some k) w3 W'→(W'.cell? ⟨tb,4,none⟩=some (.slice (some ⟨sb3,0,none⟩) T.length T.length)∧W'.cell? ⟨sb3,slotOf T.length x.k,none⟩=some v3∧W'.cell? ⟨wr.heap.size,0,none⟩=some (.string x.k)∧W'.cell? ⟨wr.heap.size,1,none⟩=some (.string x.v)∧W'.cell? ⟨wr.heap.size,2,none⟩=some (.int .i64 x.ver)∧W'.cell? ⟨wr.heap.size,3,none⟩=some (.int .i64 x.unt)):=fun W' t=>⟨(HM3.out.tab.tch t (HR3.out.ne HM3.out.tab (by decide))).cell 4 rfl,(HM3.out.slots.tch t (HR3.out.ne HM3.out.slots (by decide))).cell _ F1.out,(HC3.out.tch t hbg).cell 0 rfl,(HC3.out.tch t hbg).cell 1 rfl,(HC3.out.tch t hbg).cell 2 rfl,(HC3.out.tch t hbg).cell 3 rfl⟩
      refine start_ (n:=17) (S:=fun W'=>W'.cell? ⟨tb,4,none⟩=some (.slice (some ⟨sb3,0,none⟩) T.length T.length)∧W'.cell? ⟨sb3,slotOf T.length x.k,none⟩=some v3∧W'.cell? ⟨wr.heap.size,0,none⟩=some (.string x.k)∧W'.cell? ⟨wr.heap.size,1,none⟩=some (.string x.v)∧W'.cell? ⟨wr.heap.size,2,none⟩=some (.int .i64 x.ver)∧W'.cell? ⟨wr.heap.size,3,none⟩=some (.int .i64 x.unt)) (ds:=[16]) _ (by kernel_rfl) rfl rfl (mk _ (Tch.drew _ _)) (fun hHeld=>?_)
      refine pu_ 0 (some 39) ?_
      refine pu_ 1 (some 40) ?_
      refine pu_ 2 (some 41) ?_
      refine pu_ 4 (some 43) ?_
      refine pu_ 5 (some 44) ?_
      refine pu_ 6 (some 45) ?_
      refine pu_ 7 (some 46) ?_
      refine pu_ 9 (some 48) ?_
      refine ta_ 3 (some 42) hHeld ?_
      refine ta_ 8 (some 47) hHeld ?_
      refine pu_ 10 (some 49) ?_
      refine ta_ 11 (some 50) hHeld ?_
      refine ta_ 12 (some 51) hHeld ?_
      refine on_ 13 (some 52) fun K hK=>?_
      go_simp
      refine hK.out _ _ (mk _ (((Tch.refl _ w3).talloc).tdrew)) (fun hHeld2_=>?_)
      clear hK K hHeld;have hHeld:=hHeld2_;clear hHeld2_
      refine nm_ (some 52) ?_
      refine on_ 14 (some 53) fun K hK=>?_
      refine step_append_lies _ (by rfl) _ _ _ (by rfl) 0 TItem i0 zeroItem 4 48 Tryz.underlying46 hi0 hz0 hz1 hz2 rfl (by decide) v3 l3.length (rowOf l3) (by rfl) (ownsRow_tch HR3.out.own.1 (((Tch.refl (fun _=>False) w3).talloc).tdrew) (fun _ h=>h.elim)) ⟨w3.heap.size,0,none⟩ 1 1 x.cells (by rfl) (by rfl) (World.news_of_block (cs:=#[.string x.k,.string x.v,.int .i64 x.ver,.int .i64 x.unt]) (t:=TItem) (fr:=(0,0)) (heap_alloc_new w3 _)) (by simp [It.cells,Value.oneCell']) (by decide) (by unfold maxLen;omega) (by omega) (by simp) (w3.heap.size + 1) (by simp) ?_;intro g cap w5 hown5 hgr hat hlt;have t5:=HR3.out.grown (((Tch.refl (fun _=>False) w3).talloc).tdrew) hgr;have s5:=(HM3.out.slots.tch t5 (HR3.out.ne HM3.out.slots (by decide))).cell _ F1.out;have z5:=(HM3.out.slots.tch t5 (HR3.out.ne HM3.out.slots (by decide))).frozen (slotOf T.length x.k)
      refine hK.out _ _ (mk _ t5) (fun hHeld2_=>?_)
      clear hK K hHeld;have hHeld:=hHeld2_;clear hHeld2_
      refine nm_ (some 53) ?_
      refine pu_ 15 (some 54) ?_
      refine la_ 16 none fun K hK=>?_
      refine skip_ (w1:=?_) (by rfl) rfl ?_ ?_;rotate_left;· (go_simp;rfl)
      refine hK.out _ _ ?_
      clear hK K
      refine nm_ none ?_
      refine done_ (by kernel_rfl) ?_;clear hHeld
      all_goals
       obtain ⟨hM6,t6⟩:=HM3.out.turned (l':=l3 ++ [x]) hsl HF3.out t5 (RowIs.snoc hown5) (HR3.out.fresh hat (by simp)) (HR3.out.ne HM3.out.slots (by decide)) (HR3.out.ne HM3.out.tab (by decide))
       obtain ⟨W7,hW7⟩ : ∃ W7,w5.setCell ⟨sb3,slotOf T.length x.k,none⟩ (.slice (some ⟨g,0,none⟩) (l3.length + 1) cap)=W7:=⟨_,rfl⟩
       rw [hW7] at hM6 t6 ⊢
       have hins : T.set (slotOf T.length x.k) (l3 ++ [x])=insS T x:=by
        unfold insS
        rw [List.getD_eq_getElem?_getD,F2.out]
        rfl
       rw [hins] at hM6
       have hmid7 : Mid w tb (2 * ss.length) n ((ss.take j).flatten ++ l.take (i + 1)) W7:=by
        have q1:=HTM.out.size
        have q2:=HTA.out.size
        have q3:=HT3.out.size
        have q6:=t6.size
        have ho : ∀ k,Own (Own (Own (fun k=>k=tb) w wr) (wr.alloc (.cells #[.string x.k,.string x.v,.int .i64 x.ver,.int .i64 x.unt] TItem)) w3) w3 W7 k→Own (fun k=>k=tb) w W7 k:=
         Own.comp (a:=w3) (Own.comp (a:=wr) (fun k h=>h) (Nat.le_trans q1 q2) (Nat.le_refl _) (Nat.le_trans q2 q3)) (Nat.le_trans q1 (Nat.le_trans q2 q3)) (Nat.le_refl _) q6
        have hold : ∀ k,Own (Own (fun k=>k=tb) w wr) (wr.alloc (.cells #[.string x.k,.string x.v,.int .i64 x.ver,.int .i64 x.unt] TItem)) w3 k→k < w.heap.size→k=tb:=by
         intro k h hk
         exact Own.old (O:=fun k=>k=tb) (w:=w) (a:=wr) (Own.old (O:=Own (fun k=>k=tb) w wr) h (Nat.lt_of_lt_of_le hk (Nat.le_trans q1 q2))) hk
        have t7 : Tch (fun k=>k=tb) w W7:=((HTM.out.trans HTA.out (fun _ _ h=>h.elim)).trans HT3.out (fun _ _ h=>h)).trans t6 (fun k hk h=>by
         rcases h with h | h
         ·subst h
          exact hold _ HM3.out.ownS hk
         ·exact hold _ (HM3.out.ownR k (h ▸ List.mem_of_getElem? HF3.out)) hk)
        refine ⟨t7,?_⟩
        rw [HTK.out]
        exact ⟨sb3,_,_,hM6.mono ho (Own.lt (fun k h=>by rw [h];exact htl) t7.size)⟩
       have HMJ:=Lib.hid hmid7
       clear hM6 t6 t5 s5 z5 hown5 hgr hat hlt hmid7 hW7 mk c4' s4' p0 p1 p2 p3
       go_wp2
       go_roundg (l.length - (i + 1))
       case measure=>omega
       case rel=>exact ⟨i + 1,congrArg (Value.int .i64) (by omega),by omega,HMJ.out⟩
end Go.Proofs.YtkekohmkaefdnaaGreatDoor
namespace Go.Proofs.YtkekohmkaefdnaaGreatDoor
open Go.RowKit Go.Maps Go.Shelf Go.Proofs.YtkekohmkaefdnaaGreatDoorW.PrintWords Go.Proofs.YtkekohmkaefdnaaGreatDoorW.PrintLast
attribute [local go_sem ↓] Go.wp_at_zero Go.wp_at_succ
def putS (ss : List (List It)) (x : It) : List (List It):=if ss.length < (insS ss x).flatten.length then growS (insS ss x) else insS ss x
theorem idxFrom_neg (key : ByteArray) (l : List It) (h : findK l key=none) : idxFrom key l 0=-1:=by
 rcases idxFrom_spec key l 0 with ⟨h1,_⟩ | ⟨i,x,_,_,h3,_⟩
 ·exact h1
 ·rw [h] at h3;cases h3
theorem insS_keys {ss : List (List It)} {x : It} (h0 : 0 < ss.length) (P : ByteArray→Prop) (hx : P x.k) (h : ∀ l ∈ ss,∀ y ∈ l,P y.k) : ∀ l ∈ insS ss x,∀ y ∈ l,P y.k:=by
 intro l hl y hy
 unfold insS at hl
 rcases List.mem_or_eq_of_mem_set hl with hl | rfl
 ·exact h l hl y hy
 ·rcases List.mem_append.1 hy with hy | hy
  ·have hs:=slotOf_lt x.k h0
   rw [List.getD_eq_getElem?_getD,List.getElem?_eq_getElem hs] at hy
   exact h _ (List.getElem_mem hs) y hy
  ·obtain rfl:=List.mem_singleton.1 hy
   exact hx
theorem tput_gen (tb : Nat) (x : It) (ss : List (List It)) (n : Int) (O : Nat→Prop) (w : World) (hT : TabI w tb ss n O) (hk : x.k.size ≤ 1000000) (hno : lookS ss x.k=none) (h0 : 0 < ss.length) (h1 : ss.length ≤ 200000) (h2 : ss.flatten.length ≤ 200000) (hks : ∀ l ∈ ss,∀ y ∈ l,y.k.size ≤ 1000000) (hn : n=(ss.flatten.length : Int)) :
  Calls Tryz.prog 222 #[.pointer (some ⟨tb,0,none⟩),x.val] w fun e w'=>e=.returned (.bool true)∧(∃ sb vs bs,TabM w' tb sb vs bs (putS ss x) (n + 1) (Own O w w'))∧Tch O w w':=by
 have hF : Few ss:=few_of h0 (by omega) (by omega)
 have hlt:=hT.lt
 have hOT:=hT.ownT
 have htb:=hlt _ hOT
 have ta : Tch (fun _=>False) w (w.alloc (.cells #[.string x.k,.string x.v,.int .i64 x.ver,.int .i64 x.unt] TItem)):=Tch.alloc _ _ _
 have ca : At (w.alloc (.cells #[.string x.k,.string x.v,.int .i64 x.ver,.int .i64 x.unt] TItem)) w.heap.size x.cells TItem:=At.new _ _ _
 have hp:=place_gen tb x.k ss n O _ (hT.tch ta (fun _ _ h=>h)) hk hF
 have hidx : idxFrom x.k (ss.getD (slotOf ss.length x.k) []) 0=-1:=idxFrom_neg _ _ hno
 rw [hidx] at hp
 have a0:=ca.cell 0 rfl
 have HCA:=Lib.hid ca
 have HTA:=Lib.hid ta
 have HLT:=Lib.hid hlt
 clear hT ca ta hlt hidx hno
 go_enter Tryz.func222,Tryz.ntmps222
 go_wp2_with fail
 refine hp.mono ?_
 rintro e w3 ⟨rfl,⟨sb3,vs3,bs3,hM3⟩,t3⟩
 clear hp a0
 have hsl : slotOf ss.length x.k < ss.length:=slotOf_lt _ h0
 obtain ⟨v3,l3,b3,f1,f2,f3,hrow3⟩:=hM3.at_ hsl
 have hll3 : l3.length ≤ 200000:=Nat.le_trans (row_le_flat ss l3 (List.mem_of_getElem? f2)) h2
 have ca3:=HCA.out.tch t3 (show ¬ w.heap.size=tb by omega)
 have hsli : ((slotOf ss.length x.k : Nat) : Int) < (ss.length : Int):=by omega
 have hsl3:=hM3.slots.lt
 have htl3:=hM3.tab.lt
 have hgl3:=ca3.lt
 have HM3:=Lib.hid hM3
 have HT3:=Lib.hid t3
 have HR3:=Lib.hid hrow3
 have HF3:=Lib.hid f3
 have HC3:=Lib.hid ca3
 have F1:=Lib.hid f1
 have F2:=Lib.hid f2
 clear hM3 t3 hrow3 ca3 f1 f3 f2
 obtain ⟨i0,hi0,hz0,hz1,hz2⟩:=info_parts info_item
 have hbg : b3 ≠ some w.heap.size:=fun e=>by
  rcases HM3.out.ownR _ (e ▸ List.mem_of_getElem? HF3.out) with h | ⟨h,_⟩
  ·exact absurd (HLT.out _ h) (Nat.lt_irrefl _)
  ·have q : (w.alloc (.cells #[.string x.k,.string x.v,.int .i64 x.ver,.int .i64 x.unt] TItem)).heap.size=w.heap.size + 1:=by simp
   omega
 have mk : ∀ W' : World,Tch (fun k=>b3=some k) w3 W'→(W'.cell? ⟨tb,4,none⟩=some (.slice (some ⟨sb3,0,none⟩) ss.length ss.length)∧W'.cell? ⟨sb3,slotOf ss.length x.k,none⟩=some v3∧W'.cell? ⟨w.heap.size,0,none⟩=some (.string x.k)∧W'.cell? ⟨w.heap.size,1,none⟩=some (.string x.v)∧W'.cell? ⟨w.heap.size,2,none⟩=some (.int .i64 x.ver)∧W'.cell? ⟨w.heap.size,3,none⟩=some (.int .i64 x.unt)):=fun W' t=>⟨(HM3.out.tab.tch t (HR3.out.ne HM3.out.tab (by decide))).cell 4 rfl,(HM3.out.slots.tch t (HR3.out.ne HM3.out.slots (by decide))).cell _ F1.out,(HC3.out.tch t hbg).cell 0 rfl,(HC3.out.tch t hbg).cell 1 rfl,(HC3.out.tch t hbg).cell 2 rfl,(HC3.out.tch t hbg).cell 3 rfl⟩
 go_wp2
 refine start_ (n:=17) (S:=fun W'=>W'.cell? ⟨tb,4,none⟩=some (.slice (some ⟨sb3,0,none⟩) ss.length ss.length)∧W'.cell? ⟨sb3,slotOf ss.length x.k,none⟩=some v3∧W'.cell? ⟨w.heap.size,0,none⟩=some (.string x.k)∧W'.cell? ⟨w.heap.size,1,none⟩=some (.string x.v)∧W'.cell? ⟨w.heap.size,2,none⟩=some (.int .i64 x.ver)∧W'.cell? ⟨w.heap.size,3,none⟩=some (.int .i64 x.unt)) (ds:=[16]) _ (by kernel_rfl) rfl rfl (mk _ (Tch.drew _ _)) (fun hHeld=>?_)
 refine pu_ 0 (some 28) ?_
 refine pu_ 1 (some 29) ?_
 refine pu_ 2 (some 30) ?_
 refine pu_ 4 (some 32) ?_
 refine pu_ 5 (some 33) ?_
 refine pu_ 6 (some 34) ?_
 refine pu_ 7 (some 35) ?_
 refine pu_ 9 (some 37) ?_
 refine ta_ 3 (some 31) hHeld ?_
 refine ta_ 8 (some 36) hHeld ?_
 refine pu_ 10 (some 38) ?_
 refine ta_ 11 (some 39) hHeld ?_
 refine ta_ 12 (some 40) hHeld ?_
 refine on_ 13 (some 41) fun K hK=>?_
 go_simp
 refine hK.out _ _ (mk _ (((Tch.refl _ w3).talloc).tdrew)) (fun hHeld2_=>?_)
 clear hK K hHeld;have hHeld:=hHeld2_;clear hHeld2_
 refine nm_ (some 41) ?_
 refine on_ 14 (some 42) fun K hK=>?_
 refine step_append_lies _ (by rfl) _ _ _ (by rfl) 0 TItem i0 zeroItem 4 48 Tryz.underlying46 hi0 hz0 hz1 hz2 rfl (by decide) v3 l3.length (rowOf l3) (by rfl) (ownsRow_tch HR3.out.own.1 (((Tch.refl (fun _=>False) w3).talloc).tdrew) (fun _ h=>h.elim)) ⟨w3.heap.size,0,none⟩ 1 1 x.cells (by rfl) (by rfl) (World.news_of_block (cs:=#[.string x.k,.string x.v,.int .i64 x.ver,.int .i64 x.unt]) (t:=TItem) (fr:=(0,0)) (heap_alloc_new w3 _)) (by simp [It.cells,Value.oneCell']) (by decide) (by unfold maxLen;omega) (by omega) (by simp) (w3.heap.size + 1) (by simp) ?_;intro g cap w5 hown5 hgr hat hlt;have t5:=HR3.out.grown (((Tch.refl (fun _=>False) w3).talloc).tdrew) hgr;have s5:=(HM3.out.slots.tch t5 (HR3.out.ne HM3.out.slots (by decide))).cell _ F1.out;have z5:=(HM3.out.slots.tch t5 (HR3.out.ne HM3.out.slots (by decide))).frozen (slotOf ss.length x.k)
 refine hK.out _ _ (mk _ t5) (fun hHeld2_=>?_)
 clear hK K hHeld;have hHeld:=hHeld2_;clear hHeld2_
 refine nm_ (some 42) ?_
 refine pu_ 15 (some 43) ?_
 refine la_ 16 none fun K hK=>?_
 refine skip_ (w1:=?_) (by rfl) rfl ?_ ?_;rotate_left;· (go_simp;rfl)
 refine hK.out _ _ ?_
 clear hK K
 refine nm_ none ?_
 refine done_ (by kernel_rfl) ?_;clear hHeld
 obtain ⟨hM6,t6⟩:=HM3.out.turned (l':=l3 ++ [x]) hsl HF3.out t5 (RowIs.snoc hown5) (HR3.out.fresh hat (by simp)) (HR3.out.ne HM3.out.slots (by decide)) (HR3.out.ne HM3.out.tab (by decide))
 obtain ⟨W7,hW7⟩ : ∃ W7,w5.setCell ⟨sb3,slotOf ss.length x.k,none⟩ (.slice (some ⟨g,0,none⟩) (l3.length + 1) cap)=W7:=⟨_,rfl⟩
 rw [hW7] at hM6 t6 ⊢
 have hins : ss.set (slotOf ss.length x.k) (l3 ++ [x])=insS ss x:=by
  unfold insS
  rw [List.getD_eq_getElem?_getD,F2.out]
  rfl
 rw [hins] at hM6
 have hM7 : ∃ vs7 bs7,TabM W7 tb sb3 vs7 bs7 (insS ss x) n (Own O w W7)∧Tch O w W7:=by
  have q2:=HTA.out.size
  have q3:=HT3.out.size
  have q6:=t6.size
  have t7 : Tch O w W7:=((HTA.out.mono (fun _ _ h=>h.elim)).trans HT3.out (fun k _ h=>by rw [h];exact hOT)).trans t6 (fun k hk h=>by
   rcases h with h | h
   ·subst h
    exact Own.old HM3.out.ownS (Nat.lt_of_lt_of_le hk q2)
   ·exact Own.old (HM3.out.ownR k (h ▸ List.mem_of_getElem? HF3.out)) (Nat.lt_of_lt_of_le hk q2))
  exact ⟨_,_,hM6.mono (Own.comp (a:=w3) (fun k h=>h.elim .inl (fun h=>.inr ⟨Nat.le_trans q2 h.1,h.2⟩)) (Nat.le_trans q2 q3) (Nat.le_refl _) q6) (Own.lt HLT.out t7.size),t7⟩
 obtain ⟨vs7,bs7,hM8,t8⟩:=hM7
 have hadd:=fun W (t : Tch (fun _=>False) W7 W)=>i64_add ⟨tb,5,none⟩ n 1 (n + 1) W ((hM8.tab.tch t (fun h=>h)).cell 5 rfl) ((hM8.tab.tch t (fun h=>h)).frozen 5) q43_
 have hlen : (insS ss x).length=ss.length:=insS_length ss x
 have hcnt:=insS_count ss x h0
 have c4:=hM8.tab.cell 4 rfl
 rw [hlen] at c4
 have HM8:=Lib.hid hM8
 have HT8:=Lib.hid t8
 have htl8:=hM8.tab.lt
 clear hM6 t6 t5 s5 z5 hown5 hgr hat hlt hM8 t8 hW7 mk hins hbg HM3 HT3 HR3 HF3 HC3 F1 F2 HCA HTA
 have hn1 : (n : Int) + 1=((insS ss x).flatten.length : Int):=by rw [hcnt,hn];omega
 have hfl : (insS ss x).flatten.length ≤ 400000:=by omega
 have hgr2 : (insS ss x).flatten.length=ss.flatten.length + 1:=hcnt
 have HN1:=Lib.hid hn1
 clear hn hcnt hn1 hgr2
 by_cases hgr : (ss.length : Int) < n + 1
 ·go_wp2
  refine start_ (n:=10) (S:=fun W'=>W'.cell? ⟨tb,4,none⟩=some (.slice (some ⟨sb3,0,none⟩) ss.length ss.length)) (ds:=[]) _ (by kernel_rfl) rfl rfl (c4) (fun hHeld=>?_)
  refine pu_ 0 (some 44) ?_
  refine pu_ 1 (some 45) ?_
  refine pu_ 2 (some 46) ?_
  refine pu_ 4 (some 48) ?_
  refine pu_ 5 (some 49) ?_
  refine pu_ 6 (some 50) ?_
  refine ta_ 7 (some 51) hHeld ?_
  refine pu_ 8 (some 52) ?_
  refine on_ 3 (some 47) fun K hK=>?_
  go_simp;go_at_call 55;refine (hadd _ (Tch.drew _ _)).mono ?_;rintro e w6 ⟨rfl,rfl⟩;go_simp
  refine hK.out _ _ ((World.cell?_setCell_other _ _ _ _ (by simp)).trans c4) (fun hHeld2_=>?_)
  clear hK K hHeld;have hHeld:=hHeld2_;clear hHeld2_
  refine nm_ (some 47) ?_
  refine pu_ 9 (some 53) ?_
  refine done_ (by kernel_rfl) ?_;clear hHeld
  obtain ⟨W8,hW8⟩ : ∃ W8,(W7.setCell ⟨tb,5,none⟩ (.int .i64 (n + 1))).drew=W8:=⟨_,rfl⟩
  have hM9:=(HM8.out.counted (n + 1)).tch (Tch.drew (fun _=>False) _) (fun _ _ h=>h)
  have t9 : Tch (fun k=>k=tb) W7 (W7.setCell ⟨tb,5,none⟩ (.int .i64 (n + 1))).drew:=(Tch.set W7 ⟨tb,5,none⟩ _).tdrew
  rw [hW8] at hM9 t9 ⊢
  have hgrow:=grow_gen tb sb3 vs7 bs7 (insS ss x) (n + 1) _ W8 hM9 (by omega) (by omega) hfl (insS_keys h0 (fun k=>k.size ≤ 1000000) hk hks)
  have T9:=Lib.hid t9
  clear hM9 t9 hadd c4 hW8
  go_wp2_with (go_at_call 281;refine hgrow.mono ?_;rintro e w9 ⟨rfl,tm,sbm,vsm,bsm,hMm⟩)
  go_ret
  have q8:=HT8.out.size
  have q9:=T9.out.size
  have t10 : Tch O w w9:=(HT8.out.trans T9.out (fun k _ h=>by rw [h];exact hOT)).trans tm (fun k _ h=>by rw [h];exact hOT)
  have hput : putS ss x=growS (insS ss x):=if_pos (by have:=HN1.out;omega)
  rw [hput]
  refine ⟨rfl,⟨sbm,vsm,bsm,hMm.mono ?_ (Own.lt HLT.out t10.size)⟩,t10⟩
  rintro k (h | ⟨h,h'⟩)
  ·rw [h];exact .inl hOT
  ·exact .inr ⟨Nat.le_trans q8 (Nat.le_trans q9 h),h'⟩
 ·go_wp2
  refine start_ (n:=10) (S:=fun W'=>W'.cell? ⟨tb,4,none⟩=some (.slice (some ⟨sb3,0,none⟩) ss.length ss.length)) (ds:=[]) _ (by kernel_rfl) rfl rfl (c4) (fun hHeld=>?_)
  refine pu_ 0 (some 44) ?_
  refine pu_ 1 (some 45) ?_
  refine pu_ 2 (some 46) ?_
  refine pu_ 4 (some 48) ?_
  refine pu_ 5 (some 49) ?_
  refine pu_ 6 (some 50) ?_
  refine ta_ 7 (some 51) hHeld ?_
  refine pu_ 8 (some 52) ?_
  refine on_ 3 (some 47) fun K hK=>?_
  go_simp;go_at_call 55;refine (hadd _ (Tch.drew _ _)).mono ?_;rintro e w6 ⟨rfl,rfl⟩;go_simp
  refine hK.out _ _ ((World.cell?_setCell_other _ _ _ _ (by simp)).trans c4) (fun hHeld2_=>?_)
  clear hK K hHeld;have hHeld:=hHeld2_;clear hHeld2_
  refine nm_ (some 47) ?_
  refine pu_ 9 (some 53) ?_
  refine done_ (by kernel_rfl) ?_;clear hHeld
  obtain ⟨W8,hW8⟩ : ∃ W8,(W7.setCell ⟨tb,5,none⟩ (.int .i64 (n + 1))).drew=W8:=⟨_,rfl⟩
  have hM9:=(HM8.out.counted (n + 1)).tch (Tch.drew (fun _=>False) _) (fun _ _ h=>h)
  have t9 : Tch (fun k=>k=tb) W7 (W7.setCell ⟨tb,5,none⟩ (.int .i64 (n + 1))).drew:=(Tch.set W7 ⟨tb,5,none⟩ _).tdrew
  rw [hW8] at hM9 t9 ⊢
  have T9:=Lib.hid t9
  have HM9:=Lib.hid hM9
  clear hM9 t9 hadd c4 hW8
  go_wp2
  go_ret
  have t10 : Tch O w W8:=HT8.out.trans T9.out (fun k _ h=>by rw [h];exact hOT)
  have hput : putS ss x=insS ss x:=if_neg (by have:=HN1.out;omega)
  rw [hput]
  have q9:=T9.out.size
  refine ⟨rfl,⟨sb3,vs7,bs7,HM9.out.mono ?_ (Own.lt HLT.out t10.size)⟩,t10⟩
  rintro k (h | ⟨h,h'⟩)
  ·exact .inl h
  ·exact .inr ⟨h,Nat.lt_of_lt_of_le h' q9⟩
end Go.Proofs.YtkekohmkaefdnaaGreatDoor
namespace Go.Proofs.YtkekohmkaefdnaaGreatDoor
open Go.RowKit Go.Maps Go.Shelf Go.Sort Go.Lib
attribute [local go_sem ↓] Go.wp_at_zero Go.wp_at_succ
abbrev TStr : Nat:=9
inductive StrIs (w : World) : Value→List ByteArray→Option Nat→Prop
 | nil : StrIs w (.slice none 0 0) [] none
 | row (l : List ByteArray) (b c : Nat) (zs : List Value) (h : At w b (l.map Value.string ++ zs) TStr) (hc : l.length ≤ c) (hm : c ≤ maxLen) (hz : zs.length=c - l.length) : StrIs w (.slice (some ⟨b,0,none⟩) l.length c) l (some b)
theorem StrIs.tch {w w1 : World} {v : Value} {l : List ByteArray} {b : Option Nat} {S : Nat→Prop} (h : StrIs w v l b) (t : Tch S w w1) (hb : ∀ g,b=some g→¬ S g) : StrIs w1 v l b:=by
 cases h with
 | nil=>exact .nil
 | row l b c zs h hc hm hz=>exact .row l b c zs (h.tch t (hb b rfl)) hc hm hz
theorem StrIs.lt {w : World} {v : Value} {l : List ByteArray} {g : Nat} (h : StrIs w v l (some g)) : g < w.heap.size:=by
 cases h with
 | row l b c zs h hc hm hz=>exact h.lt
theorem StrIs.own {w : World} {v : Value} {l : List ByteArray} {b : Option Nat} (h : StrIs w v l b) : w.ownsRow 0 TStr 1 v l.length (l.map Value.string)∧v.ownBlock=b:=by
 cases h with
 | nil=>exact ⟨World.ownsRow_nil _ _ _ _,rfl⟩
 | row l b c zs h hc hm hz=>
  refine ⟨⟨by rw [List.length_map,Nat.mul_one],.inr ⟨b,c,_,rfl,Nat.zero_le _,h,hc,hm,?_,?_⟩⟩,rfl⟩
  ·rw [List.size_toArray,List.length_append,List.length_map,hz];omega
  ·rw [show (l.map Value.string ++ zs).toArray.toList=l.map Value.string ++ zs from rfl,show l.length * 1=(l.map Value.string).length from by rw [List.length_map,Nat.mul_one],List.take_left]
theorem StrIs.of_own {w : World} {base : Nat} {v : Value} {l : List ByteArray} (h : w.ownsRow base TStr 1 v l.length (l.map Value.string)) : StrIs w v l v.ownBlock:=by
 obtain ⟨hl,⟨rfl,h0⟩ | ⟨g,cap,cur,rfl,_,hh,hc,hm,hs,ht⟩⟩:=h
 ·obtain rfl:=List.length_eq_zero_iff.1 h0
  exact .nil
 ·refine .row l g cap (cur.toList.drop (l.length * 1)) ?_ hc hm ?_
  ·have e : l.map Value.string ++ cur.toList.drop (l.length * 1)=cur.toList:=by rw [← ht,List.take_append_drop]
   unfold At
   rw [e]
   exact hh
  ·rw [List.length_drop,Array.length_toList,hs];omega
theorem StrIs.ne {w : World} {v : Value} {l : List ByteArray} {b : Option Nat} {k t : Nat} {cs : List Value} (h : StrIs w v l b) (hk : At w k cs t) (ht : t ≠ TStr) : b ≠ some k:=by
 intro e
 subst e
 cases h with
 | row l g c zs h6 _ _ _=>exact at_ne2 h6 hk (fun e=>ht e.symm) rfl
theorem At.putRow {α : Type} [Inhabited α] {w : World} {b t : Nat} {zs : List Value} (enc : α→Value) (d0 d : List α) (h : At w b (d0.map enc ++ zs) t) (hl : d.length=d0.length) : At (Sort.putRow enc w b 0 d.toArray) b (d.map enc ++ zs) t:=by
 unfold At Sort.putRow mapBlock
 simp only [Array.getElem?_modify]
 rw [if_pos trivial,show w.heap[b]? = some (.cells (d0.map enc ++ zs).toArray t (0,0)) from h]
 simp only [Option.map_some,onCells]
 congr 2
 unfold putCells
 apply Array.ext_getElem?
 intro k
 simp only [Array.getElem?_mapIdx,List.getElem?_toArray,List.size_toArray,Nat.zero_le,true_and,Nat.zero_add,Nat.sub_zero]
 by_cases hk : k < d.length
 ·rw [List.getElem?_append_left (by rw [List.length_map];omega),List.getElem?_append_left (by rw [List.length_map];exact hk),List.getElem?_map,List.getElem?_map,List.getElem?_eq_getElem (show k < d0.length by omega),List.getElem?_eq_getElem hk]
  simp [hk]
 ·rw [List.getElem?_append_right (by rw [List.length_map];omega),List.getElem?_append_right (by rw [List.length_map];omega),List.length_map,List.length_map,hl]
  cases zs[k - d0.length]? with
  | none=>rfl
  | some z=>
   simp [hk]
   omega
theorem At.holds {α : Type} [Inhabited α] {w : World} {b t : Nat} {zs : List Value} (enc : α→Value) (d : List α) (h : At w b (d.map enc ++ zs) t) : Holds enc w b 0 d.toArray:=by
 intro j hj
 have hj' : j < d.length:=by simpa using hj
 refine ⟨?_,h.frozen _⟩
 rw [Nat.zero_add]
 refine h.cell j ?_
 rw [List.getElem?_append_left (by rw [List.length_map];exact hj'),List.getElem?_map,List.getElem?_eq_getElem hj']
 simp [hj']
def sortK (l : List ByteArray) : List ByteArray:=((l.map fun s=>s.data.toList).mergeSort fun x y=>decide (x ≤ y)).map fun s=>⟨s.toArray⟩
theorem sortK_length (l : List ByteArray) : (sortK l).length=l.length:=by unfold sortK;rw [List.length_map,List.length_mergeSort,List.length_map]
theorem enc_map (l : List ByteArray) : (l.map fun s=>s.data.toList).map encStr=l.map Value.string:=by
 rw [List.map_map]
 refine List.map_congr_left fun s _=>?_
 simp [Function.comp]
theorem enc_sortK (l : List ByteArray) : ((l.map fun s=>s.data.toList).mergeSort fun x y=>decide (x ≤ y)).map encStr=(sortK l).map Value.string:=by
 unfold sortK
 rw [List.map_map]
 rfl
theorem sort_gen (v : Value) (l : List ByteArray) (b : Option Nat) (w : World) (h : StrIs w v l b) (hl : l.length ≤ 1000000) :
  Calls Tryz.prog 121 #[v] w fun e w'=>e=.returned (.tuple #[])∧StrIs w' v (sortK l) b∧Tch (fun k=>b=some k) w w':=by
 cases h with
 | nil=>
  have hs:=AnyM.slices_Sort_string_none Tryz.sortS none 0 w
  change Calls Tryz.prog 121 _ w _ at hs
  refine hs.mono ?_
  rintro e w' ⟨rfl,rfl⟩
  exact ⟨rfl,by rw [show sortK []=[] from by simp [sortK]];exact .nil,Tch.refl _ _⟩
 | row l g c zs h hc hm hz=>
  have hlt:=h.lt
  have h' : At w g ((l.map fun s=>s.data.toList).map encStr ++ zs) TStr:=by rw [enc_map];exact h
  have hH:=At.holds encStr (l.map fun s=>s.data.toList) h'
  have hs:=AnyM.slices_Sort_string Tryz.sortS g 0 c (l.map fun s=>s.data.toList) w hH hlt (by rw [List.length_map];omega)
  change Calls Tryz.prog 121 _ w _ at hs
  rw [List.length_map] at hs
  refine hs.mono ?_
  rintro e w' ⟨rfl,n,os,rfl⟩
  have t1 : Tch (fun k=>k=g) w (Sort.putRow encStr (Sort.ahead w n) g 0 ((l.map fun s=>s.data.toList).mergeSort fun x y=>decide (x ≤ y)).toArray):=(tch_ahead _ w n).trans (tch_putRow _ _ g 0 _) (fun _ _ h=>h)
  have a1:=At.putRow (w:=Sort.ahead w n) encStr (l.map fun s=>s.data.toList) ((l.map fun s=>s.data.toList).mergeSort fun x y=>decide (x ≤ y)) (show At (Sort.ahead w n) g ((l.map fun s=>s.data.toList).map encStr ++ zs) TStr from h') (List.length_mergeSort _)
  generalize Sort.putRow encStr (Sort.ahead w n) g 0 ((l.map fun s=>s.data.toList).mergeSort fun x y=>decide (x ≤ y)).toArray=W1 at t1 a1
  have tg : Tch (fun _=>False) W1 (grow W1 os):=⟨rfl,rfl,rfl,by simp [grow],fun k hk _=>by simp [grow,Array.getElem?_append_left hk]⟩
  have a2:=a1.tch tg (fun h=>h)
  rw [enc_sortK] at a2
  refine ⟨rfl,?_,(t1.trans tg (fun _ _ h=>h.elim)).mono (fun k _ h=>congrArg some h.symm)⟩
  have:=StrIs.row (sortK l) g c zs a2 (by rw [sortK_length];exact hc) hm (by rw [sortK_length];exact hz)
  rw [sortK_length] at this
  exact this
end Go.Proofs.YtkekohmkaefdnaaGreatDoor
namespace Go.Proofs.YtkekohmkaefdnaaGreatDoor
open Go.RowKit Go.Maps Go.Shelf
attribute [local go_sem ↓] Go.wp_at_zero Go.wp_at_succ
def Keyed (w : World) (ks : List ByteArray) (v : Value) (wr : World) : Prop:=Tch (fun _=>False) w wr∧∃ b,StrIs wr v ks b∧∀ g,b=some g→w.heap.size ≤ g
theorem StrIs.snoc {w : World} {base : Nat} {l : List ByteArray} {s : ByteArray} {g cap : Nat} (h : w.ownsRow base TStr 1 (.slice (some ⟨g,0,none⟩) (l.length + 1) cap) (l.length + 1) (l.map Value.string ++ [.string s])) : StrIs w (.slice (some ⟨g,0,none⟩) (l.length + 1) cap) (l ++ [s]) (some g):=by
 have e1 : (l ++ [s]).length=l.length + 1:=by rw [List.length_append];rfl
 have e2 : (l ++ [s]).map Value.string=l.map Value.string ++ [.string s]:=by rw [List.map_append];rfl
 rw [← e1,← e2] at h
 have:=StrIs.of_own h
 rw [e1] at this
 exact this
theorem StrIs.grown {w W w5 : World} {v : Value} {l : List ByteArray} {b : Option Nat} (h : StrIs w v l b) (t : Tch (fun _=>False) w W) (hg : W.grownBy w5 v.ownBlock) : Tch (fun k=>b=some k) w w5:=by
 have e:=h.own.2
 rw [e] at hg
 exact (t.mono (S':=fun k=>b=some k) (fun _ _ h=>h.elim)).trans (Tch.of_grown hg) (fun _ _ h=>h)
theorem keys_m (tb sb : Nat) (vs : List Value) (bs : List (Option Nat)) (ss : List (List It)) (n : Int) (O : Nat→Prop) (w : World) (hM : TabM w tb sb vs bs ss n O) (h1 : ss.length ≤ 1000000) (h2 : ss.flatten.length ≤ 1000000) :
  Calls Tryz.prog 86 #[.pointer (some ⟨tb,0,none⟩)] w fun e w'=>∃ v,e=.returned v∧Keyed w (sortK (ss.flatten.map It.k)) v w':=by
 have c4:=hM.tab.cell 4 rfl
 have HM:=Lib.hid hM
 clear hM
 obtain ⟨i0,hi0,hz0,hz1,hz2⟩:=info_parts info_str
 go_enter Tryz.func86,Tryz.ntmps86
 go_wp2
 go_loopg [3,15] ss.length (fun gg s3 s15 wr=>∃ j : Nat,s15=.int .i64 (j : Int)∧j + gg=ss.length∧Keyed w ((ss.take j).flatten.map It.k) s3 wr)
 case atStart=>exact ⟨0,rfl,by omega,Tch.refl _ _,none,.nil,fun g h=>by cases h⟩
 case round=>
  obtain ⟨j,rfl,hj,hky⟩:=hrel
  rcases Nat.eq_zero_or_pos gk with hg0 | hg0
  ·have hjl : ¬ (j : Int) < (ss.length : Int):=by omega
   obtain rfl : j=ss.length:=by omega
   rw [List.take_length] at hky
   obtain ⟨t,b,hs,hb⟩:=hky
   have hso:=sort_gen _ _ b wr hs (by rw [List.length_map];exact h2)
   have HT:=Lib.hid t
   clear hs t
   go_wp2_with (go_at_call 121;refine hso.mono ?_;rintro e w2 ⟨rfl,hs2,t2⟩)
   go_ret
   exact ⟨_,rfl,HT.out.trans t2 (fun k hk h=>by have:=hb k h;omega),b,hs2,hb⟩
  ·have hjl : (j : Int) < (ss.length : Int):=by omega
   have hjl' : j < ss.length:=by omega
   obtain ⟨v,l,b,e1,e2,e3,hrow⟩:=HM.out.at_ hjl'
   have s4:=(HM.out.slots.tch hky.1 (fun h=>h)).cell j e1
   have htk : (ss.take (j + 1)).flatten=(ss.take j).flatten ++ l:=by
    rw [List.take_add_one,e2,List.flatten_append]
    simp
   have hfl : ((ss.take j).flatten ++ l).length ≤ ss.flatten.length:=by
    rw [← htk]
    have h:=congrArg (fun q=>(List.flatten q).length) (List.take_append_drop (j + 1) ss)
    simp only [List.flatten_append,List.length_append] at h
    omega
   rw [List.length_append] at hfl
   have HKY:=Lib.hid hky
   have HTK:=Lib.hid htk
   clear hky htk
   cases hrow with
   | nil=>
    go_wp2
    go_loopg [3,21] 0 (fun gg s3 s21 wr2=>s21=.int .i64 0∧wr2=wr∧Keyed w ((ss.take j).flatten.map It.k) s3 wr)
    case atStart=>exact ⟨rfl,rfl,HKY.out⟩
    case round=>
     obtain ⟨rfl,rfl,hky⟩:=hrel
     have HKZ:=Lib.hid hky
     clear hky
     go_wp2
     go_roundg (ss.length - (j + 1))
     case measure=>omega
     case rel=>exact ⟨j + 1,congrArg (Value.int .i64) (by omega),by omega,by rw [HTK.out,List.append_nil];exact HKZ.out⟩
   | row _ b' c zs hb hc hm hz=>
    go_wp2
    go_loopg [3,21] l.length (fun gg s3 s21 wr2=>∃ i : Nat,s21=.int .i64 (i : Int)∧i + gg=l.length∧Keyed w (((ss.take j).flatten ++ l.take i).map It.k) s3 wr2)
    case atStart=>exact ⟨0,rfl,by omega,by rw [List.take_zero,List.append_nil];exact HKY.out⟩
    case round=>
     obtain ⟨i,rfl,hi,hky⟩:=hrel
     rcases Nat.eq_zero_or_pos gk with hg0' | hg0'
     ·have hil : ¬ (i : Int) < (l.length : Int):=by omega
      rw [List.take_of_length_le (show l.length ≤ i by omega),← HTK.out] at hky
      have HKZ:=Lib.hid hky
      clear hky
      go_wp2
      go_roundg (ss.length - (j + 1))
      case measure=>omega
      case rel=>exact ⟨j + 1,congrArg (Value.int .i64) (by omega),by omega,HKZ.out⟩
     ·have hil : (i : Int) < (l.length : Int):=by omega
      obtain ⟨x,hx⟩ : ∃ x,l[i]? = some x:=⟨_,List.getElem?_eq_getElem (by omega)⟩
      have hb2:=hb.tch hky.1 (fun h=>h)
      have hq : ∀ (m : Nat) (v : Value),m < 4→x.cells[m]? = some v→wr.cell? ⟨b',i * 4 + m,none⟩=some v:=fun m v hm hv=>hb2.cell (i * 4 + m) (by
       rw [Nat.mul_comm,List.getElem?_append_left (by rw [rowOf_length];omega),rowOf_get hx m hm,hv])
      have q0 : wr.cell? ⟨b',i * 4,none⟩=some (.string x.k):=hq 0 _ (by decide) rfl
      have q1:=hq 1 _ (by decide) rfl
      have q2:=hq 2 _ (by decide) rfl
      have q3:=hq 3 _ (by decide) rfl
      have hkk : ((ss.take j).flatten ++ l.take (i + 1)).map It.k=((ss.take j).flatten ++ l.take i).map It.k ++ [x.k]:=by
       rw [List.take_add_one,hx,← List.append_assoc,List.map_append]
       rfl
      have hkl : (((ss.take j).flatten ++ l.take i).map It.k).length ≤ 1000000:=by
       rw [List.length_map,List.length_append,List.length_take]
       omega
      generalize ((ss.take j).flatten ++ l.take i).map It.k=ks at hky hkk hkl
      obtain ⟨t,bk,hs,hbk⟩:=hky
      have hcap : ks.length + 1 ≤ maxLen:=by unfold maxLen;omega
      have HS:=Lib.hid hs
      have HT:=Lib.hid t
      have HKK:=Lib.hid hkk
      clear hq hb2 hs t hkk
      go_wp2_with (at_builtin;go_loud (refine wpList_append_lies _ (by rfl) _ _ _ (by rfl) 0 TStr i0 _ 1 16 Tryz.underlying36 hi0 hz0 hz1 hz2 rfl (by decide) _ ks.length (ks.map Value.string) (by rfl) (ownsRow_tch HS.out.own.1 (((Tch.refl (fun _=>False) wr).talloc).talloc) (fun _ h=>h.elim)) _ 1 1 [.string x.k] (by rfl) (by rfl) ?c1 (by simp [Value.oneCell']) (by decide) hcap (by omega) (by simp) _ rfl ?_);(case c1=>go_loud (exact World.news_of_block (cs:=#[.string x.k]) (t:=TStr) (fr:=(0,0)) (at_new' (wr.alloc (.cells #[.string x.k,.string x.v,.int .i64 x.ver,.int .i64 x.unt] TItem)) #[.string x.k] TStr (wr.heap.size + 1) (by simp))));intro g cap w5 hown5 hgr hat hlt)
      have t5:=HS.out.grown (((Tch.refl (fun _=>False) wr).talloc).talloc) hgr
      have hs5:=StrIs.snoc hown5
      have hky5 : Keyed w (ks ++ [x.k]) (.slice (some ⟨g,0,none⟩) (ks.length + 1) cap) w5:=by
       refine ⟨HT.out.trans t5 (fun k hk h=>?_),some g,hs5,fun g' hg'=>?_⟩
       ·have:=hbk k h;omega
       ·injection hg' with hg'
        subst hg'
        rcases hat with h | h
        ·rw [HS.out.own.2] at h
         exact hbk _ h
        ·have:=HT.out.size
         have e : (((wr.alloc (.cells #[.string x.k,.string x.v,.int .i64 x.ver,.int .i64 x.unt] TItem)).alloc (.cells #[.string x.k] TStr))).heap.size=wr.heap.size + 2:=by simp
         have h' : g=wr.heap.size + 2:=h.trans e
         omega
      rw [← HKK.out] at hky5
      have HK5:=Lib.hid hky5
      clear hky5 hs5 t5 hown5 hgr hat hlt q0 q1 q2 q3
      go_wp2
      go_roundg (l.length - (i + 1))
      case measure=>omega
      case rel=>exact ⟨i + 1,congrArg (Value.int .i64) (by omega),by omega,HK5.out⟩
theorem keys_gen (tb : Nat) (ss : List (List It)) (n : Int) (O : Nat→Prop) (w : World) (hT : TabI w tb ss n O) (h1 : ss.length ≤ 1000000) (h2 : ss.flatten.length ≤ 1000000) :
  Calls Tryz.prog 86 #[.pointer (some ⟨tb,0,none⟩)] w fun e w'=>∃ v,e=.returned v∧Keyed w (sortK (ss.flatten.map It.k)) v w':=by
 rcases hT with ⟨h,rfl,_⟩ | ⟨sb,vs,bs,h⟩
 ·refine (keys_nil tb false 0 w h).mono ?_
  rintro e w' ⟨rfl,rfl⟩
  refine ⟨_,rfl,Tch.refl _ _,none,?_,fun g h=>by cases h⟩
  rw [show sortK (slots8.flatten.map It.k)=[] from by simp [slots8,sortK]]
  exact .nil
 ·exact keys_m tb sb vs bs ss n O w h h1 h2
end Go.Proofs.YtkekohmkaefdnaaGreatDoor
namespace Go.Proofs.YtkekohmkaefdnaaGreatDoor
open Go.RowKit
theorem key_eq {a b : ByteArray} (h : (a.toList == b.toList)=true) : a=b:=by
 have h1 : a.toList=b.toList:=by simpa using h
 rw [Go.ByteArray.toList_eq,Go.ByteArray.toList_eq] at h1
 have h2 : a.data=b.data:=by
  rw [← Array.toArray_toList (xs:=a.data),h1,Array.toArray_toList]
 cases a
 cases b
 exact congrArg _ h2
theorem key_same {a b : ByteArray} : (a.toList == b.toList)=decide (a=b):=by
 by_cases h : a=b
 ·subst h
  rw [decide_eq_true rfl]
  exact beq_self_eq_true _
 ·rw [decide_eq_false h]
  cases hb : (a.toList == b.toList) with
  | false=>rfl
  | true=>exact absurd (key_eq hb) h
def cutL (L : List It) (key : ByteArray) : List It:=L.filter fun x=>!(x.k.toList == key.toList)
structure TabOK (ss : List (List It)) (L : List It) : Prop where
 perm : ss.flatten.Perm L
 slot : ∀ (i : Nat) (l : List It) (x : It),ss[i]? = some l→x ∈ l→slotOf ss.length x.k=i
 nodup : (L.map It.k).Nodup
 pos : 0 < ss.length
theorem TabOK.start : TabOK slots8 []:=by
 refine ⟨List.Perm.refl _,fun i l x h hx=>?_,List.nodup_nil,by decide⟩
 have:=List.mem_of_getElem? h
 simp [slots8] at this
 subst this
 cases hx
theorem nodup_key {L : List It} (h : (L.map It.k).Nodup) {x y : It} (hx : x ∈ L) (hy : y ∈ L) (e : x.k=y.k) : x=y:=by
 induction L with
 | nil=>cases hx
 | cons z L ih=>
  rw [List.map_cons,List.nodup_cons] at h
  rcases List.mem_cons.1 hx with rfl | hx' <;> rcases List.mem_cons.1 hy with rfl | hy'
  ·rfl
  ·exact absurd (e ▸ List.mem_map_of_mem hy') h.1
  ·exact absurd (e ▸ List.mem_map_of_mem hx') h.1
  ·exact ih h.2 hx' hy'
theorem findK_some {l : List It} {key : ByteArray} {x : It} (h : findK l key=some x) : x ∈ l∧x.k=key:=
 ⟨List.mem_of_find?_eq_some h,key_eq (List.find?_some (p:=fun x : It=>x.k.toList == key.toList) h)⟩
theorem findK_none {l : List It} {key : ByteArray} (h : findK l key=none) : ∀ x ∈ l,x.k ≠ key:=fun x hx e=>by
 have:=List.find?_eq_none.1 h x hx
 rw [e] at this
 simp at this
theorem findK_eq {l : List It} {key : ByteArray} {x : It} (hn : ∀ y ∈ l,y.k=key→y=x) (hx : x ∈ l) (hk : x.k=key) : findK l key=some x:=by
 cases h : findK l key with
 | none=>exact absurd hk (findK_none h x hx)
 | some y=>rw [hn y (findK_some h).1 (findK_some h).2]
theorem TabOK.look {ss : List (List It)} {L : List It} (h : TabOK ss L) (key : ByteArray) : lookS ss key=findK L key:=by
 have hs:=slotOf_lt key h.pos
 have e : ss[slotOf ss.length key]? = some (ss.getD (slotOf ss.length key) []):=by rw [List.getD_eq_getElem?_getD,List.getElem?_eq_getElem hs];rfl
 unfold lookS
 generalize ss.getD (slotOf ss.length key) []=l at e
 have hmem : ∀ x,x ∈ l→x ∈ L:=fun x hx=>h.perm.mem_iff.1 (List.mem_flatten.2 ⟨l,List.mem_of_getElem? e,hx⟩)
 cases hL : findK L key with
 | none=>
  cases hl : findK l key with
  | none=>rfl
  | some x=>exact absurd (findK_some hl).2 (findK_none hL x (hmem x (findK_some hl).1))
 | some x=>
  obtain ⟨hx,hxk⟩:=findK_some hL
  obtain ⟨l',hl',hxl⟩:=List.mem_flatten.1 (h.perm.mem_iff.2 hx)
  obtain ⟨i,hi⟩:=List.mem_iff_getElem?.1 hl'
  have:=h.slot i l' x hi hxl
  rw [hxk] at this
  rw [← this,e] at hi
  injection hi with hi
  subst hi
  exact findK_eq (fun y hy hyk=>nodup_key h.nodup (hmem y hy) hx (hyk.trans hxk.symm)) hxl hxk
theorem flatten_set_perm : ∀ (ss : List (List It)) (i : Nat) (l l' : List It),ss[i]? = some l→((ss.set i l').flatten ++ l).Perm (ss.flatten ++ l')
 | [],i,l,l',h=>by simp at h
 | y :: ss,0,l,l',h=>by
  obtain rfl : y=l:=by simpa using h
  rw [List.set_cons_zero,List.flatten_cons,List.flatten_cons,List.append_assoc,List.append_assoc]
  have e1 : (l' ++ (ss.flatten ++ y)).Perm ((ss.flatten ++ y) ++ l'):=List.perm_append_comm
  have e2 : ((ss.flatten ++ y) ++ l').Perm ((y ++ ss.flatten) ++ l'):=List.Perm.append_right _ List.perm_append_comm
  have e3:=e1.trans e2
  rwa [List.append_assoc] at e3
 | y :: ss,i + 1,l,l',h=>by
  rw [List.set_cons_succ,List.flatten_cons,List.flatten_cons,List.append_assoc,List.append_assoc]
  exact List.Perm.append_left _ (flatten_set_perm ss i l l' (by simpa using h))
theorem set_slot {ss : List (List It)} {i j : Nat} {l l' : List It} {x : It} {P : It→Prop} (h : (ss.set i l')[j]? = some l) (hx : x ∈ l) (h1 : ∀ m y,ss[j]? = some m→y ∈ m→P y) (h2 : i=j→∀ y ∈ l',P y) : P x:=by
 rcases getElem?_set_cases h with ⟨e,rfl,_⟩ | ⟨_,h⟩
 ·exact h2 e x hx
 ·exact h1 _ x h hx
theorem cut_perm : ∀ {L : List It} {key : ByteArray} {x : It},(L.map It.k).Nodup→x ∈ L→x.k=key→L.Perm (x :: cutL L key)
 | [],key,x,_,hx,_=>by cases hx
 | y :: L,key,x,hn,hx,hk=>by
  rw [List.map_cons,List.nodup_cons] at hn
  by_cases hy : y.k=key
  ·have hxy : y=x:=by
    rcases List.mem_cons.1 hx with h | h
    ·exact h.symm
    ·exact absurd (hy.trans hk.symm ▸ List.mem_map_of_mem h) hn.1
   subst hxy
   have hcut : cutL (y :: L) key=L:=by
    unfold cutL
    rw [List.filter_cons,key_same,decide_eq_true hy]
    show List.filter _ L=L
    refine List.filter_eq_self.2 fun z hz=>?_
    rw [key_same]
    have : z.k ≠ key:=fun e=>hn.1 ((hy.trans e.symm) ▸ List.mem_map_of_mem hz)
    simp [this]
   rw [hcut]
  ·have hx' : x ∈ L:=by
    rcases List.mem_cons.1 hx with h | h
    ·exact absurd (h ▸ hk) hy
    ·exact h
   have hcut : cutL (y :: L) key=y :: cutL L key:=by
    unfold cutL
    rw [List.filter_cons,key_same,decide_eq_false hy]
    rfl
   rw [hcut]
   exact ((cut_perm hn.2 hx' hk).cons y).trans (List.Perm.swap x y _)
theorem cut_none {L : List It} {key : ByteArray} (h : findK L key=none) : cutL L key=L:=by
 unfold cutL
 refine List.filter_eq_self.2 fun z hz=>?_
 rw [key_same]
 simp [findK_none h z hz]
theorem nodup_cut {L : List It} {key : ByteArray} (h : (L.map It.k).Nodup) : ((cutL L key).map It.k).Nodup:=(List.Sublist.map It.k List.filter_sublist).nodup h
theorem find_cut (L : List It) (key : ByteArray) : findK (cutL L key) key=none:=by
 refine List.find?_eq_none.2 fun x hx=>?_
 have:=(List.mem_filter.1 hx).2
 simpa using this
theorem TabOK.del {ss : List (List It)} {L : List It} (h : TabOK ss L) (key : ByteArray) : TabOK (delS ss key) (cutL L key):=by
 have hlook:=h.look key
 have hs:=slotOf_lt key h.pos
 have e : ss[slotOf ss.length key]? = some (ss.getD (slotOf ss.length key) []):=by rw [List.getD_eq_getElem?_getD,List.getElem?_eq_getElem hs];rfl
 unfold lookS at hlook
 unfold delS
 generalize ss.getD (slotOf ss.length key) []=l at e hlook
 refine ⟨?_,?_,nodup_cut h.nodup,by rw [List.length_set];exact h.pos⟩
 ·have hp:=flatten_set_perm ss _ l (l.eraseP fun x=>x.k.toList == key.toList) e
  cases hl : findK l key with
  | none=>
   rw [idxFrom_none key l hl] at hp ⊢
   rw [cut_none (hlook.symm.trans hl)]
   exact ((List.perm_append_right_iff l).1 hp).trans h.perm
  | some x=>
   obtain ⟨hx,hxk⟩:=findK_some hl
   obtain ⟨z,l1,l2,h1,h2,h3,h4⟩:=List.exists_of_eraseP (p:=fun x : It=>x.k.toList == key.toList) hx (by rw [hxk];simp)
   have hzx : z=x:=by
    have hz : z ∈ l:=by rw [h3];simp
    have hmem : ∀ y,y ∈ l→y ∈ L:=fun y hy=>h.perm.mem_iff.1 (List.mem_flatten.2 ⟨l,List.mem_of_getElem? e,hy⟩)
    exact nodup_key h.nodup (hmem z hz) (hmem x hx) ((key_eq h2).trans hxk.symm)
   subst hzx
   have hl2 : l.Perm (z :: l.eraseP fun x=>x.k.toList == key.toList):=by
    rw [h4,h3]
    exact List.perm_middle
   have hxL : z ∈ L:=(findK_some (hlook.symm.trans hl)).1
   have hL:=cut_perm h.nodup hxL hxk
   generalize l.eraseP (fun x=>x.k.toList == key.toList)=l' at hp hl2 ⊢
   have p1 : ((ss.set (slotOf ss.length key) l').flatten ++ (z :: l')).Perm (ss.flatten ++ l'):=(List.Perm.append_left _ hl2.symm).trans hp
   have p2 : ((z :: (ss.set (slotOf ss.length key) l').flatten) ++ l').Perm (ss.flatten ++ l'):=List.perm_middle.symm.trans p1
   have p3:=(List.perm_append_right_iff l').1 p2
   exact (List.perm_cons z).1 (p3.trans (h.perm.trans hL))
 ·intro j m x hm hx
  rw [List.length_set]
  exact set_slot (P:=fun x=>slotOf ss.length x.k=j) hm hx (fun m y hm hy=>h.slot j m y hm hy) (fun hij y hy=>by subst hij;exact h.slot _ l y e (List.mem_of_mem_eraseP hy))
theorem delS_length (ss : List (List It)) (key : ByteArray) : (delS ss key).length=ss.length:=List.length_set
def Placed (T : List (List It)) : Prop:=∀ (i : Nat) (l : List It) (x : It),T[i]? = some l→x ∈ l→slotOf T.length x.k=i
theorem ins_perm {T : List (List It)} (x : It) (h0 : 0 < T.length) : (insS T x).flatten.Perm (T.flatten ++ [x]):=by
 have hs:=slotOf_lt x.k h0
 have e : T[slotOf T.length x.k]? = some (T.getD (slotOf T.length x.k) []):=by rw [List.getD_eq_getElem?_getD,List.getElem?_eq_getElem hs];rfl
 unfold insS
 generalize T.getD (slotOf T.length x.k) []=l at e
 have hp:=flatten_set_perm T _ l (l ++ [x]) e
 have hq : (T.flatten ++ (l ++ [x])).Perm ((T.flatten ++ [x]) ++ l):=by
  rw [List.append_assoc]
  exact List.Perm.append_left _ List.perm_append_comm
 exact (List.perm_append_right_iff l).1 (hp.trans hq)
theorem ins_placed {T : List (List It)} (x : It) (h0 : 0 < T.length) (h : Placed T) : Placed (insS T x):=by
 have hs:=slotOf_lt x.k h0
 have e : T[slotOf T.length x.k]? = some (T.getD (slotOf T.length x.k) []):=by rw [List.getD_eq_getElem?_getD,List.getElem?_eq_getElem hs];rfl
 intro j m y hm hy
 rw [insS_length]
 unfold insS at hm
 refine set_slot (P:=fun y=>slotOf T.length y.k=j) hm hy (fun m y hm hy=>h j m y hm hy) (fun hij z hz=>?_)
 subst hij
 rcases List.mem_append.1 hz with hz | hz
 ·exact h _ _ z e hz
 ·obtain rfl:=List.mem_singleton.1 hz
  rfl
theorem insAll_ok : ∀ (xs : List It) (T : List (List It)),0 < T.length→Placed T→Placed (insAll T xs)∧(insAll T xs).flatten.Perm (T.flatten ++ xs)
 | [],T,_,h=>⟨h,by rw [List.append_nil];exact List.Perm.refl _⟩
 | x :: xs,T,h0,h=>by
  obtain ⟨h1,h2⟩:=insAll_ok xs (insS T x) (by rw [insS_length];exact h0) (ins_placed x h0 h)
  refine ⟨h1,h2.trans ?_⟩
  have:=List.Perm.append_right xs (ins_perm x h0)
  rw [List.append_assoc] at this
  exact this
theorem TabOK.grow {ss : List (List It)} {L : List It} (h : TabOK ss L) : TabOK (growS ss) L:=by
 have h0 : 0 < (fresh (2 * ss.length)).length:=by have:=h.pos;simp [fresh];omega
 obtain ⟨h1,h2⟩:=insAll_ok ss.flatten (fresh (2 * ss.length)) h0 (fun i l x e hx=>by
  have:=List.mem_of_getElem? e
  simp [fresh] at this
  rw [this.2] at hx
  cases hx)
 rw [List.length_eq_zero_iff.1 (fresh_flat _),List.nil_append] at h2
 exact ⟨h2.trans h.perm,h1,h.nodup,by unfold growS;rw [insAll_length];exact h0⟩
theorem TabOK.put {ss : List (List It)} {L : List It} (h : TabOK ss L) (x : It) (hno : findK L x.k=none) : TabOK (putS ss x) (L ++ [x]):=by
 have h1 : TabOK (insS ss x) (L ++ [x]):=by
  refine ⟨(ins_perm x h.pos).trans (List.Perm.append_right _ h.perm),ins_placed x h.pos h.slot,?_,by rw [insS_length];exact h.pos⟩
  rw [List.map_append]
  refine List.nodup_append.2 ⟨h.nodup,by simp,fun a ha b hb=>?_⟩
  obtain ⟨y,hy,rfl⟩:=List.mem_map.1 ha
  obtain rfl : b=x.k:=by simpa using hb
  exact findK_none hno y hy
 unfold putS
 split
 ·exact h1.grow
 ·exact h1
theorem TabOK.count {ss : List (List It)} {L : List It} (h : TabOK ss L) : ss.flatten.length=L.length:=h.perm.length_eq
end Go.Proofs.YtkekohmkaefdnaaGreatDoor
namespace Go.Proofs.YtkekohmkaefdnaaGreatDoor
open Go.RowKit Go.Maps Go.Shelf Go.Sort Go.Lib
attribute [local go_sem ↓] Go.wp_at_zero Go.wp_at_succ
theorem del1_any (g : Nat) (key k : ByteArray) (w : World) (h : w.cell? ⟨g,0,none⟩=some (.string key)) :
  Calls Tryz.prog 218 #[.string k,.pointer (some ⟨g,0,none⟩)] w fun e w'=>e=.returned (.bool (k.toList == key.toList))∧∃ q,w'=w.drewN q:=by
 go_enter Tryz.func218,Tryz.ntmps218
 go_wp2
 go_ret
 exact ⟨rfl,0,rfl⟩
def strikeK (l : List ByteArray) (key : ByteArray) : List ByteArray:=l.filter fun k=>!(k.toList == key.toList)
theorem strike_gen (v : Value) (l : List ByteArray) (b : Option Nat) (g : Nat) (key : ByteArray) (w : World) (h : StrIs w v l b) (hl : l.length ≤ 1000000) (hg : w.cell? ⟨g,0,none⟩=some (.string key)) (hbg : b ≠ some g) :
  Calls Tryz.prog 217 #[v,.func (.func 218) #[] #[.pointer (some ⟨g,0,none⟩)]] w fun e w'=>∃ v',e=.returned v'∧StrIs w' v' (strikeK l key) b∧Tch (fun k=>b=some k) w w':=by
 cases h with
 | nil=>
  have hd:=del_nil Tryz.delS (.func (.func 218) #[] #[.pointer (some ⟨g,0,none⟩)]) w
  change Calls Tryz.prog 217 _ w _ at hd
  refine hd.mono ?_
  rintro e w' ⟨rfl,rfl⟩
  exact ⟨_,rfl,.nil,Tch.refl _ _⟩
 | row l bb c zs h hc hm hz=>
  have hne : (⟨g,0,none⟩ : Addr).block ≠ bb:=fun e=>hbg (congrArg some (show bb=g from e.symm))
  have hH:=At.holds Value.string l h
  have hd:=del_func Tryz.delS Value.string (fun _=>rfl) (fun k : ByteArray=>k.toList == key.toList) 218 #[.pointer (some ⟨g,0,none⟩)] (enters_of Tryz.func218 (by kernel_rfl) rfl) ⟨#[]⟩ Tryz.zeroValue9 bb 0 c l.toArray w
   (fun x _ q=>del1_any g key x (w.drewN q) hg)
   (fun x _ q dk hs=>del1_any g key x _ (by
    rw [cell?_putRow_other Value.string (Sort.ahead w q) bb 0 dk ⟨g,0,none⟩ (.inl hne)]
    exact hg))
   hH (by simp;omega) (by simpa using hc)
  change Calls Tryz.prog 217 _ w _ at hd
  rw [show l.toArray.size=l.length from List.size_toArray] at hd
  refine hd.mono ?_
  rintro e w' ⟨rfl,q,rfl⟩
  refine ⟨_,rfl,?_,((tch_ahead _ w q).trans (tch_putRow _ _ bb 0 _) (fun _ _ h=>h)).mono (fun k _ h=>congrArg some h.symm)⟩
  have hf : (l.toArray.toList.filter fun x=>!(x.toList == key.toList))=strikeK l key:=rfl
  rw [hf]
  have hlen : (strikeK l key).length ≤ l.length:=List.length_filter_le _ _
  have a1:=At.putRow (w:=Sort.ahead w q) Value.string l (strikeK l key ++ List.replicate (l.length - (strikeK l key).length) ⟨#[]⟩) (show At (Sort.ahead w q) bb (l.map Value.string ++ zs) TStr from h) (by rw [List.length_append,List.length_replicate];omega)
  rw [List.map_append,List.append_assoc] at a1
  exact .row _ bb c _ a1 (Nat.le_trans hlen hc) hm (by rw [List.length_append,List.length_map,List.length_replicate,hz];omega)
theorem strike_keys (L : List It) (key : ByteArray) : strikeK (L.map It.k) key=(cutL L key).map It.k:=by
 unfold strikeK cutL
 rw [List.filter_map]
 rfl
end Go.Proofs.YtkekohmkaefdnaaGreatDoor
