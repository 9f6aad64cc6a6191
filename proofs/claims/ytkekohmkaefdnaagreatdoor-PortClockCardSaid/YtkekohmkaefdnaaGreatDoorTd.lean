import Derived.Test.YtkekohmkaefdnaaGreatDoorHp
import Derived.Test.YtkekohmkaefdnaaGreatDoorCi
import Derived.Test.YtkekohmkaefdnaaGreatDoorPt
set_option linter.unusedSimpArgs false
set_option linter.unusedVariables false
set_option maxHeartbeats 4000000
set_option maxRecDepth 100000
namespace Go.Proofs.YtkekohmkaefdnaaGreatDoor
open Go.RowKit Go.Maps Go.Shelf
attribute [local go_sem ↓] Go.wp_at_zero Go.wp_at_succ
def gtB (k v : ByteArray) : Bool:=!(Op.bytesLess k.toList v.toList) && !(k.toList == v.toList)
def selB (c : Cm) (k : ByteArray) : Bool:=preB k c.k && gtB k c.v
def scanL (c : Cm) (ks : List ByteArray) : List ByteArray:=ks.foldl (fun out k=>if selB c k && decide ((out.length : Int) < c.n) then out ++ [k] else out) []
def scanF (s : CS) (c : Cm) : RpC:=if c.n < 1 ∨ 40 < c.n then { e:=1 } else { ks:=scanL c (sortK (s.L.map It.k)) }
theorem scanL_fold (c : Cm) : ∀ (ks out : List ByteArray),(ks.foldl (fun out k=>if selB c k && decide ((out.length : Int) < c.n) then out ++ [k] else out) out).length ≤ out.length + ks.length
 | [],out=>by simp
 | k :: ks,out=>by
  rw [List.foldl_cons]
  split
  ·have:=scanL_fold c ks (out ++ [k])
   rw [List.length_append,List.length_singleton] at this
   rw [List.length_cons]
   omega
  ·have:=scanL_fold c ks out
   rw [List.length_cons]
   omega
theorem scanL_len (c : Cm) (ks : List ByteArray) : (scanL c ks).length ≤ ks.length:=by
 have:=scanL_fold c ks []
 simpa [scanL] using this
theorem StrIs.formL {w : World} {v : Value} {l : List ByteArray} {b : Option Nat} (h : StrIs w v l b) : ∃ A c,v=.slice A l.length c:=by
 cases h with
 | nil=>exact ⟨none,0,rfl⟩
 | row l b c zs h hc hm hz=>exact ⟨_,c,rfl⟩
theorem CaR.keys {w : World} {cb tb : Nat} {bud ver gone : Int} {L : List It} {O Ot : Nat→Prop} {vo : Value} {bo : Option Nat} {ss : List (List It)} (h : CaR w cb bud L ver gone O tb vo bo ss Ot) (hs : Short L) :
  Calls Tryz.prog 86 #[.pointer (some ⟨tb,0,none⟩)] w fun e w'=>∃ v,e=.returned v∧Keyed w (sortK (L.map It.k)) v w':=by
 have hk:=keys_gen tb ss (L.length : Int) Ot w h.tab (Nat.le_trans h.sl (by decide)) (by rw [h.ok.count];exact Nat.le_trans hs.1 (by decide))
 rw [sortK_perm (h.ok.perm.map It.k)] at hk
 exact hk
theorem scan_gen (cb : Nat) (bud : Int) (s : CS) (O : Nat→Prop) (c : Cm) (w : World) (hC : CaI w cb bud s.L s.ver s.gone O) (hs : Short s.L) (hk1 : c.k.size ≤ 10000) (hk2 : c.v.size ≤ 10000) :
  Calls Tryz.prog 116 #[.pointer (some ⟨cb,0,none⟩),c.val] w fun e w'=>∃ v,e=.returned (repA (scanF s c).e ⟨#[]⟩ 0 0 v)∧Keyed w (scanF s c).ks v w':=by
 obtain ⟨W0,hW0,ta,ca,cr,hsz⟩:=two_blocks w #[.int .i64 c.op,.string c.k,.string c.v,.int .i64 c.n,.int .i64 c.ver] TCmd #[.int .i64 0,.string ⟨#[]⟩,.int .i64 0,.int .i64 0,.slice none 0 0] TReply
 have hC0:=hC.tch ta (fun _ _ h=>h)
 obtain ⟨tb,vo,bo,ss,Ot,hR⟩:=hC0
 have hkeys:=hR.keys hs
 have uC:=hR.cells.cell 1 rfl
 have uA:=ca.facts5
 have uR:=cr.facts5
 have CA:=Lib.hid ca
 have CR:=Lib.hid cr
 have TA:=Lib.hid ta
 have hgl:=cr.lt
 have hga:=hsz
 have HSZ:=Lib.hid hsz
 have hkm : ∀ k ∈ sortK (s.L.map It.k),k.size ≤ 10000:=fun k hk=>by
  obtain ⟨x,hx,rfl⟩:=List.mem_map.1 (mem_sortK hk)
  exact (hs.2 x hx).1
 have hkl : (sortK (s.L.map It.k)).length ≤ 90000:=by rw [sortK_length,List.length_map];exact hs.1
 clear hC ca cr ta hsz hga hR
 by_cases hbad : c.n < 1 ∨ 40 < c.n
 ·have hF : scanF s c={ e:=1 }:=by unfold scanF;rw [if_pos hbad]
  have HF:=Lib.hid hF
  have t5:=TA.out.tset5 (g:=w.heap.size + 1) (by omega) (.int .i64 1) (.string ⟨#[]⟩) (.int .i64 0) (.int .i64 0) (.slice none 0 0)
  have a5:=at_set5 CR.out (.int .i64 1) (.string ⟨#[]⟩) (.int .i64 0) (.int .i64 0) (.slice none 0 0)
  obtain ⟨W9,hW9⟩ : ∃ W9,(((((W0.setCell ⟨w.heap.size + 1,0,none⟩ (.int .i64 1)).setCell ⟨w.heap.size + 1,1,none⟩ (.string ⟨#[]⟩)).setCell ⟨w.heap.size + 1,2,none⟩ (.int .i64 0)).setCell ⟨w.heap.size + 1,3,none⟩ (.int .i64 0)).setCell ⟨w.heap.size + 1,4,none⟩ (.slice none 0 0))=W9:=⟨_,rfl⟩
  rw [hW9] at t5 a5
  have T5:=Lib.hid t5
  have u9:=a5.facts5
  clear hF t5 a5 hkeys hkm hkl
  rcases hbad with hbad | hbad
  ·go_enter Tryz.func116,Tryz.ntmps116
   go_wp2
   try rw [hW0]
   try rw [hW9]
   refine bodyPost_ret (v:=repA 1 ⟨#[]⟩ 0 0 (.slice none 0 0)) (by simp [results,Tryz.results116,go_sem,u9]) rfl ?_
   rw [HF.out]
   exact ⟨_,rfl,T5.out,none,.nil,fun g h=>by cases h⟩
  ·have hlo : 1 ≤ c.n:=by omega
   go_enter Tryz.func116,Tryz.ntmps116
   go_wp2
   try rw [hW0]
   try rw [hW9]
   refine bodyPost_ret (v:=repA 1 ⟨#[]⟩ 0 0 (.slice none 0 0)) (by simp [results,Tryz.results116,go_sem,u9]) rfl ?_
   rw [HF.out]
   exact ⟨_,rfl,T5.out,none,.nil,fun g h=>by cases h⟩
 ·have hlo : 1 ≤ c.n:=by omega
  have hhi : c.n ≤ 40:=by omega
  have hF : scanF s c={ ks:=scanL c (sortK (s.L.map It.k)) }:=by unfold scanF;rw [if_neg hbad]
  have HF:=Lib.hid hF
  clear hF hbad
  generalize sortK (s.L.map It.k)=ks at hkeys hkm hkl HF
  have HKM:=Lib.hid hkm
  clear hkm
  go_enter Tryz.func116,Tryz.ntmps116
  go_wp2_with fail
  try rw [hW0]
  refine hkeys.mono ?_
  rintro e w1 ⟨v,rfl,t1,bk,hsk,hbk⟩
  generalize hga : w.heap.size=ga at *
  have a1:=CA.out.tch t1 (fun h=>h)
  have r1:=CR.out.tch t1 (fun h=>h)
  have T1:=Lib.hid (TA.out.trans t1 (fun _ _ h=>h))
  have A1:=Lib.hid a1
  have R1:=Lib.hid r1
  have HGA:=Lib.hid hga
  clear hkeys t1 a1 r1 uA uR uC hW0 hga
  obtain ⟨i0,hi0,hz0,hz1,hz2⟩:=info_parts info_str
  cases hsk with
  | nil=>
   have u1:=A1.out.facts5
   have v1:=R1.out.facts5
   go_wp2
   go_loopg [5,23] 0 (fun gg s5 s23 wr=>s5=.slice none 0 0∧s23=.int .i64 0∧wr=w1)
   case atStart=>exact ⟨rfl,rfl,rfl⟩
   case round=>
    obtain ⟨rfl,rfl,rfl⟩:=hrel
    have hsl : scanL c []=[]:=rfl
    have t5:=T1.out.tset5 (g:=ga + 1) (by rw [HGA.out];omega) (.int .i64 0) (.string ⟨#[]⟩) (.int .i64 0) (.int .i64 0) (.slice none 0 0)
    have a5:=at_set5 R1.out (.int .i64 0) (.string ⟨#[]⟩) (.int .i64 0) (.int .i64 0) (.slice none 0 0)
    obtain ⟨W9,hW9⟩ : ∃ W9,(((((wr.setCell ⟨ga + 1,0,none⟩ (.int .i64 0)).setCell ⟨ga + 1,1,none⟩ (.string ⟨#[]⟩)).setCell ⟨ga + 1,2,none⟩ (.int .i64 0)).setCell ⟨ga + 1,3,none⟩ (.int .i64 0)).setCell ⟨ga + 1,4,none⟩ (.slice none 0 0))=W9:=⟨_,rfl⟩
    rw [hW9] at t5 a5
    have T5:=Lib.hid t5
    have u9:=a5.facts5
    clear t5 a5
    go_wp2
    try rw [hW9]
    refine bodyPost_ret (v:=repA 0 ⟨#[]⟩ 0 0 (.slice none 0 0)) (by simp [results,Tryz.results116,go_sem,u9]) rfl ?_
    rw [HF.out]
    exact ⟨_,rfl,T5.out,none,by rw [hsl];exact .nil,fun g h=>by cases h⟩
  | row _ bk c' zs hb hc hm hz=>
   have hbw:=hbk bk rfl
   have HB:=Lib.hid hb
   clear hb hbk
   go_wp2
   go_loopg [5,23] ks.length (fun gg s5 s23 wr=>∃ j : Nat,s23=.int .i64 (j : Int)∧j + gg=ks.length∧Tch (fun _=>False) w1 wr∧Keyed w1 (scanL c (ks.take j)) s5 wr)
   case atStart=>exact ⟨0,rfl,by omega,Tch.refl _ _,Tch.refl _ _,none,.nil,fun g h=>by cases h⟩
   case round=>
    obtain ⟨j,rfl,hj,tr,hky⟩:=hrel
    rcases Nat.eq_zero_or_pos gk with hg0 | hg0
    ·have hjl : ¬ (j : Int) < (ks.length : Int):=by omega
     rw [List.take_of_length_le (show ks.length ≤ j by omega)] at hky
     have r1:=R1.out.tch tr (fun h=>h)
     have v1:=r1.facts5
     obtain ⟨t2,bz,hz2',hbz⟩:=hky
     obtain ⟨A,cc,rfl⟩:=hz2'.formL
     have t5:=(T1.out.trans tr (fun _ _ h=>h)).tset5 (g:=ga + 1) (by rw [HGA.out];omega) (.int .i64 0) (.string ⟨#[]⟩) (.int .i64 0) (.int .i64 0) (.slice A (scanL c ks).length cc)
     have s5:=hz2'.tch (tch_set5 wr (ga + 1) (.int .i64 0) (.string ⟨#[]⟩) (.int .i64 0) (.int .i64 0) (.slice A (scanL c ks).length cc)) (fun g hg e=>hz2'.ne r1 (by decide) (e ▸ hg))
     have a5:=at_set5 r1 (.int .i64 0) (.string ⟨#[]⟩) (.int .i64 0) (.int .i64 0) (.slice A (scanL c ks).length cc)
     have hbz' : ∀ g,bz=some g→w.heap.size ≤ g:=fun g hg=>by
      have:=hbz g hg
      have:=T1.out.size
      omega
     obtain ⟨W9,hW9⟩ : ∃ W9,(((((wr.setCell ⟨ga + 1,0,none⟩ (.int .i64 0)).setCell ⟨ga + 1,1,none⟩ (.string ⟨#[]⟩)).setCell ⟨ga + 1,2,none⟩ (.int .i64 0)).setCell ⟨ga + 1,3,none⟩ (.int .i64 0)).setCell ⟨ga + 1,4,none⟩ (.slice A (scanL c ks).length cc))=W9:=⟨_,rfl⟩
     rw [hW9] at t5 s5 a5
     have T5:=Lib.hid t5
     have S5:=Lib.hid s5
     have u9:=a5.facts5
     clear t5 s5 a5 tr r1 t2 hz2' hbz
     go_wp2
     try rw [hW9]
     refine bodyPost_ret (v:=repA 0 ⟨#[]⟩ 0 0 (.slice A (scanL c ks).length cc)) (by simp [results,Tryz.results116,go_sem,u9]) rfl ?_
     rw [HF.out]
     exact ⟨_,rfl,T5.out,bz,S5.out,hbz'⟩
    ·have hjl : (j : Int) < (ks.length : Int):=by omega
     obtain ⟨k,hk⟩ : ∃ k,ks[j]? = some k:=⟨_,List.getElem?_eq_getElem (by omega)⟩
     have q0 : wr.cell? ⟨bk,j,none⟩=some (.string k):=(HB.out.tch tr (fun h=>h)).cell j (by
      have hjn : j < ks.length:=by omega
      rw [List.getElem?_append_left (by rw [List.length_map];exact hjn),List.getElem?_map,hk]
      rfl)
     have u1:=(A1.out.tch tr (fun h=>h)).facts5
     have hpx:=fun W=>prefix_any k c.k W (by have:=HKM.out k (List.mem_of_getElem? hk);omega) (by omega)
     obtain ⟨t2,bz,hz2',hbz⟩:=hky
     have HTR:=Lib.hid tr
     have hst : scanL c (ks.take (j + 1))=if selB c k && decide (((scanL c (ks.take j)).length : Int) < c.n) then scanL c (ks.take j) ++ [k] else scanL c (ks.take j):=by
      unfold scanL
      rw [List.take_add_one,hk,List.foldl_append]
      rfl
     have HST:=Lib.hid hst
     have hol0 : (scanL c (ks.take j)).length ≤ j:=Nat.le_trans (scanL_len c _) (List.length_take_le _ _)
     have HOL:=Lib.hid hol0
     clear hol0
     generalize scanL c (ks.take j)=out at hz2' HST HOL
     clear tr hst
     cases hp : preB k c.k with
     | false=>
      rw [hp] at hpx
      go_wp2_with (go_at_call 151;refine (hpx _).mono ?_;rintro e w' ⟨rfl,rfl⟩)
      go_roundg (ks.length - (j + 1))
      case measure=>omega
      case rel=>exact ⟨j + 1,congrArg (Value.int .i64) (by omega),by omega,HTR.out,by rw [HST.out];simp only [selB,hp,Bool.false_and];exact ⟨t2,bz,hz2',hbz⟩⟩
     | true=>
      rw [hp] at hpx
      obtain ⟨A,cc,rfl⟩:=hz2'.formL
      have hol : out.length ≤ 90000:=by
       have h1:=HOL.out
       omega
      have HZ:=Lib.hid hz2'
      clear hz2'
      by_cases hsel : gtB k c.v=true∧(out.length : Int) < c.n
      ·obtain ⟨hg,hln⟩:=hsel
       have hg':=hg
       unfold gtB at hg'
       rw [Bool.and_eq_true,Bool.not_eq_true',Bool.not_eq_true'] at hg'
       obtain ⟨hg1',hg2'⟩:=hg'
       have hsl : (selB c k && decide ((out.length : Int) < c.n))=true:=by unfold selB;rw [hp,hg,decide_eq_true hln];rfl
       have HSL:=Lib.hid hsl
       have hcap : out.length + 1 ≤ maxLen:=by unfold maxLen;omega
       clear hsl hg
       go_wp2_with (first | (go_at_call 151;refine (hpx _).mono ?_;rintro e w' ⟨rfl,rfl⟩) | (at_builtin;go_loud (refine wpList_append_lies _ (by rfl) _ _ _ (by rfl) 0 TStr i0 _ 1 16 Tryz.underlying36 hi0 hz0 hz1 hz2 rfl (by decide) _ out.length (out.map Value.string) (by rfl) (ownsRow_tch HZ.out.own.1 ((Tch.refl (fun _=>False) _).talloc) (fun _ h=>h.elim)) _ 1 1 [.string k] (by rfl) (by rfl) ?c1 (by simp [Value.oneCell']) (by decide) hcap (by omega) (by simp) _ rfl ?_);(case c1=>go_loud (exact World.news_of_block (cs:=#[.string k]) (t:=TStr) (fr:=(0,0)) (heap_alloc_new _ _)));intro g cap w5 hown5 hgr hat hlt))
       have t5:=HZ.out.grown ((Tch.refl (fun _=>False) _).talloc) hgr
       have hs5:=StrIs.snoc hown5
       have hf5 : ∀ g',some g=some g'→w1.heap.size ≤ g':=by
        intro g' hg'
        injection hg' with hg'
        subst hg'
        rcases hat with h | h
        ·rw [HZ.out.own.2] at h
         exact hbz _ h
        ·have h1:=t2.size
         rw [h]
         simp
         omega
       have t15:=t2.trans t5 (fun k hk h=>by have:=hbz k h;omega)
       go_roundg (ks.length - (j + 1))
       case measure=>omega
       case rel=>exact ⟨j + 1,congrArg (Value.int .i64) (by omega),by omega,t15,by rw [HST.out,HSL.out];exact ⟨t15,some g,hs5,hf5⟩⟩
      ·have hsl : (selB c k && decide ((out.length : Int) < c.n))=false:=by
        unfold selB
        rw [hp,Bool.true_and]
        cases hg : gtB k c.v with
        | false=>rfl
        | true=>rw [Bool.true_and,decide_eq_false (fun h=>hsel ⟨hg,h⟩)]
       have HSL:=Lib.hid hsl
       clear hsl
       cases hb1 : Op.bytesLess k.toList c.v.toList with
       | true=>
        go_wp2_with (go_at_call 151;refine (hpx _).mono ?_;rintro e w' ⟨rfl,rfl⟩)
        go_roundg (ks.length - (j + 1))
        case measure=>omega
        case rel=>exact ⟨j + 1,congrArg (Value.int .i64) (by omega),by omega,HTR.out,by rw [HST.out,HSL.out];exact ⟨t2,bz,HZ.out,hbz⟩⟩
       | false=>
        cases hb2 : (k.toList == c.v.toList) with
        | true=>
         go_wp2_with (go_at_call 151;refine (hpx _).mono ?_;rintro e w' ⟨rfl,rfl⟩)
         go_roundg (ks.length - (j + 1))
         case measure=>omega
         case rel=>exact ⟨j + 1,congrArg (Value.int .i64) (by omega),by omega,HTR.out,by rw [HST.out,HSL.out];exact ⟨t2,bz,HZ.out,hbz⟩⟩
        | false=>
         have hln : c.n ≤ (out.length : Int):=by
          have h2 : ¬ (out.length : Int) < c.n:=fun h=>hsel ⟨by unfold gtB;rw [hb1,hb2];rfl,h⟩
          omega
         clear hsel
         go_wp2_with (go_at_call 151;refine (hpx _).mono ?_;rintro e w' ⟨rfl,rfl⟩)
         go_roundg (ks.length - (j + 1))
         case measure=>omega
         case rel=>exact ⟨j + 1,congrArg (Value.int .i64) (by omega),by omega,HTR.out,by rw [HST.out,HSL.out];exact ⟨t2,bz,HZ.out,hbz⟩⟩
end Go.Proofs.YtkekohmkaefdnaaGreatDoor
namespace Go.Proofs.YtkekohmkaefdnaaGreatDoor
open Go.RowKit Go.Maps Go.Shelf Go.Proofs.YtkekohmkaefdnaaGreatDoorW.PrintWords
attribute [local go_sem ↓] Go.wp_at_zero Go.wp_at_succ
theorem StrIs.toC {w : World} {A : Option Addr} {n c : Nat} {l : List ByteArray} {b : Option Nat} (h : StrIs w (.slice A n c) l b) : n=l.length∧Kd.C Kd.string w A l.length l∧l.length ≤ c:=by
 generalize hv : (Value.slice A n c)=v at h
 cases h with
 | nil=>
  cases hv
  exact ⟨rfl,Kd.C_nil _ _,Nat.le_refl _⟩
 | row l b c' zs hb hc hm hz=>
  cases hv
  refine ⟨rfl,⟨rfl,by unfold maxLen at hm;omega,fun _=>⟨⟨b,0,none⟩,rfl,fun j p hj=>⟨[.string p],rfl,rfl,fun i u hi=>?_⟩⟩⟩,hc⟩
  obtain ⟨hlt,_⟩:=List.getElem?_eq_some_iff.1 hj
  have hadd : (⟨b,0,none⟩ : Addr).add (j * Kd.string.sz + i)=⟨b,j + i,none⟩:=by
   have e : j * Kd.string.sz + i=j + i:=by rw [show Kd.string.sz=1 from rfl,Nat.mul_one]
   rw [e]
   unfold Addr.add
   split <;> simp_all
  rw [hadd]
  cases i with
  | zero=>
   obtain rfl : Value.string p=u:=by simpa using hi
   refine hb.cell _ ?_
   rw [Nat.add_zero,List.getElem?_append_left (by rw [List.length_map];exact hlt),List.getElem?_map,hj]
   rfl
  | succ i=>simp at hi
def szF (n : Nat) : Int:=if n ≤ 30 then 32 else if n ≤ 126 then 128 else if n ≤ 510 then 512 else if n ≤ 2046 then 2048 else 0
def SizesG (w : World) (e : Ending) (w' : World) : Prop:=∃ g c,e=.returned (.slice (some ⟨g,0,none⟩) 4 c)∧(w'.cell? ⟨g,0,none⟩=some (.int .i64 32)∧w'.cell? ⟨g,1,none⟩=some (.int .i64 128)∧w'.cell? ⟨g,2,none⟩=some (.int .i64 512)∧w'.cell? ⟨g,3,none⟩=some (.int .i64 2048))∧Below w.heap.size w w'
theorem sizes_gen (w : World) : Calls Tryz.prog 226 #[] w (SizesG w):=by
 have cs : At (w.alloc (.cells #[.int .u32 0,.int .i32 0,.int .u32 0,.slice none 0 0] TSz)) w.heap.size (szOf false (.slice none 0 0)) TSz:=At.new w _ _
 have hd:=szmade w.heap.size _ cs
 have ta : Tch (fun _=>False) w (w.alloc (.cells #[.int .u32 0,.int .i32 0,.int .u32 0,.slice none 0 0] TSz)):=Tch.alloc _ _ _
 clear cs
 go_enter Tryz.func226,Tryz.ntmps226
 go_wp2_with fail
 refine hd.mono ?_
 rintro e w' ⟨g,c,rfl,h2,h3⟩
 have H2:=Lib.hid h2
 have H3:=Lib.hid h3
 clear hd h2 h3
 go_wp2
 go_ret
 refine ⟨g,c,rfl,?_,?_⟩
 ·have hc:=H2.out.cells (g:=g) rfl
  have ha : ∀ j,(⟨g,0,none⟩ : Addr).add j=⟨g,j,none⟩:=fun j=>by unfold Addr.add;split <;> simp_all
  have hc' : ∀ j u,szL[j]? = some u→w'.cell? ⟨g,j,none⟩=some u:=fun j u hj=>by rw [← ha j];exact hc j u hj
  exact ⟨hc' 0 _ rfl,hc' 1 _ rfl,hc' 2 _ rfl,hc' 3 _ rfl⟩
 ·have h:=(ta.mono (fun _ _ h=>h.elim)).trans H3.out (fun _ _ h=>h)
  exact ⟨h.os,h.tape,h.output,h.size,fun k hk=>h.block k hk (fun e=>by omega)⟩
theorem size_gen (n : Nat) (w : World) (hn : n ≤ 100000) : Calls Tryz.prog 160 #[.int .i64 n] w fun e w'=>e=.returned (.tuple #[.int .i64 (szF n),.bool (decide (n ≤ 2046))])∧Below w.heap.size w w':=by
 have hs:=sizes_gen w
 go_enter Tryz.func160,Tryz.ntmps160
 go_wp2_with fail
 refine hs.mono ?_
 rintro e w1 ⟨g,c,rfl,hc,hb⟩
 have HB:=Lib.hid hb
 clear hs hb
 go_wp2
 go_loopg [8] 4 (fun gg s8 wr=>∃ j : Nat,s8=.int .i64 (j : Int)∧j + gg=4∧wr=w1∧(1 ≤ j→30 < n)∧(2 ≤ j→126 < n)∧(3 ≤ j→510 < n)∧(4 ≤ j→2046 < n))
 case atStart=>exact ⟨0,rfl,rfl,rfl,by omega,by omega,by omega,by omega⟩
 case round=>
  obtain ⟨j,rfl,hj,rfl,b1,b2,b3,b4⟩:=hrel
  obtain ⟨q0,q1,q2,q3⟩:=hc
  have hj4 : j=0 ∨ j=1 ∨ j=2 ∨ j=3 ∨ j=4:=by omega
  rcases hj4 with rfl | rfl | rfl | rfl | rfl
  ·by_cases h : n ≤ 30
   ·have hI : (n : Int) ≤ 30:=by omega
    have hF : szF n=32∧decide (n ≤ 2046)=true:=⟨by unfold szF;rw [if_pos h],decide_eq_true (by omega)⟩
    have HF:=Lib.hid hF
    clear hF b1 b2 b3 b4
    go_wp2
    go_ret2
    rw [HF.out.1,HF.out.2]
    exact ⟨rfl,HB.out⟩
   ·have hI : (30 : Int) < (n : Int):=by omega
    have B1:=Lib.hid b1
    have B2:=Lib.hid b2
    have B3:=Lib.hid b3
    have B4:=Lib.hid b4
    clear b1 b2 b3 b4
    go_wp2
    go_roundg 3
    case measure=>omega
    case rel=>exact ⟨1,rfl,by omega,rfl,by omega,by omega,by omega,by omega⟩
  ·by_cases h : n ≤ 126
   ·have hI : (n : Int) ≤ 126:=by omega
    have hF : szF n=128∧decide (n ≤ 2046)=true:=⟨by unfold szF;rw [if_neg (by omega),if_pos h],decide_eq_true (by omega)⟩
    have HF:=Lib.hid hF
    clear hF b1 b2 b3 b4
    go_wp2
    go_ret2
    rw [HF.out.1,HF.out.2]
    exact ⟨rfl,HB.out⟩
   ·have hI : (126 : Int) < (n : Int):=by omega
    have B1:=Lib.hid b1
    have B2:=Lib.hid b2
    have B3:=Lib.hid b3
    have B4:=Lib.hid b4
    clear b1 b2 b3 b4
    go_wp2
    go_roundg 2
    case measure=>omega
    case rel=>exact ⟨2,rfl,by omega,rfl,by omega,by omega,by omega,by omega⟩
  ·by_cases h : n ≤ 510
   ·have hI : (n : Int) ≤ 510:=by omega
    have hF : szF n=512∧decide (n ≤ 2046)=true:=⟨by unfold szF;rw [if_neg (by omega),if_neg (by omega),if_pos h],decide_eq_true (by omega)⟩
    have HF:=Lib.hid hF
    clear hF b1 b2 b3 b4
    go_wp2
    go_ret2
    rw [HF.out.1,HF.out.2]
    exact ⟨rfl,HB.out⟩
   ·have hI : (510 : Int) < (n : Int):=by omega
    have B1:=Lib.hid b1
    have B2:=Lib.hid b2
    have B3:=Lib.hid b3
    have B4:=Lib.hid b4
    clear b1 b2 b3 b4
    go_wp2
    go_roundg 1
    case measure=>omega
    case rel=>exact ⟨3,rfl,by omega,rfl,by omega,by omega,by omega,by omega⟩
  ·by_cases h : n ≤ 2046
   ·have hI : (n : Int) ≤ 2046:=by omega
    have hF : szF n=2048∧decide (n ≤ 2046)=true:=⟨by unfold szF;rw [if_neg (by omega),if_neg (by omega),if_neg (by omega),if_pos h],decide_eq_true (by omega)⟩
    have HF:=Lib.hid hF
    clear hF b1 b2 b3 b4
    go_wp2
    go_ret2
    rw [HF.out.1,HF.out.2]
    exact ⟨rfl,HB.out⟩
   ·have hI : (2046 : Int) < (n : Int):=by omega
    have B1:=Lib.hid b1
    have B2:=Lib.hid b2
    have B3:=Lib.hid b3
    have B4:=Lib.hid b4
    clear b1 b2 b3 b4
    go_wp2
    go_roundg 0
    case measure=>omega
    case rel=>exact ⟨4,rfl,by omega,rfl,by omega,by omega,by omega,by omega⟩
  ·have hF : szF n=0∧decide (n ≤ 2046)=false:=by
    have h4:=b4 (by omega)
    exact ⟨by unfold szF;rw [if_neg (by omega),if_neg (by omega),if_neg (by omega),if_neg (by omega)],decide_eq_false (by omega)⟩
   have HF:=Lib.hid hF
   clear hF b1 b2 b3 b4
   go_wp2
   go_ret2
   rw [HF.out.1,HF.out.2]
   exact ⟨rfl,HB.out⟩
def padF (b : ByteArray) : ByteArray:=(strOfNums (pcells b.size 2 2) ++ b) ++ rpB 0 ((szF b.size).toNat - 2 - b.size)
theorem pad_gen (b : ByteArray) (w : World) (hn : b.size ≤ 100000) : Calls Tryz.prog 120 #[.string b] w fun e w'=>e=.returned (.tuple #[.string (if b.size ≤ 2046 then padF b else ⟨#[]⟩),.bool (decide (b.size ≤ 2046))])∧Below w.heap.size w w':=by
 have hs:=size_gen b.size w hn
 by_cases h : b.size ≤ 2046
 ·rw [decide_eq_true h,if_pos h]
  rw [decide_eq_true h] at hs
  obtain ⟨z,hz,hz1,hz2⟩ : ∃ z : Nat,szF b.size=(z : Int)∧b.size + 2 ≤ z∧z ≤ 2048:=by
   unfold szF
   split
   ·exact ⟨32,rfl,by omega,by omega⟩
   ·split
    ·exact ⟨128,rfl,by omega,by omega⟩
    ·split
     ·exact ⟨512,rfl,by omega,by omega⟩
     ·exact ⟨2048,rfl,by omega,by omega⟩
  have hpf : padF b=(strOfNums (pcells b.size 2 2) ++ b) ++ rpB 0 (z - 2 - b.size):=by unfold padF;rw [hz];rfl
  have HP:=Lib.hid hpf
  rw [hz] at hs
  have hp:=fun W=>octet_PutBig.calls (b.size : Int) 2 (strOfNums (pcells b.size 2 2)) W rfl
  obtain ⟨k,hk⟩ : ∃ k,z - 2 - b.size=k:=⟨_,rfl⟩
  have hr:=fun W=>rep_gen k W (by omega)
  have hkk : (z : Int) - 2 - (b.size : Int)=(k : Int):=by omega
  have hsz : (strOfNums (pcells b.size 2 2)).size=2:=by rw [strOfNums_size,pcells_length]
  have hz3:=rpB_size 0 k
  rw [hk] at HP
  generalize strOfNums (pcells b.size 2 2)=hd at hp hsz HP
  have hcs : (hd ++ b).size=2 + b.size:=by rw [ByteArray.size_append,hsz]
  clear hpf hz hk
  go_enter Tryz.func120,Tryz.ntmps120
  go_wp2_with (first | (go_at_call 160;refine hs.mono ?_;rintro e w1 ⟨rfl,hb1⟩) | (go_at_call 137;refine (hp _).mono ?_;rintro e w2 ⟨rfl,hb2⟩) | (go_at_call 161;refine (hr _).mono ?_;rintro e w3 ⟨rfl,hb3⟩))
  go_ret2
  rw [HP.out]
  exact ⟨rfl,hb1.trans ((hb2.trans (hb3.mono hb2.size)).mono hb1.size)⟩
 ·rw [decide_eq_false h,if_neg h]
  rw [decide_eq_false h] at hs
  generalize szF b.size=z at hs
  go_enter Tryz.func120,Tryz.ntmps120
  go_wp2_with (first | (go_at_call 160;refine hs.mono ?_;rintro e w1 ⟨rfl,hb1⟩))
  go_ret2
  exact ⟨rfl,hb1⟩
end Go.Proofs.YtkekohmkaefdnaaGreatDoor
