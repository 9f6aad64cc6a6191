import Derived.Test.YtkekohmkaefdnaaGreatDoorPy
import Derived.Test.YtkekohmkaefdnaaGreatDoorPa0
import Derived.Deep.AppendLies
import Derived.Deep.LoopGhost
import Derived.Deep.CutBlock
import Derived.BigQuiet
import Derived.Maps.AppendAt
import Derived.Deep.QuietTactic
import Derived.Test.YtkekohmkaefdnaaGreatDoorWLast
set_option linter.unusedVariables false
set_option maxHeartbeats 4000000
set_option maxRecDepth 1000000
namespace Go.Proofs.YtkekohmkaefdnaaGreatDoor
open Go.RowKit Go.Maps Go.Shelf
attribute [local go_sem ↓] Go.wp_at_zero Go.wp_at_succ
abbrev TSz : Nat:=339
def szMid (v : Value) : List Value:=[.int .u32 0,.int .i32 1,.int .u32 0,v]
def szOf (d : Bool) (v : Value) : List Value:=[.int .u32 (if d then 1 else 0),.int .i32 0,.int .u32 0,v]
def szI : Nat→Int
 | 0=>32
 | 1=>128
 | 2=>512
 | 3=>2048
 | _=>8192
def szL : List Value:=[.int .i64 32,.int .i64 128,.int .i64 512,.int .i64 2048]
theorem ownsRow_tch {w w1 : World} {B e s n : Nat} {v : Value} {xs : List Value} {S : Nat→Prop} (h : w.ownsRow B e s v n xs) (t : Tch S w w1) (hS : ∀ k,S k→k < w.heap.size→k < B) : w1.ownsRow B e s v n xs:=by
 refine ⟨h.1,?_⟩
 rcases h.2 with hn | ⟨g,cap,cur,rfl,hb,hg,rest⟩
 ·exact .inl hn
 ·have hlt:=(Array.getElem?_eq_some_iff.1 hg).1
  exact .inr ⟨g,cap,cur,rfl,hb,(t.block g hlt (fun h=>by have:=hS _ h hlt;omega)).trans hg,rest⟩
theorem info_int : (Tryz.prog.info? 3).map (fun i=>(i.zero,i.size,i.bytes))=some (some (.int .i64 0),1,8):=by kernel_rfl
def SzR (sb B : Nat) (pl : Addr) (w0 : World) (gg : Nat) (n : Value) (wr : World) : Prop:=
 ∃ (k : Nat) (A : Option Addr) (c : Nat),k ≤ 4∧4 - k ≤ gg∧n=.int .i64 (szI k)∧At wr sb (szMid (.slice A k c)) TSz∧wr.ownsRow B 3 1 (.slice A k c) k (szL.take k)∧wr.cell? pl=some (.pointer (some ⟨sb,0,none⟩))∧Tch (fun k=>k=sb) w0 wr
theorem szmade1 (sb : Nat) (pl : Addr) (w : World) (h0 : w.cell? pl=some (.pointer (some ⟨sb,0,none⟩))) (hs : At w sb (szMid (.slice none 0 0)) TSz) (hne : pl.block ≠ sb) :
  Calls Tryz.prog 326 #[.pointer (some pl)] w fun e w'=>e=.returned (.tuple #[])∧∃ g c,At w' sb (szMid (.slice (some ⟨g,0,none⟩) 4 c)) TSz∧w'.ownsRow w.heap.size 3 1 (.slice (some ⟨g,0,none⟩) 4 c) 4 szL∧Tch (fun k=>k=sb) w w':=by
 have hsl:=hs.lt
 have hpl:=World.block_lt_of_cell? w _ h0
 have HS:=Lib.hid hs
 clear hs
 go_enter Tryz.func326,Tryz.ntmps326
 go_wp2
 go_loopg [1] 4 (fun gg s1 wr=>SzR sb w.heap.size pl w gg s1 wr)
 case atStart=>exact ⟨0,none,0,by omega,by omega,rfl,HS.out,World.ownsRow_nil _ _ _ _,h0,Tch.refl _ _⟩
 case round=>
  obtain ⟨k,A,c,hk,hg,rfl,hs,hown,hp,ht⟩:=hrel
  have c3:=hs.cell 3 rfl
  have f3:=hs.frozen 3
  have hsl2:=hs.lt
  have hpl2:=World.block_lt_of_cell? _ _ hp
  have hsz:=ht.size
  have HS2:=Lib.hid hs
  have HO:=Lib.hid hown
  have HT:=Lib.hid ht
  obtain ⟨i0,hi,hz0',hz1,hz2⟩:=info_parts info_int
  by_cases h4 : k < 4
  ·clear hs hown ht
   have hi4 : (k : Int) < 4:=by omega
   have hpn : pl ≠ ⟨sb,3,none⟩:=fun e=>hne (by rw [e])
   have hpn2 : (⟨sb,3,none⟩ : Addr) ≠ pl:=Ne.symm hpn
   have mk : ∀ W' : World,Tch (fun k=>w.heap.size ≤ k) wr W'→(W'.cell? pl=some (.pointer (some ⟨sb,0,none⟩))∧W'.cell? ⟨sb,3,none⟩=some (.slice A k c)∧W'.frozen? ⟨sb,3,none⟩=false):=fun W' t=>⟨(t.cell (p:=pl) hpl2 (by omega)).trans hp,(HS2.out.tch t (by omega)).cell 3 rfl,(HS2.out.tch t (by omega)).frozen 3⟩
   go_wp2
   go_region_law ((refine step_append_lies _ (by rfl) _ _ _ (by rfl) w.heap.size 3 i0 _ 1 8 Tryz.underlying53 hi hz0' hz1 hz2 rfl (by decide) (.slice A k c) k (szL.take k) (by rfl) (ownsRow_tch HO.out (((Tch.refl (fun _=>False) wr).talloc).tdrew) (fun _ h=>h.elim)) ⟨wr.heap.size,0,none⟩ 1 1 [.int .i64 (szI k)] (by rfl) (by rfl) (World.news_of_block (cs:=#[.int .i64 (szI k)]) (t:=3) (fr:=(0,0)) (heap_alloc_new wr _)) (by simp [Value.oneCell']) (by decide) (by unfold maxLen;omega) (by omega) (by simp;omega) (wr.heap.size + 1) (by simp) ?_;intro g cap w2 hown2 hgr hat hlt;have hmk2:=mk w2 (((Tch.refl (fun k=>w.heap.size ≤ k) wr).talloc.tdrew).trans (Tch.of_grown hgr) (fun k' hk' h=>(HO.out.lt k' h).1));have c32:=hmk2.2.1;have f32:=hmk2.2.2))
   all_goals
    have hs9:=(HS2.out.tch (((Tch.refl (fun k=>w.heap.size ≤ k) wr).talloc.tdrew).trans (Tch.of_grown hgr) (fun k' hk' h=>(HO.out.lt k' h).1)) (by omega)).set 3 (.slice (some ⟨g,0,none⟩) (k + 1) cap)
    have t9 : Tch (fun k=>k=sb ∨ w.heap.size ≤ k) wr (w2.setCell ⟨sb,3,none⟩ (.slice (some ⟨g,0,none⟩) (k + 1) cap)):=((((Tch.refl (fun k=>w.heap.size ≤ k) wr).talloc.tdrew).trans (Tch.of_grown hgr) (fun k' hk' h=>(HO.out.lt k' h).1)).mono (fun _ _ h=>.inr h)).tset (fun _=>.inl rfl)
    have ho9:=ownsRow_tch hown2 (Tch.set w2 ⟨sb,3,none⟩ (.slice (some ⟨g,0,none⟩) (k + 1) cap)) (fun k' h _=>by subst h;exact hsl)
    have hmul : IntKind.i64.wrap (szI k * 4)=szI (k + 1):=by
     have h : k=0 ∨ k=1 ∨ k=2 ∨ k=3:=by omega
     rcases h with rfl | rfl | rfl | rfl <;> decide
    have htk : szL.take k ++ [.int .i64 (szI k)]=szL.take (k + 1):=by
     have h : k=0 ∨ k=1 ∨ k=2 ∨ k=3:=by omega
     rcases h with rfl | rfl | rfl | rfl <;> rfl
    rw [htk] at ho9
    have HS9:=Lib.hid hs9
    have HT9:=Lib.hid t9
    have HO9:=Lib.hid ho9
    have hp9 : (w2.setCell ⟨sb,3,none⟩ (.slice (some ⟨g,0,none⟩) (k + 1) cap)).cell? pl=some (.pointer (some ⟨sb,0,none⟩)):=(World.cell?_setCell_other _ _ _ _ hpn2).trans hmk2.1
    obtain ⟨W9,hW9⟩ : ∃ W9,w2.setCell ⟨sb,3,none⟩ (.slice (some ⟨g,0,none⟩) (k + 1) cap)=W9:=⟨_,rfl⟩
    rw [hW9] at HS9 HT9 HO9 hp9 ⊢
    clear hs9 t9 ho9 hW9 c32 f32 hmk2 hown2 hgr hat mk
    go_wp2
    go_roundg (4 - (k + 1))
    case measure=>omega
    case rel=>
     try rw [hmul]
     exact ⟨k + 1,_,_,by omega,by omega,rfl,HS9.out,HO9.out,hp9,HT.out.trans HT9.out (fun k' hk' h=>by rcases h with h | h;exact h;omega)⟩
  ·obtain rfl : k=4:=by omega
   have hi4 : ¬ ((4 : Nat) : Int) < 4:=by omega
   obtain ⟨g,cap,hv,_,_⟩:=hown.form (by decide)
   cases hv
   clear hs hown ht
   go_wp2
   go_end0
   exact ⟨rfl,_,_,HS2.out,HO.out,HT.out⟩
end Go.Proofs.YtkekohmkaefdnaaGreatDoor
namespace Go.Proofs.YtkekohmkaefdnaaGreatDoor
open Go.RowKit Go.Maps Go.Shelf
attribute [local go_sem ↓] Go.wp_at_zero Go.wp_at_succ
theorem once_sz (sb pl : Nat) (tl : Nat) (w : World) (hs : At w sb (szOf false (.slice none 0 0)) TSz) (hl : At w pl [.pointer (some ⟨sb,0,none⟩)] tl) (hlb : pl ≠ sb) :
  Calls Tryz.prog 94 #[.pointer (some ⟨sb,0,none⟩),.func (.func 326) #[] #[.pointer (some ⟨pl,0,none⟩)]] w fun e w'=>e=.returned (.tuple #[]) ∧
   ∃ g c,At w' sb (szOf true (.slice (some ⟨g,0,none⟩) 4 c)) TSz∧w'.ownsRow w.heap.size 3 1 (.slice (some ⟨g,0,none⟩) 4 c) 4 szL∧Tch (fun k=>k=sb) w w':=by
 have c1 : At (w.setCell ⟨sb,1,none⟩ (.int .i32 1)) sb (szMid (.slice none 0 0)) TSz:=hs.set 1 (.int .i32 1)
 have l1 : At (w.setCell ⟨sb,1,none⟩ (.int .i32 1)) pl _ tl:=hl.other _ _ hlb
 have hsz : (w.setCell ⟨sb,1,none⟩ (.int .i32 1)).heap.size=w.heap.size:=by simp
 have hm:=szmade1 sb ⟨pl,0,none⟩ _ (l1.cell 0 rfl) c1 hlb
 rw [hsz] at hm
 have hsl:=hs.lt
 refine (once_first 326 sb 0 _ w (fun W'=>∃ g c,At W' sb (szMid (.slice (some ⟨g,0,none⟩) 4 c)) TSz∧W'.ownsRow w.heap.size 3 1 (.slice (some ⟨g,0,none⟩) 4 c) 4 szL∧Tch (fun k=>k=sb) (w.setCell ⟨sb,1,none⟩ (.int .i32 1)) W')
  (hs.cell 0 rfl) (hs.cell 1 rfl) (hs.frozen 1) hm
  ?_ (enters_of Tryz.func326 (by kernel_rfl) rfl)).mono ?_
 ·rintro W' ⟨g,c,h1,_,_⟩
  exact ⟨h1.cell 0 rfl,h1.cell 1 rfl,h1.frozen 0,h1.frozen 1⟩
 ·rintro e w' ⟨rfl,W',⟨g,c,h1,h2,h3⟩,rfl⟩
  have t9 : Tch (fun k=>k=sb) W' ((W'.drew.setCell ⟨sb,0,none⟩ (.int .u32 1)).setCell ⟨sb,1,none⟩ (.int .i32 0)):=(((Tch.refl (fun k=>k=sb) W').tdrew).tset (fun _=>rfl)).tset (fun _=>rfl)
  refine ⟨rfl,g,c,(h1.drew.set 0 (.int .u32 1)).set 1 (.int .i32 0),ownsRow_tch h2 t9 (fun k hk _=>by omega),((Tch.set w ⟨sb,1,none⟩ _).trans h3 (fun _ _ h=>h)).trans t9 (fun _ _ h=>h)⟩
theorem szmade (sb : Nat) (w : World) (hs : At w sb (szOf false (.slice none 0 0)) TSz) :
  Calls Tryz.prog 285 #[.pointer (some ⟨sb,0,none⟩)] w fun e w'=>∃ g c,e=.returned (.slice (some ⟨g,0,none⟩) 4 c)∧w'.ownsRow w.heap.size 3 1 (.slice (some ⟨g,0,none⟩) 4 c) 4 szL∧Tch (fun k=>k=sb) w w':=by
 have hlt:=hs.lt
 have hd:=once_sz sb w.heap.size 388 (w.alloc (.cells #[.pointer (some ⟨sb,0,none⟩)] 388)) (hs.alloc _) (At.new w _ _) (by omega)
 have ta : Tch (fun k=>k=sb) w (w.alloc (.cells #[.pointer (some ⟨sb,0,none⟩)] 388)):=Tch.alloc _ _ _
 have ca : At (w.alloc (.cells #[.pointer (some ⟨sb,0,none⟩)] 388)) w.heap.size [.pointer (some ⟨sb,0,none⟩)] 388:=At.new w _ _
 have hsz : (w.alloc (.cells #[.pointer (some ⟨sb,0,none⟩)] 388)).heap.size=w.heap.size + 1:=by simp
 have CA:=Lib.hid ca
 clear hs ca
 go_enter Tryz.func285,Tryz.ntmps285
 go_wp2_with fail
 refine hd.mono ?_
 rintro e w' ⟨rfl,g,c,h1,h2,h3⟩
 rw [hsz] at h2
 have ca2:=CA.out.tch h3 (by omega)
 have k0:=ca2.cell 0 rfl
 have k3:=h1.cell 3 rfl
 have H2:=Lib.hid h2
 have H3:=Lib.hid h3
 clear hd h1 h2 h3 ca2
 go_wp2
 go_ret
 refine ⟨g,c,rfl,?_,ta.trans H3.out (fun _ _ h=>h)⟩
 have h:=H2.out
 refine ⟨h.1,?_⟩
 rcases h.2 with hn | ⟨g',cap,cur,a,b,rest⟩
 ·exact .inl hn
 ·exact .inr ⟨g',cap,cur,a,by omega,rest⟩
def SizesE (w : World) (e : Ending) (w' : World) : Prop:=∃ g c,e=.returned (.slice (some ⟨g,0,none⟩) 4 c)∧w'.cell? ⟨g,0,none⟩=some (.int .i64 32)∧Below w.heap.size w w'
theorem sizes_any (w : World) : Calls Tryz.prog 226 #[] w (SizesE w):=by
 have cs : At (w.alloc (.cells #[.int .u32 0,.int .i32 0,.int .u32 0,.slice none 0 0] TSz)) w.heap.size (szOf false (.slice none 0 0)) TSz:=At.new w _ _
 have hd:=szmade w.heap.size _ cs
 have ta : Tch (fun _=>False) w (w.alloc (.cells #[.int .u32 0,.int .i32 0,.int .u32 0,.slice none 0 0] TSz)):=Tch.alloc _ _ _
 clear cs
 go_enter Tryz.func226,Tryz.ntmps226
 go_wp2_with fail
 refine hd.mono ?_
 rintro e w' ⟨g,c,rfl,h2,h3⟩
 have H2:=Lib.hid h2
 have H3:=Lib.hid h3
 clear hd h2 h3
 go_wp2
 go_ret
 refine ⟨g,c,rfl,?_,?_⟩
 ·rcases H2.out.2 with ⟨hn,_⟩ | ⟨g',cap,cur,a,_,hh,_,_,_,ht⟩
  ·cases hn
  ·injection a with a
   injection a with a
   injection a with a
   subst a
   unfold World.cell?
   simp only [hh]
   have : cur.toList[0]? = some (.int .i64 32):=by
    have e : (cur.toList.take (4 * 1))[0]? = some (.int .i64 32):=by rw [ht];rfl
    rw [List.getElem?_take] at e
    simpa using e
   simpa using this
 ·have h:=(ta.mono (fun _ _ h=>h.elim)).trans H3.out (fun _ _ h=>h)
  exact ⟨h.os,h.tape,h.output,h.size,fun k hk=>h.block k hk (fun e=>by omega)⟩
theorem size_any (n : Int) (w : World) (h0 : 0 ≤ n) (h1 : n ≤ 30) : Calls Tryz.prog 160 #[.int .i64 n] w fun e w'=>e=.returned (.tuple #[.int .i64 32,.bool true])∧Below w.heap.size w w':=by
 have hs:=sizes_any w
 go_enter Tryz.func160,Tryz.ntmps160
 go_wp2_with fail
 refine hs.mono ?_
 rintro e w1 ⟨g,c,rfl,hc,hb⟩
 clear hs
 go_wp2
 go_loopg [8] 0 (fun gg s8 wr=>s8=.int .i64 0∧wr=w1)
 case atStart=>exact ⟨rfl,rfl⟩
 case round=>
  obtain ⟨rfl,rfl⟩:=hrel
  go_wp2
  go_ret2
  exact ⟨rfl,hb⟩
end Go.Proofs.YtkekohmkaefdnaaGreatDoor
namespace Go.Proofs.YtkekohmkaefdnaaGreatDoor
open Go.RowKit Go.Maps Go.Shelf
attribute [local go_sem ↓] Go.wp_at_zero Go.wp_at_succ
def zl (q : Nat) : List UInt8:=List.replicate q 0
def zb (q : Nat) : ByteArray:=⟨(zl q).toArray⟩
def ZR (w : World) (gg : Nat) (wx : World) : Prop:=
 ∃ q,((q=1∧gg=4) ∨ (q=2∧gg=3) ∨ (q=4∧gg=2) ∨ (q=8∧gg=1) ∨ (q=10∧gg=0))∧Lib.IsBuilderF 241 5 w.heap.size w.heap.size (Lib.byteCells (zl q)) wx∧Below w.heap.size w wx
theorem len_any (B b q : Nat) (w : World) (h : Lib.IsBuilderF 241 5 B b (Lib.byteCells (zl q)) w) :
  Calls Tryz.prog 228 #[.pointer (some ⟨b,0,none⟩)] w fun e w'=>e=.returned (.int .i64 q)∧w'=w:=by
 have:=Tryz.Builder_Len_f B b _ w h
 rw [Lib.byteCells_length,zl,List.length_replicate] at this
 exact this
theorem zl_add (q k : Nat) : zl q ++ zl k=zl (q + k):=by unfold zl;exact List.replicate_append_replicate
theorem wr_any (B b q k : Nat) (W : World) (h : Lib.IsBuilderF 241 5 B b (Lib.byteCells (zl q)) W) (hq : q + k ≤ 100) (hB : B ≤ W.heap.size) :
  Calls Tryz.prog 156 #[.pointer (some ⟨b,0,none⟩),.string (zb k)] W fun e w'=>e=.returned (.tuple #[.int .i64 k,.nilIface])∧Lib.IsBuilderF 241 5 B b (Lib.byteCells (zl (q + k))) w'∧Below B W w':=by
 have hz : (zb k).size=k:=by simp [zb,zl,ByteArray.size]
 refine (ws_any B b _ (zb k) W h (by rw [Lib.byteCells_length,hz,zl,List.length_replicate];omega) hB).mono ?_
 rintro e w' ⟨rfl,h2,b2⟩
 rw [hz]
 rw [Lib.strCells_eq,← Lib.byteCells_append,show (zb k).data.toList=zl k from rfl,zl_add] at h2
 exact ⟨rfl,Or.inr h2,b2⟩
theorem rep10 (w : World) : Calls Tryz.prog 161 #[.string ⟨#[0]⟩,.int .i64 10] w fun e w'=>e=.returned (.string (zb 10))∧Below w.heap.size w w':=by
 have hMul:=Tryz.bits_Mul 1 10 (by decide) (by decide) w
 have b0 : Below w.heap.size w (w.alloc (.cells #[.pointer none,.slice none 0 0] 241)):=(Below.refl _ w).alloc (Nat.le_refl _) _
 have cG:=Tryz.Builder_Grow_fresh w.heap.size w.heap.size 10 (w.alloc (.cells #[.pointer none,.slice none 0 0] 241)) (Nat.le_refl _) (heap_alloc_new w _) b0.size (by decide)
 have hz : ByteArray.size ⟨#[0]⟩=1:=rfl
 go_enter Tryz.func161,Tryz.ntmps161
 go_wp2_with (first | (go_at_call 227;refine hMul.mono ?_;rintro e w' ⟨rfl,rfl⟩) | (go_at_call 216;refine cG.mono ?_;rintro e W1 ⟨rfl,h1,b1⟩))
 have cW:=ws_any w'.heap.size w'.heap.size [] ⟨#[0]⟩ W1 (Lib.IsBuilderF.of (Or.inr h1)) (by decide) (Nat.le_trans b0.size b1.size)
 refine cW.mono ?_
 rintro e W2 ⟨rfl,h2,b2⟩
 have h2' : Lib.IsBuilderF 241 5 w'.heap.size w'.heap.size (Lib.byteCells (zl 1)) W2:=by
  rw [List.nil_append,Lib.strCells_eq] at h2
  exact Or.inr h2
 have b02 : Below w'.heap.size w' W2:=b0.trans (b1.trans b2)
 clear h2 b0 b1 b2 cW cG h1 hMul
 go_wp2
 go_loopg [] 4 (fun gg wx=>ZR w' gg wx)
 case atStart=>exact ⟨1,.inl ⟨rfl,rfl⟩,h2',b02⟩
 case round=>
  obtain ⟨q,hq,hB,hb⟩:=hrel
  clear h2' b02
  have cLen:=len_any w'.heap.size w'.heap.size q wr hB
  have cStr:=Tryz.Builder_String_any_f w'.heap.size w'.heap.size (zl q) wr hB hb.size
  have HB:=Lib.hid hb
  clear hB hb
  rcases hq with ⟨rfl,rfl⟩ | ⟨rfl,rfl⟩ | ⟨rfl,rfl⟩ | ⟨rfl,rfl⟩ | ⟨rfl,rfl⟩
  ·have hS : (⟨(zl 1).toArray⟩ : ByteArray)=zb 1:=rfl
   rw [hS] at cStr
   have hz1 : (zb 1).size=1:=rfl
   have hx : (zb 1).extract 0 1=zb 1:=by decide +kernel
   go_wp2_with (first | (go_at_call 228;refine cLen.mono ?_;rintro e wq ⟨rfl,rfl⟩) | (go_at_call 159;refine cStr.mono ?_;rintro e W3 ⟨rfl,h3,b3⟩) | (go_at_call 156;refine (wr_any w'.heap.size w'.heap.size 1 1 W3 h3 (by decide) (Nat.le_trans HB.out.size b3.size)).mono ?_;rintro e W4 ⟨rfl,h4,b4⟩))
   go_roundg 3
   case measure=>omega
   case rel=>exact ⟨2,by decide,h4,HB.out.trans (b3.trans b4)⟩
  ·have hS : (⟨(zl 2).toArray⟩ : ByteArray)=zb 2:=rfl
   rw [hS] at cStr
   have hz1 : (zb 2).size=2:=rfl
   have hx : (zb 2).extract 0 2=zb 2:=by decide +kernel
   go_wp2_with (first | (go_at_call 228;refine cLen.mono ?_;rintro e wq ⟨rfl,rfl⟩) | (go_at_call 159;refine cStr.mono ?_;rintro e W3 ⟨rfl,h3,b3⟩) | (go_at_call 156;refine (wr_any w'.heap.size w'.heap.size 2 2 W3 h3 (by decide) (Nat.le_trans HB.out.size b3.size)).mono ?_;rintro e W4 ⟨rfl,h4,b4⟩))
   go_roundg 2
   case measure=>omega
   case rel=>exact ⟨4,by decide,h4,HB.out.trans (b3.trans b4)⟩
  ·have hS : (⟨(zl 4).toArray⟩ : ByteArray)=zb 4:=rfl
   rw [hS] at cStr
   have hz1 : (zb 4).size=4:=rfl
   have hx : (zb 4).extract 0 4=zb 4:=by decide +kernel
   go_wp2_with (first | (go_at_call 228;refine cLen.mono ?_;rintro e wq ⟨rfl,rfl⟩) | (go_at_call 159;refine cStr.mono ?_;rintro e W3 ⟨rfl,h3,b3⟩) | (go_at_call 156;refine (wr_any w'.heap.size w'.heap.size 4 4 W3 h3 (by decide) (Nat.le_trans HB.out.size b3.size)).mono ?_;rintro e W4 ⟨rfl,h4,b4⟩))
   go_roundg 1
   case measure=>omega
   case rel=>exact ⟨8,by decide,h4,HB.out.trans (b3.trans b4)⟩
  ·have hS : (⟨(zl 8).toArray⟩ : ByteArray)=zb 8:=rfl
   rw [hS] at cStr
   have hz1 : (zb 8).size=8:=rfl
   have hx : (zb 8).extract 0 2=zb 2:=by decide +kernel
   go_wp2_with (first | (go_at_call 228;refine cLen.mono ?_;rintro e wq ⟨rfl,rfl⟩) | (go_at_call 159;refine cStr.mono ?_;rintro e W3 ⟨rfl,h3,b3⟩) | (go_at_call 156;refine (wr_any w'.heap.size w'.heap.size 8 2 W3 h3 (by decide) (Nat.le_trans HB.out.size b3.size)).mono ?_;rintro e W4 ⟨rfl,h4,b4⟩))
   go_roundg 0
   case measure=>omega
   case rel=>exact ⟨10,by decide,h4,HB.out.trans (b3.trans b4)⟩
  ·have hS : (⟨(zl 10).toArray⟩ : ByteArray)=zb 10:=rfl
   rw [hS] at cStr
   go_wp2_with (first | (go_at_call 228;refine cLen.mono ?_;rintro e wq ⟨rfl,rfl⟩) | (go_at_call 159;refine cStr.mono ?_;rintro e W3 ⟨rfl,h3,b3⟩))
   go_ret
   exact ⟨rfl,HB.out.trans b3⟩
end Go.Proofs.YtkekohmkaefdnaaGreatDoor
namespace Go.Proofs.YtkekohmkaefdnaaGreatDoor
open Go.RowKit Go.Maps Go.Shelf Go.Proofs.YtkekohmkaefdnaaGreatDoorW.PrintWords Go.Proofs.YtkekohmkaefdnaaGreatDoorW.PrintLast Go.Proofs.YtkekohmkaefdnaaGreatDoor.Pa
def head21 : ByteArray:=⟨#[0,21]⟩
theorem head21_size : head21.size=2:=rfl
theorem big_any (w : World) : Calls Tryz.prog 128 #[.string head21] w fun e w'=>e=.returned (.int .u64 21)∧Below w.heap.size w w':=by
 have hcv:=Lib.run_convert_string_bytes (P:=Tryz.prog) w 9 150 5 head21 Tryz.underlying9 Tryz.underlying150 Tryz.underlying5
 have hcell:=Lib.bytesWorld_cell w 5 head21
 have c0:=hcell 0 (by decide)
 have c1:=hcell 1 (by decide)
 have hbb : Hid (Below w.heap.size w (Lib.bytesWorld w 5 head21)):=Lib.hid ⟨rfl,rfl,rfl,by rw [Lib.bytesWorld_size];omega,fun k hk=>Lib.bytesWorld_at_old w _ head21 k hk⟩
 clear hcell
 change (Lib.bytesWorld w 5 head21).cell? ⟨w.heap.size,0,none⟩=some (.int .u8 0) at c0
 change (Lib.bytesWorld w 5 head21).cell? ⟨w.heap.size,1,none⟩=some (.int .u8 21) at c1
 generalize grownCap w head21.size 0 5=cp at hcv
 have hsz:=head21_size
 have hx : head21.extract (max (-6 : Int) 0).toNat 2=head21:=by decide +kernel
 have b1 : Go.bits .or .u64 0 0=0:=by decide
 have b2 : Go.bits .or .u64 0 21=21:=by decide
 go_enter Tryz.func128,Tryz.ntmps128
 go_wp2
 generalize Lib.bytesWorld w 5 head21=W at c0 c1 hbb ⊢
 clear hcv hx
 go_loop [3,14] (fun v i=>∃ j : Nat,j ≤ 2∧i=.int .i64 j∧v=.int .u64 (if j=2 then 21 else 0)) (fun _ i=>2 - (intOf i).toNat)
 case atStart=>exact ⟨0,by omega,rfl,rfl⟩
 case round=>
  obtain ⟨j,hj,rfl,rfl⟩:=hrel
  have h3 : j=0 ∨ j=1 ∨ j=2:=by omega
  rcases h3 with rfl | rfl | rfl
  ·go_wp2
   go_round
   case rel=>exact ⟨1,by omega,rfl,rfl⟩
   case measure=>simp [intOf]
  ·go_wp2
   go_round
   case rel=>exact ⟨2,by omega,rfl,rfl⟩
   case measure=>simp [intOf]
  ·go_wp2
   go_ret
   exact ⟨rfl,hbb.out⟩
def frameB : ByteArray:=⟨#[0,21,1,3,97,110,110,48,49,50,51,52,53,54,55,56,57,97,98,99,100,101,102]⟩
theorem frameB_size : frameB.size=23:=rfl
theorem frameB_0 : frameB.extract 0 2=head21:=by decide +kernel
theorem frameB_2 : frameB.extract 2 23=helloAnn:=by decide +kernel
theorem frameB_3 : frameB.extract 23 23=⟨#[]⟩:=by decide +kernel
theorem helloAnn_size : helloAnn.size=21:=rfl
theorem next_some (s : ByteArray) (rd : Nat) (w : World) (hs : s.size=23) (e0 : s.extract 0 2=head21) (e2 : s.extract 2 23=helloAnn) (e3 : s.extract 23 23=⟨#[]⟩) (hr : At w rd (readV s false 0) TReader) : Calls Tryz.prog 101 #[.pointer (some ⟨rd,0,none⟩)] w fun e w'=>e=.returned (.tuple #[.string helloAnn,.bool true])∧At w' rd (readV ByteArray.empty false 1) TReader∧Tch (fun k=>k=rd) w w':=by
 have c0:=hr.cell 0 rfl
 have c1:=hr.cell 1 rfl
 have HR:=Lib.hid hr
 have hbig:=big_any w
 clear hr
 go_enter Tryz.func101,Tryz.ntmps101
 go_wp2_with fail
 refine hbig.mono ?_
 rintro e w1 ⟨rfl,hb1⟩
 have hr1:=HR.out.below hb1 HR.out.lt
 have HB1:=Lib.hid hb1
 have HR1:=Lib.hid hr1
 have c0:=hr1.cell 0 rfl
 have f0:=hr1.frozen 0
 have hright:=fun W=>Pb.frame_right.calls 21 true W (by decide +kernel)
 clear hb1 hr1 hbig
 go_wp2_with (go_at_call 129;refine (hright _).mono ?_;rintro e w2 ⟨rfl,hn⟩;obtain ⟨n,rfl⟩:=hn)
 have hr2 : At ((w1.drewN n).setCell ⟨rd,0,none⟩ (.string ByteArray.empty)) rd (readV ByteArray.empty false 0) TReader:=(HR1.out.drewN n).set 0 (.string ByteArray.empty)
 have t2 : Tch (fun k=>k=rd) w ((w1.drewN n).setCell ⟨rd,0,none⟩ (.string ByteArray.empty)):=((Tch.of_below _ HB1.out).trans (Tch.drewN (fun _=>False) w1 n) (fun _ _ h=>h.elim)).trans (Tch.set _ ⟨rd,0,none⟩ _) (fun _ _ h=>h)
 obtain ⟨W2,hW2⟩ : ∃ W2,(w1.drewN n).setCell ⟨rd,0,none⟩ (.string ByteArray.empty)=W2:=⟨_,rfl⟩
 rw [hW2] at hr2 t2 ⊢
 clear hW2
 refine (i64_add ⟨rd,2,none⟩ 0 1 1 W2 (hr2.cell 2 rfl) (hr2.frozen 2) (by decide)).mono ?_
 rintro e w3 ⟨rfl,rfl⟩
 have hr3 : At (W2.setCell ⟨rd,2,none⟩ (.int .i64 1)) rd (readV ByteArray.empty false 1) TReader:=hr2.set 2 (.int .i64 1)
 have t3 : Tch (fun k=>k=rd) w (W2.setCell ⟨rd,2,none⟩ (.int .i64 1)):=t2.trans (Tch.set _ ⟨rd,2,none⟩ _) (fun _ _ h=>h)
 obtain ⟨W3,hW3⟩ : ∃ W3,W2.setCell ⟨rd,2,none⟩ (.int .i64 1)=W3:=⟨_,rfl⟩
 rw [hW3] at hr3 t3 ⊢
 clear hW3 hr2 t2
 have HR3:=Lib.hid hr3
 have HT3:=Lib.hid t3
 have hcl:=clone_any helloAnn W3 (by decide)
 clear hr3 t3 hright e0 e2 e3
 go_wp2_with (go_at_call 57;refine hcl.mono ?_;rintro e w4 ⟨rfl,hb4⟩)
 go_ret2
 exact ⟨rfl,HR3.out.below hb4 HR3.out.lt,HT3.out.trans (Tch.of_below (fun _=>False) hb4) (fun _ _ h=>h.elim)⟩
theorem next_none (rd : Nat) (came : Int) (w : World) (hr : At w rd (readV ByteArray.empty false came) TReader) : Calls Tryz.prog 101 #[.pointer (some ⟨rd,0,none⟩)] w fun e w'=>e=.returned (.tuple #[.string ⟨#[]⟩,.bool false])∧w=w':=by
 have c0:=hr.cell 0 rfl
 have c1:=hr.cell 1 rfl
 have hs : ByteArray.empty.size=0:=rfl
 clear hr
 go_enter Tryz.func101,Tryz.ntmps101
 go_wp2
 go_ret2
 exact ⟨rfl,rfl⟩
end Go.Proofs.YtkekohmkaefdnaaGreatDoor
namespace Go.Proofs.YtkekohmkaefdnaaGreatDoor
open Go.RowKit Go.Maps Go.Shelf
def OneS (w : World) (B : Nat) (v : Value) (s : ByteArray) : Prop:=∃ g c,v=.slice (some ⟨g,0,none⟩) 1 c∧B ≤ g∧g < w.heap.size∧w.cell? ⟨g,0,none⟩=some (.string s)
theorem OneS.tch {w w1 : World} {B : Nat} {v : Value} {s : ByteArray} {S : Nat→Prop} (h : OneS w B v s) (t : Tch S w w1) (hS : ∀ k,S k→k < B) : OneS w1 B v s:=by
 obtain ⟨g,c,h1,h2,h3,h4⟩:=h
 exact ⟨g,c,h1,h2,t.lt h3,(t.cell h3 (fun hs=>Nat.not_lt.2 h2 (hS _ hs))).trans h4⟩
def FeedR (w : World) (rd : Nat) (gg : Nat) (out : Value) (wr : World) : Prop:=
 (1 ≤ gg∧out=.slice none 0 0∧At wr rd (readV frameB false 0) TReader∧Tch (fun k=>k=rd) w wr) ∨ (OneS wr w.heap.size out helloAnn∧At wr rd (readV ByteArray.empty false 1) TReader∧Tch (fun k=>k=rd) w wr)
def FeedE (rd : Nat) (w : World) (e : Ending) (w' : World) : Prop:=∃ v,e=.returned (.tuple #[v,.bool true])∧OneS w' w.heap.size v helloAnn∧At w' rd (readV ByteArray.empty false 1) TReader∧Tch (fun k=>k=rd) w w'
theorem frame_cat : ByteArray.empty ++ frameB=frameB:=by decide +kernel
theorem feed_one (rd : Nat) (w : World) (hr : At w rd (readV ByteArray.empty false 0) TReader) : Calls Tryz.prog 73 #[.pointer (some ⟨rd,0,none⟩),.string frameB] w (FeedE rd w):=by
 have c0:=hr.cell 0 rfl
 have c1:=hr.cell 1 rfl
 have f0:=hr.frozen 0
 have hz:=frameB_size
 have hz0 : ByteArray.empty.size=0:=rfl
 have hc:=frame_cat
 have hr1 : At (w.setCell ⟨rd,0,none⟩ (.string frameB)) rd (readV frameB false 0) TReader:=hr.set 0 (.string frameB)
 have HR:=Lib.hid hr1
 have hrl:=hr.lt
 obtain ⟨i0,hi,hz0',hz1,hz2⟩:=info_parts info_str
 clear hr hr1
 go_enter Tryz.func73,Tryz.ntmps73
 go_wp2
 clear hc c0 c1 f0 hz hz0
 go_loopg [6] 1 (fun gg s6 wr=>FeedR w rd gg s6 wr)
 case atStart=>exact .inl ⟨Nat.le_refl _,rfl,HR.out,Tch.set w ⟨rd,0,none⟩ _⟩
 case round=>
  rcases hrel with ⟨hg,rfl,hr,ht⟩ | ⟨ho,hr,ht⟩
  ·have hn:=next_some frameB rd wr frameB_size frameB_0 frameB_2 frameB_3 hr
   have HT:=Lib.hid ht
   clear hr ht
   go_wp2_with fail
   refine hn.mono ?_
   rintro e w1 ⟨rfl,hr1,ht1⟩
   have HR1:=Lib.hid hr1
   have HT1:=Lib.hid ((HT.out.trans ht1 (fun _ _ h=>h)))
   clear hn hr1 ht1
   have z1:=HT1.out.size
   go_wp2
   go_roundg 0
   case measure=>omega
   case rel=>
    refine .inr ⟨⟨_,_,rfl,by omega,by simp,?_⟩,((HR1.out.alloc _).alloc _).drew,((HT1.out.trans (Tch.alloc (fun _=>False) _ _) (fun _ _ h=>h.elim)).trans (Tch.alloc (fun _=>False) _ _) (fun _ _ h=>h.elim)).trans (Tch.drew (fun _=>False) _) (fun _ _ h=>h.elim)⟩
    rw [World.cell?_drew]
    exact (at_new' _ _ _ _ (by simp)).cell 0 (by simp)
  ·have hn:=next_none rd 1 wr hr
   have c1:=hr.cell 1 rfl
   have HR1:=Lib.hid hr
   have HT1:=Lib.hid ht
   have HO:=Lib.hid ho
   obtain ⟨g,c,rfl,_,_,_⟩:=ho
   clear hr ht
   go_wp2_with fail
   refine hn.mono ?_
   rintro e w1 ⟨rfl,rfl⟩
   clear hn
   go_wp2_with fail
   go_quiet (fail)
   go_wp2
   go_ret2
   exact ⟨_,rfl,HO.out.tch (Tch.drewN (fun _=>False) _ _) (fun _ h=>h.elim),HR1.out.drewN _,HT1.out.trans (Tch.drewN (fun _=>False) _ _) (fun _ _ h=>h.elim)⟩
end Go.Proofs.YtkekohmkaefdnaaGreatDoor
namespace Go.Proofs.YtkekohmkaefdnaaGreatDoor
open Go.RowKit Go.Maps Go.Shelf Go.Sort Go.Lib
attribute [local go_sem ↓] Go.wp_at_zero Go.wp_at_succ
theorem keys_nil (tb : Nat) (d : Bool) (n : Int) (w : World) (ht : At w tb (tableV d (.slice none 0 0) n) TTable) :
  Calls Tryz.prog 86 #[.pointer (some ⟨tb,0,none⟩)] w fun e w'=>e=.returned (.slice none 0 0)∧w'=w:=by
 have c4:=ht.cell 4 rfl
 have hs:=fun W=>AnyM.slices_Sort_string_none Tryz.sortS none 0 W
 change ∀ W,Calls Tryz.prog 121 _ W _ at hs
 clear ht
 go_enter Tryz.func86,Tryz.ntmps86
 go_wp2
 go_loopg [3,15] 0 (fun gg s3 s15 wr=>s3=.slice none 0 0∧s15=.int .i64 0∧wr=w)
 case atStart=>exact ⟨rfl,rfl,rfl⟩
 case round=>
  obtain ⟨rfl,rfl,rfl⟩:=hrel
  go_wp2_with fail
  refine (hs _).mono ?_
  rintro e w1 ⟨rfl,rfl⟩
  go_wp2
  go_ret
  exact ⟨rfl,rfl⟩
theorem items_nil (cb tb : Nat) (budget used ver gone : Int) (order : Value) (w : World) (hc : At w cb (cacheV budget tb order used ver gone) TCache) (d : Bool) (n : Int) (ht : At w tb (tableV d (.slice none 0 0) n) TTable) :
  Calls Tryz.prog 53 #[.pointer (some ⟨cb,0,none⟩)] w fun e w'=>e=.returned (.slice none 0 0)∧w'=w:=by
 have c1:=hc.cell 1 rfl
 have hk:=keys_nil tb d n w ht
 clear hc ht
 go_enter Tryz.func53,Tryz.ntmps53
 go_wp2_with fail
 refine hk.mono ?_
 rintro e w1 ⟨rfl,rfl⟩
 clear hk
 go_wp2
 go_loopg [3,16] 0 (fun gg s3 s16 wr=>s3=.slice none 0 0∧s16=.int .i64 0∧wr=w1)
 case atStart=>exact ⟨rfl,rfl,rfl⟩
 case round=>
  obtain ⟨rfl,rfl,rfl⟩:=hrel
  go_wp2
  go_ret
  exact ⟨rfl,rfl⟩
theorem sweep_nil (cb tb : Nat) (budget used ver gone now : Int) (order : Value) (w : World) (hc : At w cb (cacheV budget tb order used ver gone) TCache) (d : Bool) (n : Int) (ht : At w tb (tableV d (.slice none 0 0) n) TTable) :
  Calls Tryz.prog 114 #[.pointer (some ⟨cb,0,none⟩),.int .i64 now] w fun e w'=>e=.returned (.tuple #[])∧w'=w:=by
 have hk:=items_nil cb tb budget used ver gone order w hc d n ht
 clear hc ht
 go_enter Tryz.func114,Tryz.ntmps114
 go_wp2_with fail
 refine hk.mono ?_
 rintro e w1 ⟨rfl,rfl⟩
 clear hk
 go_wp2
 go_loopg [9] 0 (fun gg s9 wr=>s9=.int .i64 0∧wr=w1)
 case atStart=>exact ⟨rfl,rfl⟩
 case round=>
  obtain ⟨rfl,rfl⟩:=hrel
  go_wp2
  go_end0
  exact ⟨rfl,rfl⟩
end Go.Proofs.YtkekohmkaefdnaaGreatDoor
namespace Go.Proofs.YtkekohmkaefdnaaGreatDoor
open Go.RowKit Go.Maps Go.Shelf Go.Sort Go.Lib
attribute [local go_sem ↓] Go.wp_at_zero Go.wp_at_succ
theorem del_none (F : Nat→Prop) (cb tb : Nat) (budget used ver gone n : Int) (sl : List Value) (w : World) (hc : At w cb (cacheV budget tb (.slice none 0 0) used ver gone) TCache) (hp : ∀ W,Tch (fun k=>k=cb) w W→PlaceC F tb n (-1) sl W) (htb : tb < w.heap.size) (hct : cb ≠ tb) :
  Calls Tryz.prog 148 #[.pointer (some ⟨cb,0,none⟩),.string keyA] w fun e w'=>e=.returned (.tuple #[])∧At w' cb (cacheV budget tb (.slice none 0 0) used ver gone) TCache∧TabIs F w' tb n sl∧Tch (fun k=>k=cb ∨ k=tb) w w':=by
 have hcl:=hc.lt
 have ta : Tch (fun _=>False) w (w.alloc (.cells #[.string keyA] 9)):=Tch.alloc _ _ _
 have ca : At (w.alloc (.cells #[.string keyA] 9)) w.heap.size [.string keyA] 9:=At.new w _ _
 have hc1:=hc.tch ta (fun h=>h)
 have hdel:=fun fv W=>del_nil Tryz.delS fv W
 change ∀ fv W,Calls Tryz.prog 217 _ W _ at hdel
 have k1:=hc1.cell 1 rfl
 have k2:=hc1.cell 2 rfl
 have f2:=hc1.frozen 2
 have HA:=Lib.hid ca
 have HT:=Lib.hid ta
 have HC:=Lib.hid hc
 have HP:=Lib.hid hp
 clear hp ta ca hc hc1
 go_enter Tryz.func148,Tryz.ntmps148
 go_wp2_with (go_at_call 217;refine (hdel _ _).mono ?_;rintro e w1 ⟨rfl,rfl⟩)
 have hc2 : At ((w.setCell ⟨cb,2,none⟩ (.slice none 0 0)).alloc (.cells #[.string keyA] 9)) cb (cacheV budget tb (.slice none 0 0) used ver gone) TCache:=(HC.out.set 2 (.slice none 0 0)).alloc _
 have ca2 : At ((w.setCell ⟨cb,2,none⟩ (.slice none 0 0)).alloc (.cells #[.string keyA] 9)) w.heap.size [.string keyA] 9:=at_new' _ _ _ _ (by simp)
 have t2 : Tch (fun k=>k=cb) w ((w.setCell ⟨cb,2,none⟩ (.slice none 0 0)).alloc (.cells #[.string keyA] 9)):=(Tch.set w ⟨cb,2,none⟩ _).trans (Tch.alloc (fun _=>False) _ _) (fun _ _ h=>h.elim)
 obtain ⟨W2,hW2⟩ : ∃ W2,(w.setCell ⟨cb,2,none⟩ (.slice none 0 0)).alloc (.cells #[.string keyA] 9)=W2:=⟨_,rfl⟩
 rw [hW2] at hc2 ca2 t2 ⊢
 clear hW2 k1 k2 f2 hdel
 have hg:=fun W3 (t3 : Tch (fun _=>False) W2 W3)=>get_none F tb n sl W3 (fun W4 t4=>HP.out W2 t2 W4 (t3.trans t4 (fun _ _ h=>h))) (t3.lt (t2.lt htb))
 have htbw : tb < W2.heap.size:=t2.lt htb
 have k1:=hc2.cell 1 rfl
 have k0:=ca2.cell 0 rfl
 have hcl2:=hc2.lt
 have hal2:=ca2.lt
 have hne : w.heap.size ≠ tb:=by omega
 have HC2:=Lib.hid hc2
 have HA2:=Lib.hid ca2
 have HT2:=Lib.hid t2
 clear hc2 ca2 t2
 generalize hga : w.heap.size=ga at *
 go_region_held3 (fun w'=>w'.cell? ⟨cb,1,none⟩=some (.pointer (some ⟨tb,0,none⟩))∧w'.cell? ⟨ga,0,none⟩=some (.string keyA))
  ((go_split_ands;refine ⟨by (repeat (first | (with_reducible assumption) | (rw [World.cell?_drew]) | (rw [World.cell?_drewN]) | (rw [(tch_set4 _ W2.heap.size _ _ _ _).cell (show cb < _ from by (have q:=ht3.size;simp at q ⊢;omega)) (show ¬ cb=_ from by omega)]) | (rw [(tch_set4 _ w3.heap.size _ _ _ _).cell (show cb < _ from by (have q:=ht3.size;simp at q ⊢;omega)) (show ¬ cb=_ from by (have q:=ht3.size;simp at q;omega))]) | (rw [ht3.cell (show cb < _ from by first | exact hcl2 | (simp;omega)) hct]) | (rw [(Tch.alloc (fun _=>False) _ _).cell (show cb < _ from by first | exact hcl2 | (simp;omega) | (have q:=ht3.size;simp at q ⊢;omega)) (fun h=>h)]))),by (repeat (first | (with_reducible assumption) | (rw [World.cell?_drew]) | (rw [World.cell?_drewN]) | (rw [(tch_set4 _ W2.heap.size _ _ _ _).cell (show ga < _ from by (have q:=ht3.size;simp at q ⊢;omega)) (show ¬ ga=_ from by omega)]) | (rw [(tch_set4 _ w3.heap.size _ _ _ _).cell (show ga < _ from by (have q:=ht3.size;simp at q ⊢;omega)) (show ¬ ga=_ from by (have q:=ht3.size;simp at q;omega))]) | (rw [ht3.cell (show ga < _ from by first | exact hal2 | (simp;omega)) hne]) | (rw [(Tch.alloc (fun _=>False) _ _).cell (show ga < _ from by first | exact hal2 | (simp;omega) | (have q:=ht3.size;simp at q ⊢;omega)) (fun h=>h)])))⟩))
  ((go_at_call 87;refine (hg _ ?_).mono ?_;(first | exact Tch.drew _ _ | exact (Tch.alloc _ _ _).trans (Tch.drew (fun _=>False) _) (fun _ _ h=>h));rintro e w3 ⟨rfl,htab,ht3⟩;try (have za:=((at_new' W2 #[.string ⟨#[]⟩,.string ⟨#[]⟩,.int .i64 0,.int .i64 0] TItem W2.heap.size rfl).drew.tch ht3 (by omega));have z0:=za.cell 0 rfl;have z1:=za.cell 1 rfl;have z2:=za.cell 2 rfl;have z3:=za.cell 3 rfl;have y0:=za.frozen 0;have y1:=za.frozen 1;have y2:=za.frozen 2;have y3:=za.frozen 3)))
 ·have t3 : Tch (fun k=>k=tb) W2 w3:=(Tch.drew (fun k=>k=tb) W2).trans ht3 (fun _ _ h=>h)
  have t4 : Tch (fun k=>k=tb) W2 (w3.alloc (.cells #[.string ⟨#[]⟩,.string ⟨#[]⟩,.int .i64 0,.int .i64 0] TItem)):=t3.trans (Tch.alloc (fun _=>False) _ _) (fun _ _ h=>h.elim)
  have htab2:=htab.tch (Tch.alloc (fun _=>False) w3 (.cells #[.string ⟨#[]⟩,.string ⟨#[]⟩,.int .i64 0,.int .i64 0] TItem)) (fun h=>h) (fun _ _ h=>h)
  have HT4:=Lib.hid t4
  have HB2:=Lib.hid htab2
  clear t3 t4 htab htab2 ht3
  go_wp2
  go_end0
  exact ⟨rfl,HC2.out.tch HT4.out hct,HB2.out,(HT2.out.mono (fun _ _ h=>.inl h)).trans HT4.out (fun _ _ h=>.inr h)⟩
 ·have t4:=tch_set4 w3 W2.heap.size (.string ⟨#[]⟩) (.string ⟨#[]⟩) (.int .i64 0) (.int .i64 0)
  have hb4:=htab.tch t4 (by omega) (fun sb hsb=>at_ne2 hsb za (by decide))
  have t5 : Tch (fun k=>k=tb ∨ k=W2.heap.size) W2 ((((w3.setCell ⟨W2.heap.size,0,none⟩ (.string ⟨#[]⟩)).setCell ⟨W2.heap.size,1,none⟩ (.string ⟨#[]⟩)).setCell ⟨W2.heap.size,2,none⟩ (.int .i64 0)).setCell ⟨W2.heap.size,3,none⟩ (.int .i64 0)):=
   (((((Tch.alloc (fun _=>False) W2 _).trans (Tch.drew (fun _=>False) _) (fun _ _ h=>h)).mono (fun _ _ h=>h.elim)).trans ht3 (fun _ _ h=>.inl h))).trans t4 (fun _ _ h=>.inr h)
  have HT5:=Lib.hid t5
  have HB4:=Lib.hid hb4
  clear t4 hb4 t5 htab ht3 za z0 z1 z2 z3 y0 y1 y2 y3
  go_wp2
  go_end0
  refine ⟨rfl,HC2.out.tch HT5.out (by omega),HB4.out,(HT2.out.mono (fun _ _ h=>.inl h)).trans HT5.out (fun k hk h=>?_)⟩
  have q:=HT2.out.size
  rcases h with h | h
  ·exact .inr h
  ·omega
end Go.Proofs.YtkekohmkaefdnaaGreatDoor
namespace Go.Proofs.YtkekohmkaefdnaaGreatDoor
open Go.RowKit Go.Maps Go.Shelf Go.Sort Go.Lib Go.Proofs.YtkekohmkaefdnaaGreatDoorW.PrintWords Go.Proofs.YtkekohmkaefdnaaGreatDoorW.PrintLast
attribute [local go_sem ↓] Go.wp_at_zero Go.wp_at_succ
theorem info_item : (Tryz.prog.info? 103).map (fun i=>(i.zero,i.size,i.bytes))=some (some zeroItem,4,48):=by kernel_rfl
theorem tput_any (tb sb : Nat) (v : ByteArray) (ver unt : Int) (w : World) (ht : At w tb (tableV true (.slice (some ⟨sb,0,none⟩) 8 8) 0) TTable) (hs : At w sb nil8 TItems) :
  Calls Tryz.prog 222 #[.pointer (some ⟨tb,0,none⟩),.agg #[.string keyA,.string v,.int .i64 ver,.int .i64 unt]] w fun e w'=>e=.returned (.bool true)∧∃ b c zs,At w' b (itemL keyA v ver unt ++ zs) TItem∧At w' tb (tableV true (.slice (some ⟨sb,0,none⟩) 8 8) 1) TTable∧At w' sb (oneA b c) TItems∧w.heap.size ≤ b∧Tch (fun k=>k=tb ∨ k=sb) w w':=by
 have htl:=ht.lt
 have hsl:=hs.lt
 have hts : tb ≠ sb:=at_ne2 ht hs (by decide)
 have ta : Tch (fun _=>False) w (w.alloc (.cells #[.string keyA,.string v,.int .i64 ver,.int .i64 unt] TItem)):=Tch.alloc _ _ _
 have ca : At (w.alloc (.cells #[.string keyA,.string v,.int .i64 ver,.int .i64 unt] TItem)) w.heap.size [.string keyA,.string v,.int .i64 ver,.int .i64 unt] TItem:=At.new w _ _
 have hp:=PlaceC.none_ (MadeC.again ht hs) htl _ ta
 have a0:=ca.cell 0 rfl
 have HA:=Lib.hid ca
 have HT:=Lib.hid ta
 have HTB:=Lib.hid ht
 have HSB:=Lib.hid hs
 clear ht hs ta ca
 go_enter Tryz.func222,Tryz.ntmps222
 go_wp2_with (go_at_call 122;refine hp.mono ?_;rintro e w1 ⟨rfl,sb1,rfl,ht1,hs1,tt1⟩)
 have hne : w.heap.size ≠ tb:=by omega
 have t1 : Tch (fun k=>k=tb) w w1:=(HT.out.mono (fun _ _ h=>h.elim)).trans tt1 (fun _ _ h=>h)
 have ca1:=HA.out.tch tt1 (fun h=>hne h)
 have q0:=ca1.cell 0 rfl
 have q1:=ca1.cell 1 rfl
 have q2:=ca1.cell 2 rfl
 have q3:=ca1.cell 3 rfl
 have c4:=ht1.cell 4 rfl
 have s4:=hs1.cell 4 rfl
 have f4:=hs1.frozen 4
 have hns : sb1 ≠ w.heap.size:=at_ne2 hs1 ca1 (by decide)
 have HT1:=Lib.hid t1
 have HA1:=Lib.hid ca1
 have HTB1:=Lib.hid ht1
 have HSB1:=Lib.hid hs1
 have htl1:=ht1.lt
 have hsl1:=hs1.lt
 have hal1:=ca1.lt
 clear t1 ca1 ht1 hs1 tt1 hp HTB HSB a0
 obtain ⟨i0,hi,hz0',hz1,hz2⟩:=info_parts info_item
 generalize hga : w.heap.size=ga at *
 have hts1 : tb ≠ sb1:=at_ne2 HTB1.out HSB1.out (by decide)
 have hts2 : sb1 ≠ tb:=Ne.symm hts1
 have hgs1 : ga ≠ sb1:=Ne.symm hns
 have mk : ∀ W' : World,Tch (fun _=>False) w1 W'→(W'.cell? ⟨tb,4,none⟩=some (.slice (some ⟨sb1,0,none⟩) 8 8)∧W'.cell? ⟨sb1,4,none⟩=some (.slice none 0 0)∧W'.cell? ⟨ga,0,none⟩=some (.string keyA)∧W'.cell? ⟨ga,1,none⟩=some (.string v)∧W'.cell? ⟨ga,2,none⟩=some (.int .i64 ver)∧W'.cell? ⟨ga,3,none⟩=some (.int .i64 unt)):=fun W' t=>⟨(HTB1.out.tch t (fun h=>h)).cell 4 rfl,(HSB1.out.tch t (fun h=>h)).cell 4 rfl,(HA1.out.tch t (fun h=>h)).cell 0 rfl,(HA1.out.tch t (fun h=>h)).cell 1 rfl,(HA1.out.tch t (fun h=>h)).cell 2 rfl,(HA1.out.tch t (fun h=>h)).cell 3 rfl⟩
 refine start_ (n:=17) (S:=fun W'=>W'.cell? ⟨tb,4,none⟩=some (.slice (some ⟨sb1,0,none⟩) 8 8)∧W'.cell? ⟨sb1,4,none⟩=some (.slice none 0 0)∧W'.cell? ⟨ga,0,none⟩=some (.string keyA)∧W'.cell? ⟨ga,1,none⟩=some (.string v)∧W'.cell? ⟨ga,2,none⟩=some (.int .i64 ver)∧W'.cell? ⟨ga,3,none⟩=some (.int .i64 unt)) (ds:=[16]) _ (by kernel_rfl) rfl rfl (mk _ (Tch.drew _ _)) (fun hHeld=>?_)
 refine pu_ 0 (some 28) ?_
 refine pu_ 1 (some 29) ?_
 refine pu_ 2 (some 30) ?_
 refine pu_ 4 (some 32) ?_
 refine pu_ 5 (some 33) ?_
 refine pu_ 6 (some 34) ?_
 refine pu_ 7 (some 35) ?_
 refine pu_ 9 (some 37) ?_
 refine ta_ 3 (some 31) hHeld ?_
 refine ta_ 8 (some 36) hHeld ?_
 refine pu_ 10 (some 38) ?_
 refine ta_ 11 (some 39) hHeld ?_
 refine ta_ 12 (some 40) hHeld ?_
 refine on_ 13 (some 41) fun K hK=>?_
 go_simp
 refine hK.out _ _ (mk _ ((Tch.alloc (fun _=>False) _ _).trans (Tch.drew (fun _=>False) _) (fun _ _ h=>h))) (fun hHeld2_=>?_)
 clear hK K hHeld;have hHeld:=hHeld2_;clear hHeld2_
 refine nm_ (some 41) ?_
 refine on_ 14 (some 42) fun K hK=>?_
 go_simp
 refine hK.out _ _ (mk _ ((((Tch.alloc (fun _=>False) _ _).trans (Tch.alloc (fun _=>False) _ _) (fun _ _ h=>h)).trans (Tch.drew (fun _=>False) _) (fun _ _ h=>h)).trans (Tch.drew (fun _=>False) _) (fun _ _ h=>h))) (fun hHeld2_=>?_)
 clear hK K hHeld;have hHeld:=hHeld2_;clear hHeld2_
 refine nm_ (some 42) ?_
 refine pu_ 15 (some 43) ?_
 refine la_ 16 none fun K hK=>?_
 go_simp
 refine hK.out _ _ ?_
 clear hK K
 refine nm_ none ?_
 refine done_ (by kernel_rfl) ?_;clear hHeld
 clear mk
 all_goals
  have hgr:=at_app ((w1.setCell ⟨sb1,4,none⟩ (.slice (some ⟨w1.heap.size + 1,0,none⟩) 1 ((Question.appendCap 1 0 TItem).cut (w1.tape (w1.drawn + 1) (Question.appendCap 1 0 TItem))))).alloc (.cells #[.string keyA,.string v,.int .i64 ver,.int .i64 unt] TItem)) #[.string keyA,.string v,.int .i64 ver,.int .i64 unt] (Builtin.zeroCells #[.string ⟨#[]⟩,.string ⟨#[]⟩,.int .i64 0,.int .i64 0] ((Question.appendCap 1 0 TItem).cut (w1.tape (w1.drawn + 1) (Question.appendCap 1 0 TItem)) - 1)) TItem (w1.heap.size + 1) (by simp)
  have hsA:=(((HSB1.out.set 4 (.slice (some ⟨w1.heap.size + 1,0,none⟩) 1 ((Question.appendCap 1 0 TItem).cut (w1.tape (w1.drawn + 1) (Question.appendCap 1 0 TItem))))).alloc (.cells #[.string keyA,.string v,.int .i64 ver,.int .i64 unt] TItem)).alloc (.cells (#[.string keyA,.string v,.int .i64 ver,.int .i64 unt] ++ (Builtin.zeroCells #[.string ⟨#[]⟩,.string ⟨#[]⟩,.int .i64 0,.int .i64 0] ((Question.appendCap 1 0 TItem).cut (w1.tape (w1.drawn + 1) (Question.appendCap 1 0 TItem)) - 1))) TItem)).drew.drew
  have htA:=(((HTB1.out.other ⟨sb1,4,none⟩ (.slice (some ⟨w1.heap.size + 1,0,none⟩) 1 ((Question.appendCap 1 0 TItem).cut (w1.tape (w1.drawn + 1) (Question.appendCap 1 0 TItem)))) hts1).alloc (.cells #[.string keyA,.string v,.int .i64 ver,.int .i64 unt] TItem)).alloc (.cells (#[.string keyA,.string v,.int .i64 ver,.int .i64 unt] ++ (Builtin.zeroCells #[.string ⟨#[]⟩,.string ⟨#[]⟩,.int .i64 0,.int .i64 0] ((Question.appendCap 1 0 TItem).cut (w1.tape (w1.drawn + 1) (Question.appendCap 1 0 TItem)) - 1))) TItem)).drew.drew
  have tA : Tch (fun k=>k=sb1) w1 _:=((((Tch.set w1 ⟨sb1,4,none⟩ (.slice (some ⟨w1.heap.size + 1,0,none⟩) 1 ((Question.appendCap 1 0 TItem).cut (w1.tape (w1.drawn + 1) (Question.appendCap 1 0 TItem))))).trans (Tch.alloc (fun _=>False) _ (.cells #[.string keyA,.string v,.int .i64 ver,.int .i64 unt] TItem)) (fun _ _ h=>h.elim)).trans (Tch.alloc (fun _=>False) _ (.cells (#[.string keyA,.string v,.int .i64 ver,.int .i64 unt] ++ (Builtin.zeroCells #[.string ⟨#[]⟩,.string ⟨#[]⟩,.int .i64 0,.int .i64 0] ((Question.appendCap 1 0 TItem).cut (w1.tape (w1.drawn + 1) (Question.appendCap 1 0 TItem)) - 1))) TItem)) (fun _ _ h=>h.elim)).trans (Tch.drew (fun _=>False) _) (fun _ _ h=>h.elim)).trans (Tch.drew (fun _=>False) _) (fun _ _ h=>h.elim)
  have hgr2:=hgr.drew.drew
  clear hgr
  generalize (Question.appendCap 1 0 TItem).cut (w1.tape (w1.drawn + 1) (Question.appendCap 1 0 TItem))=cc at *
  generalize Builtin.zeroCells #[.string ⟨#[]⟩,.string ⟨#[]⟩,.int .i64 0,.int .i64 0] (cc - 1)=zz at *
  have hfar : w1.heap.size ≤ w1.heap.size + 1:=Nat.le_succ _
  generalize w1.heap.size + 1=gb at *
  obtain ⟨W5,hW5⟩ : ∃ W5,(((w1.setCell ⟨sb1,4,none⟩ (.slice (some ⟨gb,0,none⟩) 1 cc)).alloc (.cells #[.string keyA,.string v,.int .i64 ver,.int .i64 unt] TItem)).alloc (.cells (#[.string keyA,.string v,.int .i64 ver,.int .i64 unt] ++ zz) TItem)).drew.drew=W5:=⟨_,rfl⟩
  rw [hW5] at hgr2 hsA htA tA ⊢
  clear hW5 q0 q1 q2 q3 s4 f4 c4
  have hgt : gb ≠ tb:=by omega
  have hadd:=fun W (t : Tch (fun _=>False) W5 W)=>i64_add ⟨tb,5,none⟩ 0 1 1 W ((htA.tch t (fun h=>h)).cell 5 rfl) ((htA.tch t (fun h=>h)).frozen 5) (by decide)
  have c4:=htA.cell 4 rfl
  have htl5:=htA.lt
  have HSA:=Lib.hid hsA
  have HTA:=Lib.hid htA
  have HGA:=Lib.hid hgr2
  have HW5:=Lib.hid tA
  clear hsA htA hgr2 tA
  go_wp2
  refine start_ (n:=10) (S:=fun W'=>W'.cell? ⟨tb,4,none⟩=some (.slice (some ⟨sb1,0,none⟩) 8 8)) (ds:=[]) _ (by kernel_rfl) rfl rfl (c4) (fun hHeld=>?_)
  refine pu_ 0 (some 44) ?_
  refine pu_ 1 (some 45) ?_
  refine pu_ 2 (some 46) ?_
  refine pu_ 4 (some 48) ?_
  refine pu_ 5 (some 49) ?_
  refine pu_ 6 (some 50) ?_
  refine ta_ 7 (some 51) hHeld ?_
  refine pu_ 8 (some 52) ?_
  refine on_ 3 (some 47) fun K hK=>?_
  go_simp;go_at_call 55;refine (hadd _ (Tch.drew _ _)).mono ?_;rintro e w6 ⟨rfl,rfl⟩;go_simp
  refine hK.out _ _ ((World.cell?_setCell_other _ _ _ _ (by simp)).trans c4) (fun hHeld2_=>?_)
  clear hK K hHeld;have hHeld:=hHeld2_;clear hHeld2_
  refine nm_ (some 47) ?_
  refine pu_ 9 (some 53) ?_
  refine done_ (by kernel_rfl) ?_;clear hHeld
  all_goals
   go_wp2
   go_ret
   have t6 : Tch (fun k=>k=tb) W5 (W5.setCell ⟨tb,5,none⟩ (.int .i64 1)).drew:=(Tch.set W5 ⟨tb,5,none⟩ (.int .i64 1)).trans (Tch.drew (fun _=>False) _) (fun _ _ h=>h.elim)
   refine ⟨rfl,gb,cc,zz.toList,HGA.out.tch t6 hgt,(HTA.out.set 5 (.int .i64 1)).drew,HSA.out.tch t6 hts2,by rw [hga];omega,?_⟩
   exact ((HT1.out.mono (fun k _ h=>.inl h)).trans HW5.out (fun k hk h=>.inr h)).trans t6 (fun k _ h=>.inl h)
end Go.Proofs.YtkekohmkaefdnaaGreatDoor
namespace Go.Proofs.YtkekohmkaefdnaaGreatDoor
open Go.RowKit Go.Maps Go.Shelf Go.Sort Go.Lib Go.Proofs.YtkekohmkaefdnaaGreatDoorW.PrintWords Go.Proofs.YtkekohmkaefdnaaGreatDoorW.PrintLast
attribute [local go_sem ↓] Go.wp_at_zero Go.wp_at_succ
theorem put_any (cb tb sb : Nat) (budget ver gone : Int) (v : ByteArray) (iv unt : Int) (cost : Int) (w : World) (hv : v.size ≤ 1000) (hcost : Pb.cache_Cost.f keyA v iv unt=some cost) (p0 : 0 ≤ cost) (p1 : cost ≤ 100000) (hc : At w cb (cacheV budget tb (.slice none 0 0) 0 ver gone) TCache) (ht : At w tb (tableV true (.slice (some ⟨sb,0,none⟩) 8 8) 0) TTable) (hs : At w sb nil8 TItems) (hct : cb ≠ tb) :
  Calls Tryz.prog 152 #[.pointer (some ⟨cb,0,none⟩),.agg #[.string keyA,.string v,.int .i64 iv,.int .i64 unt]] w fun e w'=>e=.returned (.tuple #[])∧(∃ b c zs,At w' b (itemL keyA v iv unt ++ zs) TItem∧At w' tb (tableV true (.slice (some ⟨sb,0,none⟩) 8 8) 1) TTable∧At w' sb (oneA b c) TItems∧w.heap.size ≤ b)∧(∃ o,At w' cb (cacheV budget tb o cost ver gone) TCache)∧Tch (fun k=>k=cb ∨ k=tb ∨ k=sb) w w':=by
 have hcl:=hc.lt
 have htl:=ht.lt
 have hsl:=hs.lt
 have ta : Tch (fun _=>False) w (w.alloc (.cells #[.string keyA,.string v,.int .i64 iv,.int .i64 unt] TItem)):=Tch.alloc _ _ _
 have ca : At (w.alloc (.cells #[.string keyA,.string v,.int .i64 iv,.int .i64 unt] TItem)) w.heap.size (itemL keyA v iv unt) TItem:=At.new w _ _
 have a0:=ca.cell 0 rfl
 have a1:=ca.cell 1 rfl
 have z0:=ca.frozen 0
 have z1:=ca.frozen 1
 have hk1:=fun W=>clone_any keyA W (by decide)
 have hk2:=fun W=>clone_any v W (by omega)
 have HC:=Lib.hid hc
 have HT:=Lib.hid ht
 have HS:=Lib.hid hs
 have hal:=ca.lt
 obtain ⟨W0,hW0⟩ : ∃ W0,w.alloc (.cells #[.string keyA,.string v,.int .i64 iv,.int .i64 unt] TItem)=W0:=⟨_,rfl⟩
 rw [hW0] at ta ca a0 a1 z0 z1 hal
 have TA:=Lib.hid ta
 have CA:=Lib.hid ca
 clear hc ht hs ta ca
 go_enter Tryz.func152,Tryz.ntmps152
 go_wp2
 try rw [hW0]
 generalize hga : w.heap.size=ga at *
 clear hW0
 clear a0 a1 z0 z1
 refine start_ (n:=10) (S:=fun W'=>W'.cell? ⟨ga,0,none⟩=some (.string keyA)∧W'.cell? ⟨ga,1,none⟩=some (.string v)) (ds:=[7,9]) _ (by kernel_rfl) rfl rfl (⟨CA.out.cell 0 rfl,CA.out.cell 1 rfl⟩) (fun hHeld=>?_)
 refine pu_ 0 (some 4) ?_
 refine pu_ 3 (some 7) ?_
 refine ta_ 1 (some 5) hHeld ?_
 refine ta_ 4 (some 8) hHeld ?_
 refine on_ 2 (some 6) fun K hK=>?_
 go_simp;go_at_call 57;refine (hk1 _).mono ?_;rintro e w1 ⟨rfl,hb1⟩;have t1:=(Tch.drew (fun _=>False) W0).tbelow hb1;go_simp
 refine hK.out _ _ (⟨(CA.out.tch t1 (fun h=>h)).cell 0 rfl,(CA.out.tch t1 (fun h=>h)).cell 1 rfl⟩) (fun hHeld2_=>?_)
 clear hK K hHeld;have hHeld:=hHeld2_;clear hHeld2_
 refine nm_ (some 6) ?_
 refine pu_ 6 (some 10) ?_
 refine on_ 5 (some 9) fun K hK=>?_
 go_simp;go_at_call 57;refine (hk2 _).mono ?_;rintro e w2 ⟨rfl,hb2⟩;have t2:=t1.tbelow hb2;have a0:=(CA.out.tch t2 (fun h=>h)).cell 0 rfl;have a1:=(CA.out.tch t2 (fun h=>h)).cell 1 rfl;have z0:=(CA.out.tch t2 (fun h=>h)).frozen 0;have z1:=(CA.out.tch t2 (fun h=>h)).frozen 1;go_simp
 refine hK.out _ _ (⟨(CA.out.tch t2 (fun h=>h)).cell 0 rfl,(CA.out.tch t2 (fun h=>h)).cell 1 rfl⟩) (fun hHeld2_=>?_)
 clear hK K hHeld;have hHeld:=hHeld2_;clear hHeld2_
 refine nm_ (some 9) ?_
 refine la_ 7 none fun K hK=>?_
 refine skip_ (w1:=?_) (by rfl) rfl ?_ ?_;rotate_left;· (go_simp;rfl)
 refine hK.out _ _ ?_
 clear hK K
 refine nm_ none ?_
 refine pu_ 8 (some 11) ?_
 refine la_ 9 none fun K hK=>?_
 refine skip_ (w1:=?_) (by rfl) rfl ?_ ?_;rotate_left;· (go_simp;rfl)
 refine hK.out _ _ ?_
 clear hK K
 refine nm_ none ?_
 refine done_ (by kernel_rfl) ?_;clear hHeld
 all_goals
  have hA : At ((w2.setCell ⟨ga,0,none⟩ (.string keyA)).setCell ⟨ga,1,none⟩ (.string v)) ga (itemL keyA v iv unt) TItem:=((CA.out.tch t2 (fun h=>h)).akeep (i:=0) rfl).akeep (i:=1) rfl
  have hT0 : Tch (fun k=>k=ga) W0 w2:=t2.mono (fun _ _ h=>h.elim)
  have hT1 : Tch (fun k=>k=ga) W0 (w2.setCell ⟨ga,0,none⟩ (.string keyA)):=hT0.tset (fun _=>rfl)
  have hT : Tch (fun k=>k=ga) W0 ((w2.setCell ⟨ga,0,none⟩ (.string keyA)).setCell ⟨ga,1,none⟩ (.string v)):=hT1.tset (fun _=>rfl)
  clear a0 a1 z0 z1 hk1 hk2 hb1 hb2 t1 t2 hT0 hT1
  obtain ⟨W2,hW2⟩ : ∃ W2,((w2.setCell ⟨ga,0,none⟩ (.string keyA)).setCell ⟨ga,1,none⟩ (.string v))=W2:=⟨_,rfl⟩
  rw [hW2] at hA hT ⊢
  clear hW2
  have tA : Tch (fun _=>False) w W2:=(TA.out.trans hT (fun k hk h=>by omega))
  have hc2:=HC.out.tch tA (fun h=>h)
  have hb1:=HT.out.tch tA (fun h=>h)
  have hb2:=HS.out.tch tA (fun h=>h)
  have hcl2:=hc2.lt
  have htl2 : tb < W2.heap.size:=tA.lt (by omega)
  have hcs : cb ≠ sb:=at_ne2 hc2 hb2 (by decide)
  have hd:=del_none (fun k=>k=sb) cb tb budget 0 ver gone 0 nil8 W2 hc2 (fun W3 t3=>PlaceC.none_ (MadeC.again (hb1.tch t3 (Ne.symm hct)) (hb2.tch t3 (Ne.symm hcs))) (t3.lt htl2)) htl2 hct
  have a0:=hA.cell 0 rfl
  have HA:=Lib.hid hA
  have HT2:=Lib.hid tA
  have hgl:=hA.lt
  clear hA hT tA hb1 hb2 hc2
  go_wp2_with (go_at_call 148;refine hd.mono ?_;rintro e w3 ⟨rfl,hc3,ht3,tt3⟩)
  have hA3:=HA.out.tch tt3 (by omega)
  obtain ⟨sb3,rfl,hq1,hq2⟩:=ht3
  have ncb : ¬ (cb=tb ∨ cb=sb3):=fun h=>h.elim hct (at_ne2 hc3 hq2 (by decide))
  have nga : ¬ (ga=tb ∨ ga=sb3):=fun h=>h.elim (fun h=>by omega) (at_ne2 hA3 hq2 (by decide))
  have hput:=fun W (t : Tch (fun _=>False) w3 W)=>tput_any tb sb3 v iv unt W (hq1.tch t (fun h=>h)) (hq2.tch t (fun h=>h))
  have k1:=hc3.cell 1 rfl
  have HQ1:=Lib.hid hq1
  clear hd a0 hcs hcl2 htl2 hq1 hq2
  have TT3:=Lib.hid tt3
  clear tt3
  have HC3:=Lib.hid hc3
  have HA3:=Lib.hid hA3
  clear hc3 hA3
  have mk : ∀ W' : World,Tch (fun k=>k=tb ∨ k=sb3) w3 W'→(W'.cell? ⟨cb,1,none⟩=some (.pointer (some ⟨tb,0,none⟩))∧W'.cell? ⟨ga,0,none⟩=some (.string keyA)∧W'.cell? ⟨ga,1,none⟩=some (.string v)∧W'.cell? ⟨ga,2,none⟩=some (.int .i64 iv)∧W'.cell? ⟨ga,3,none⟩=some (.int .i64 unt)):=fun W' t=>⟨(HC3.out.tch t ncb).cell 1 rfl,(HA3.out.tch t nga).cell 0 rfl,(HA3.out.tch t nga).cell 1 rfl,(HA3.out.tch t nga).cell 2 rfl,(HA3.out.tch t nga).cell 3 rfl⟩
  go_wp2
  refine start_ (n:=6) (S:=fun W'=>W'.cell? ⟨cb,1,none⟩=some (.pointer (some ⟨tb,0,none⟩))∧W'.cell? ⟨ga,0,none⟩=some (.string keyA)∧W'.cell? ⟨ga,1,none⟩=some (.string v)∧W'.cell? ⟨ga,2,none⟩=some (.int .i64 iv)∧W'.cell? ⟨ga,3,none⟩=some (.int .i64 unt)) (ds:=[]) _ (by kernel_rfl) rfl rfl (mk _ (Tch.drew _ _)) (fun hHeld=>?_)
  refine pu_ 0 (some 16) ?_
  refine pu_ 1 (some 17) ?_
  refine pu_ 2 (some 18) ?_
  refine ta_ 3 (some 19) hHeld ?_
  refine ta_ 4 (some 20) hHeld ?_
  refine on_ 5 (some 21) fun K hK=>?_
  go_simp;go_at_call 222;refine (hput _ (Tch.drew _ _)).mono ?_;rintro e w4 ⟨rfl,b,c,zs,hb4,ht4,hs4,hlb,tt4⟩;go_simp
  refine hK.out _ _ (mk _ ((Tch.drew _ w3).trans tt4 (fun _ _ h=>h))) (fun hHeld2_=>?_)
  clear hK K hHeld;have hHeld:=hHeld2_;clear hHeld2_
  refine nm_ (some 21) ?_
  refine done_ (by kernel_rfl) ?_;clear hHeld
  all_goals
   have hc4:=HC3.out.tch ((Tch.drew _ w3).trans tt4 (fun _ _ h=>h)) ncb
   have hA4:=HA3.out.tch ((Tch.drew _ w3).trans tt4 (fun _ _ h=>h)) nga
   clear mk k1 hput
   have t03 : Tch (fun k=>k=cb ∨ k=tb) w w3:=(HT2.out.mono (fun _ _ h=>h.elim)).trans TT3.out (fun _ _ h=>h)
   have t34 : Tch (fun k=>k=tb ∨ k=sb3) w3 w4:=(Tch.refl _ w3).tdrew.trans tt4 (fun _ _ h=>h)
   have t04 : Tch (fun k=>k=cb ∨ k=tb ∨ k=sb3) w w4:=(t03.mono (fun k _ h=>h.elim .inl (fun h=>.inr (.inl h)))).trans t34 (fun k hk h=>.inr h)
   have T4:=Lib.hid t04
   have HB4:=Lib.hid hb4
   have HT4:=Lib.hid ht4
   have HS4:=Lib.hid hs4
   have hlb4 : ga ≤ b:=by
    have q : w.heap.size ≤ w3.heap.size:=t03.size
    have q2 : w3.heap.size ≤ b:=hlb
    omega
   have hbc : b ≠ cb:=at_ne2 hb4 hc4 (by decide)
   clear t03 t34 t04 tt4 hb4 ht4 hs4 hlb
   have hco:=fun W=>Pb.cache_Cost.calls keyA v iv unt cost W hcost
   have k3:=hc4.cell 3 rfl
   have f3:=hc4.frozen 3
   have hc4l:=hc4.lt
   have hgc : ga ≠ cb:=by omega
   have hw : wrap64 (0 + cost)=cost:=by unfold wrap64;omega
   have HC4:=Lib.hid hc4
   clear hc4
   have hwr : IntKind.i64.wrap cost=cost:=by simp [IntKind.wrap,IntKind.bits,IntKind.signed] <;> omega
   have HA4:=Lib.hid hA4
   clear hA4
   have mk : ∀ W' : World,Tch (fun _=>False) w4 W'→(W'.cell? ⟨cb,3,none⟩=some (.int .i64 0)∧W'.cell? ⟨ga,0,none⟩=some (.string keyA)∧W'.cell? ⟨ga,1,none⟩=some (.string v)∧W'.cell? ⟨ga,2,none⟩=some (.int .i64 iv)∧W'.cell? ⟨ga,3,none⟩=some (.int .i64 unt)):=fun W' t=>⟨(HC4.out.tch t (fun h=>h)).cell 3 rfl,(HA4.out.tch t (fun h=>h)).cell 0 rfl,(HA4.out.tch t (fun h=>h)).cell 1 rfl,(HA4.out.tch t (fun h=>h)).cell 2 rfl,(HA4.out.tch t (fun h=>h)).cell 3 rfl⟩
   go_wp2
   refine start_ (n:=10) (S:=fun W'=>W'.cell? ⟨cb,3,none⟩=some (.int .i64 0)∧W'.cell? ⟨ga,0,none⟩=some (.string keyA)∧W'.cell? ⟨ga,1,none⟩=some (.string v)∧W'.cell? ⟨ga,2,none⟩=some (.int .i64 iv)∧W'.cell? ⟨ga,3,none⟩=some (.int .i64 unt)) (ds:=[9]) _ (by kernel_rfl) rfl rfl (mk _ (Tch.drew _ _)) (fun hHeld=>?_)
   refine pu_ 0 (some 22) ?_
   refine pu_ 1 (some 23) ?_
   refine pu_ 2 (some 24) ?_
   refine ta_ 3 (some 25) hHeld ?_
   refine ta_ 4 (some 26) hHeld ?_
   refine on_ 5 (some 27) fun K hK=>?_
   go_simp;go_at_call 220;refine (hco _).mono ?_;rintro e w5 ⟨rfl,hb5⟩;have t5:=(Tch.drew (fun _=>False) w4).tbelow hb5;have hc5:=HC4.out.tch t5 (fun h=>h);have k5:=hc5.cell 3 rfl;have f5:=hc5.frozen 3;go_simp
   refine hK.out _ _ (mk _ t5) (fun hHeld2_=>?_)
   clear hK K hHeld;have hHeld:=hHeld2_;clear hHeld2_
   refine nm_ (some 27) ?_
   refine pu_ 6 (some 28) ?_
   refine pu_ 7 (some 29) ?_
   refine pu_ 8 (some 30) ?_
   refine la_ 9 none fun K hK=>?_
   refine skip_ (w1:=?_) (by rfl) rfl ?_ ?_;rotate_left;· (go_simp;rfl)
   refine hK.out _ _ ?_
   clear hK K
   refine nm_ none ?_
   refine done_ (by kernel_rfl) ?_;clear hHeld
   all_goals
    have hA5:=(HA4.out.tch t5 (fun h=>h)).tch (Tch.set w5 ⟨cb,3,none⟩ (.int .i64 cost)) hgc
    have hc6 : At (w5.setCell ⟨cb,3,none⟩ (.int .i64 cost)) cb (cacheV budget tb (.slice none 0 0) cost ver gone) TCache:=hc5.set 3 (.int .i64 cost)
    have t46 : Tch (fun k=>k=cb) w4 (w5.setCell ⟨cb,3,none⟩ (.int .i64 cost)):=(((Tch.refl _ w4).tdrew).tbelow hb5).tset (fun _=>rfl)
    obtain ⟨W6,hW6⟩ : ∃ W6,w5.setCell ⟨cb,3,none⟩ (.int .i64 cost)=W6:=⟨_,rfl⟩
    rw [hW6] at hA5 hc6 t46 ⊢
    clear hW6 hb5 hc5 k5 f5 k3 f3 mk hco hwr hw
    have k2:=hc6.cell 2 rfl
    have f2:=hc6.frozen 2
    have hcl6:=hc6.lt
    have hal6:=hA5.lt
    have HC6:=Lib.hid hc6
    have HA6:=Lib.hid hA5
    have T46:=Lib.hid t46
    clear hc6 hA5 t46 hc4l
    obtain ⟨i0,hi,hz0',hz1,hz2⟩:=info_parts info_str
    have hgc' : cb ≠ ga:=Ne.symm hgc
    have mk : ∀ W' : World,Tch (fun _=>False) W6 W'→(W'.cell? ⟨cb,2,none⟩=some (.slice none 0 0)∧W'.cell? ⟨ga,0,none⟩=some (.string keyA)):=fun W' t=>⟨(HC6.out.tch t (fun h=>h)).cell 2 rfl,(HA6.out.tch t (fun h=>h)).cell 0 rfl⟩
    go_wp2
    refine start_ (n:=12) (S:=fun W'=>W'.cell? ⟨cb,2,none⟩=some (.slice none 0 0)∧W'.cell? ⟨ga,0,none⟩=some (.string keyA)) (ds:=[11]) _ (by kernel_rfl) rfl rfl (mk _ (Tch.drew _ _)) (fun hHeld=>?_)
    refine pu_ 0 (some 31) ?_
    refine pu_ 1 (some 32) ?_
    refine pu_ 2 (some 33) ?_
    refine pu_ 3 (some 34) ?_
    refine pu_ 5 (some 36) ?_
    refine ta_ 4 (some 35) hHeld ?_
    refine ta_ 6 (some 37) hHeld ?_
    refine on_ 7 (some 38) fun K hK=>?_
    go_simp
    refine hK.out _ _ (mk _ (((Tch.refl (fun _=>False) W6).talloc).tdrew)) (fun hHeld2_=>?_)
    clear hK K hHeld;have hHeld:=hHeld2_;clear hHeld2_
    refine nm_ (some 38) ?_
    refine on_ 8 (some 39) fun K hK=>?_
    go_simp
    refine hK.out _ _ (mk _ (((((Tch.refl (fun _=>False) W6).talloc).talloc).tdrew).tdrew)) (fun hHeld2_=>?_)
    clear hK K hHeld;have hHeld:=hHeld2_;clear hHeld2_
    refine nm_ (some 39) ?_
    refine pu_ 9 (some 40) ?_
    refine pu_ 10 (some 41) ?_
    refine la_ 11 none fun K hK=>?_
    go_simp
    refine hK.out _ _ ?_
    clear hK K
    refine nm_ none ?_
    refine done_ (by kernel_rfl) ?_;clear hHeld
    all_goals
     go_end0
     refine ⟨rfl,⟨b,c,zs,HB4.out.tch (S:=fun k=>k=cb) ?_ hbc,HT4.out.tch (S:=fun k=>k=cb) ?_ (Ne.symm hct),HS4.out.tch (S:=fun k=>k=cb) ?_ (at_ne2 HS4.out HC4.out (by decide)),by omega⟩,⟨_,(((HC6.out.set 2 _).alloc _).alloc _).drew.drew⟩,?_⟩
     ·exact ((((T46.out.tset (fun _=>rfl)).talloc).talloc).tdrew).tdrew
     ·exact ((((T46.out.tset (fun _=>rfl)).talloc).talloc).tdrew).tdrew
     ·exact ((((T46.out.tset (fun _=>rfl)).talloc).talloc).tdrew).tdrew
     ·exact T4.out.ttch (((((T46.out.tset (fun _=>rfl)).talloc).talloc).tdrew).tdrew) (fun k _ h=>.inl h)
end Go.Proofs.YtkekohmkaefdnaaGreatDoor
