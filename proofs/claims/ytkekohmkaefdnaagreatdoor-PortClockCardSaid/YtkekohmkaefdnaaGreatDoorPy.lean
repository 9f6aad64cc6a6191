import Derived.Test.YtkekohmkaefdnaaGreatDoorLay
import Derived.Test.YtkekohmkaefdnaaGreatDoorPo
import Derived.Test.YtkekohmkaefdnaaGreatDoorShelf
import Derived.Deep.RegionHeld3
import Derived.Deep.DrawnRows
import Derived.Test.YtkekohmkaefdnaaGreatDoorPa0
import Derived.Laws.MakeOwn
import Derived.Test.YtkekohmkaefdnaaGreatDoorPc0
import Derived.Test.YtkekohmkaefdnaaGreatDoorWTab
set_option linter.unusedVariables false
set_option maxHeartbeats 4000000
set_option maxRecDepth 100000
namespace Go.Proofs.YtkekohmkaefdnaaGreatDoor
open Go.RowKit Go.Maps Go.Shelf Go.Sort Go.Lib
theorem open1_any (p mb pl : Nat) (u rl c r : Value) (ids now : Int) (bs : List Nat) (sh : List Bool) (id : Int) (w : World) (tl : Nat) (s : Bool) (hl : At w pl [.pointer (some ⟨p,0,none⟩)] tl) (hp : At w p (portV u rl c r ids now mb) TPort) (hC : Conns w mb bs sh)
  (h1 : 1 ≤ id) (hs : sh[(id - 1).toNat]? = some s) (hw : (Lit.int .i64 id).wf=true) :
  Calls Tryz.prog 61 #[.int .i64 id,.pointer (some ⟨pl,0,none⟩)] w fun e w'=>e=.returned (.bool s)∧w'=w:=by
 have hlk:=hC.look id hw
 have hi : (id - 1).toNat < bs.length:=by rw [← hC.len];exact (List.getElem?_eq_some_iff.1 hs).1
 obtain ⟨b,hb⟩ : ∃ b,bs[(id - 1).toNat]? = some b:=⟨_,List.getElem?_eq_getElem hi⟩
 obtain ⟨x0,x1,x2,x3,x4,x5,x10,hc⟩:=hC.each _ _ _ hb hs
 have e1 : atId bs id=some b:=by unfold atId;rw [if_pos h1,hb]
 rw [e1] at hlk
 change (Instr.lookup TMap (.map (some mb)) (.int .i64 id) false).run Tryz.prog w=.ok (.pointer (some ⟨b,0,none⟩)) w at hlk
 have c0:=hl.cell 0 rfl
 have c6:=hp.cell 6 rfl
 have c9:=hc.cell 9 rfl
 clear hl hp hC hs hi hb hc e1 h1
 go_enter Tryz.func61,Tryz.ntmps61
 go_wp2
 go_ret
 exact ⟨rfl,rfl⟩
def openIds (sh : List Bool) : List Int:=((List.range sh.length).map fun (k : Nat)=>(k : Int) + 1).filter fun i=>!(sh.getD (i - 1).toNat true)
def IntRow (w : World) (B : Nat) (v : Value) (l : List Int) : Prop:=
 ∃ A c,v=.slice A l.length c∧l.length ≤ c∧∀ (j : Nat) (x : Int),l[j]? = some x→∃ g,A=some ⟨g,0,none⟩∧B ≤ g∧g < w.heap.size∧w.cell? ⟨g,j,none⟩=some (.int .i64 x)
def OpenE (sh : List Bool) (w : World) (e : Ending) (w' : World) : Prop:=∃ v,e=.returned v∧IntRow w' w.heap.size v (openIds sh)∧Below w.heap.size w w'
theorem Tryz.sortsA (m : Nat) : AnyZI.SortsIn Tryz.prog Tryz.sortedA_ren Fence.wide m:=
 ⟨fun blk off cap ss W hH hblk hsz=>callsIn_wide.2 (AnyM.slices_Sort_int Tryz.sortA blk off cap ss W hH hblk hsz),
  fun p cap W=>callsIn_wide.2 (AnyM.slices_Sort_int_none Tryz.sortA p cap W)⟩
theorem open_wf {bs : List Nat} (hn : bs.length ≤ 1000000) {x : Int} (hx : x ∈ (List.range bs.length).map fun (k : Nat)=>(k : Int) + 1) : 1 ≤ x∧(Lit.int .i64 x).wf=true∧(x - 1).toNat < bs.length:=by
 obtain ⟨k,hk,rfl⟩:=List.mem_map.1 hx
 have:=List.mem_range.1 hk
 exact ⟨by omega,WalkArith.wf_i64 (by omega),by omega⟩
theorem del_open (p mb pl gb cap : Nat) (u rl c r : Value) (ids now : Int) (bs : List Nat) (sh : List Bool) (tl : Nat) (W : World) (cur : Array Value) (B : Nat) (hn : bs.length ≤ 1000000)
  (hl : At W pl [.pointer (some ⟨p,0,none⟩)] tl) (hp : At W p (portV u rl c r ids now mb) TPort) (hC : Conns W mb bs sh) (hlg : pl ≠ gb) (hpg : p ≠ gb) (hmg : mb ≠ gb) (hbg : ∀ b ∈ bs,b ≠ gb) (hBg : B ≤ gb) (hgl : gb < W.heap.size)
  (hH : Holds (Value.int .i64) W gb 0 (((List.range bs.length).map fun (k : Nat)=>(k : Int) + 1).toArray)) (hcap : bs.length ≤ cap) :
  Calls Tryz.prog 58 #[.slice (some ⟨gb,0,none⟩) bs.length cap,.func (.func 61) #[] #[.pointer (some ⟨pl,0,none⟩)]] W fun e w'=>∃ v,e=.returned v∧IntRow w' B v (openIds sh)∧Tch (fun k=>k=gb) W w':=by
 have hlen:=hC.len
 have hgive : ∀ (W1 : World),Tch (fun k=>k=gb) W W1→∀ x ∈ ((List.range bs.length).map fun (k : Nat)=>(k : Int) + 1),FnGives Tryz.prog 61 #[.pointer (some ⟨pl,0,none⟩)] #[Value.int .i64 x] (.bool (sh.getD (x - 1).toNat true)) W1:=by
  intro W1 t x hx
  obtain ⟨h1,h2,h3⟩:=open_wf hn hx
  have hs : sh[(x - 1).toNat]? = some (sh.getD (x - 1).toNat true):=by
   rw [List.getD_eq_getElem?_getD,List.getElem?_eq_getElem (by omega)]
   rfl
  have:=open1_any p mb pl u rl c r ids now bs sh x W1 tl _ (hl.tch t hlg) (hp.tch t hpg) (hC.tch t hmg hbg) h1 hs h2
  exact this.mono fun e w' ⟨a,b⟩=>⟨a,0,b⟩
 have hd:=del_func Tryz.delI (Value.int .i64) (fun _=>rfl) (fun x : Int=>sh.getD (x - 1).toNat true) 61 #[.pointer (some ⟨pl,0,none⟩)] (enters_of Tryz.func61 (by kernel_rfl) rfl) 0 Tryz.zeroValue3 gb 0 cap
  (((List.range bs.length).map fun (k : Nat)=>(k : Int) + 1).toArray) W (fun x hx q=>hgive _ (Tch.drewN _ W q) x (by simpa using hx)) (fun x hx q dk _=>hgive _ ((tch_ahead _ W q).trans (tch_putRow _ _ gb 0 dk) (fun _ _ h=>h)) x (by simpa using hx)) hH (by simp;omega) (by simpa using hcap)
 have hsz : (((List.range bs.length).map fun (k : Nat)=>(k : Int) + 1).toArray).size=bs.length:=by simp
 rw [hsz] at hd
 refine hd.mono ?_
 rintro e w' ⟨rfl,q,rfl⟩
 have hop : (((List.range bs.length).map fun (k : Nat)=>(k : Int) + 1).toArray.toList.filter fun x : Int=>!sh.getD (x - 1).toNat true)=openIds sh:=by unfold openIds;rw [hlen]
 rw [hop]
 have hle : (openIds sh).length ≤ bs.length:=by
  unfold openIds
  refine Nat.le_trans (List.length_filter_le _ _) ?_
  simp [hlen]
 have t1 : Tch (fun k=>k=gb) W (putRow (Value.int .i64) (Sort.ahead W q) gb 0 (openIds sh ++ List.replicate (bs.length - (openIds sh).length) (0 : Int)).toArray):=(tch_ahead _ W q).trans (tch_putRow _ _ gb 0 _) (fun _ _ h=>h)
 have hH2:=holds_putRow (Value.int .i64) (Sort.ahead W q) gb 0 _ (openIds sh ++ List.replicate (bs.length - (openIds sh).length) (0 : Int)).toArray (holds_ahead _ W q gb 0 _ hH) (by simp;omega)
 refine ⟨_,rfl,⟨some ⟨gb,0,none⟩,cap,rfl,by omega,fun j x hj=>⟨gb,rfl,hBg,t1.lt hgl,?_⟩⟩,t1⟩
 have hjl : j < (openIds sh).length:=(List.getElem?_eq_some_iff.1 hj).1
 have h3:=(hH2 j (by simp;omega)).1
 rw [Nat.zero_add] at h3
 rw [h3]
 congr 2
 rw [getElem!_pos _ j (by simp;omega)]
 simp only [List.getElem_toArray]
 rw [List.getElem_append_left hjl]
 exact (List.getElem?_eq_some_iff.1 hj).2
theorem open_ids_nil {bs : List Nat} {sh : List Bool} (h : bs.length=0) (hl : sh.length=bs.length) : openIds sh=[]:=by
 unfold openIds
 rw [hl,h]
 rfl
theorem open_any (p mb : Nat) (u rl c r : Value) (ids now : Int) (bs : List Nat) (sh : List Bool) (w : World) (hn : bs.length ≤ 1000000) (hp : At w p (portV u rl c r ids now mb) TPort) (hC : Conns w mb bs sh) :
  Calls Tryz.prog 21 #[.pointer (some ⟨p,0,none⟩)] w (OpenE sh w):=by
 refine (callsIn_wide (n:=6)).1 ?_
 obtain ⟨D0,hown,hM⟩:=hC.map
 have hml:=hC.mlt
 have hpl:=hp.lt
 have c6:=hp.cell 6 rfl
 have hD1 : Maps.size D0 ≤ maxLen:=by rw [hM.size];unfold maxLen;omega
 have hD2 : Maps.size D0 * 8 ≤ 140737488355328:=by rw [hM.size];omega
 have hseq : SeqGives Fence.wide 2 Tryz.prog 93 #[.pointer (some ⟨w.heap.size + 1,0,none⟩)] encZ (fun ss=>ss.Perm (intKeys D0)) (Maps.size D0) ((w.alloc (.cells #[.pointer (some ⟨p,0,none⟩)] 28)).alloc (.cells #[.map (some mb)] 86)):=
  AnyZI.keys_gives (ρ:=Tryz.keysA_ren) { Tryz.keysA with } Fence.wide _ trivial rfl (by omega) (w.heap.size + 1) mb bs.length D0 _ (by simp) (by simp) (ownsMap_tch (ownsMap_tch hown (Tch.alloc (fun _=>False) w _) (fun x=>x)) (Tch.alloc (fun _=>False) _ _) (fun x=>x))
 have cK : ∀ mb W,CallsIn Fence.wide 5 Tryz.prog 60 #[.map mb] W fun e w'=>e=.returned (.func (.func 93) #[] #[.pointer (some ⟨W.heap.size,0,none⟩)])∧w'=W.alloc (.cells #[.map mb] 86):=fun mb W=>AnyZI.keys_in Tryz.keysA Fence.wide 5 trivial rfl mb W
 have cS:=AnyZI.sorted_in Tryz.sortedA Fence.wide 5 trivial trivial trivial trivial rfl (by omega) (Tryz.sortsA _) (enters_of Tryz.func92 (by kernel_rfl) rfl) 93 #[.pointer (some ⟨w.heap.size + 1,0,none⟩)] trivial (enters_of Tryz.func93 (by kernel_rfl) rfl) _ _ hD1 hD2 _ hseq
 change CallsIn _ _ Tryz.prog 59 _ _ _ at cS
 have hfK : Fence.wide.fn 60:=trivial
 have hfS : Fence.wide.fn 59:=trivial
 have hfD : Fence.wide.fn 58:=trivial
 have HP:=Lib.hid hp
 have HC:=Lib.hid hC
 have HM:=Lib.hid hM
 have HN:=Lib.hid hn
 clear hown hseq hD1 hD2 hp hC hM hn
 refine callsIn_of_wp Tryz.func21 rfl trivial ?_ rfl
 simp only [Tryz.ntmps21,List.size_toArray,List.length_cons,List.length_nil,Nat.reduceAdd,Nat.reduceSub,Array.replicate_succ,Array.replicate_zero,List.push_toArray,List.append_toArray,List.nil_append,List.cons_append]
 gi_wp2_with (first
  | (gi_at_call 60;refine (cK _ _).mono ?_;rintro e w' ⟨rfl,rfl⟩)
  | (gi_at_call 59;refine cS.mono ?_;rintro e W ⟨v,ss,rfl,hS,hrow,hnil,hb⟩))
 have hsort:=HM.out.sorted hS
 have hlen : ss.length=bs.length:=by rw [hS.length_eq,HM.out.keys.length_eq];simp
 rw [hsort] at hrow
 have hs2 : ((w.alloc (Obj.cells #[.pointer (some ⟨p,0,none⟩)] 28)).alloc (Obj.cells #[.map (some mb)] 86)).heap.size=w.heap.size + 2:=by simp
 rw [hs2] at hrow hb
 have tb : Tch (fun k=>w.heap.size + 2 ≤ k) w W:=by
  have t0 : Tch (fun k=>w.heap.size + 2 ≤ k) w ((w.alloc (Obj.cells #[.pointer (some ⟨p,0,none⟩)] 28)).alloc (.cells #[.map (some mb)] 86)):=(Tch.alloc _ w _).trans (Tch.alloc (fun _=>False) _ _) (fun _ _ h=>h.elim)
  exact t0.trans (Tch.of_below' hb) (fun _ _ h=>h)
 have hP1 : At W p (portV u rl c r ids now mb) TPort:=HP.out.tch tb (by omega)
 have hC1 : Conns W mb bs sh:=HC.out.tch tb (by omega) (fun b hb'=>by have:=HC.out.blt hb';omega)
 have hL1 : At W w.heap.size [.pointer (some ⟨p,0,none⟩)] 28:=(((At.new w _ _).alloc _).below hb (by omega))
 have HB:=Lib.hid tb
 have HS:=Lib.hid hb
 rcases hrow.2 with ⟨rfl,hz⟩ | ⟨gb,cap,cur,rfl,hbase,hgb,r1,r2,r3,r4⟩
 ·have hb0 : bs.length=0:=by omega
  have hnl:=open_ids_nil hb0 HC.out.len
  have hd:=(callsIn_wide (n:=5)).2 (del_nil Tryz.delI (.func (.func 61) #[] #[.pointer (some ⟨w.heap.size,0,none⟩)]) W)
  change CallsIn _ _ Tryz.prog 58 _ _ _ at hd
  have HNL:=Lib.hid hnl
  clear hsort hlen hs2 hz hb0 hnl hP1 hC1 hL1 hb tb hnil hrow hS
  refine hd.mono ?_
  rintro e w' ⟨rfl,rfl⟩
  gi_wp2
  go_ret
  refine ⟨_,rfl,⟨none,0,by rw [HNL.out];rfl,by rw [HNL.out];exact Nat.le_refl _,fun j x hj=>by rw [HNL.out] at hj;simp at hj⟩,HB.out.below' (fun k hk=>by omega)⟩
 ·have hgl : gb < W.heap.size:=(Array.getElem?_eq_some_iff.1 hgb).1
  have hH : Holds encZ W gb 0 ((List.range bs.length).map fun (k : Nat)=>(k : Int) + 1).toArray:=holds_of_block_i hgb (by rw [hlen] at r4;simpa using r4)
  have hcap : bs.length ≤ cap:=by omega
  have hd:=(callsIn_wide (n:=5)).2 (del_open p mb w.heap.size gb cap u rl c r ids now bs sh _ W cur w.heap.size HN.out hL1 hP1 hC1 (by omega) (by omega) (by omega) (fun b hb'=>by have:=HC.out.blt hb';omega) (by omega) hgl hH hcap)
  rw [hlen]
  have HG:=Lib.hid hbase
  clear hsort hlen hs2 hP1 hC1 hL1 hb tb hnil hrow hS hH hgb r1 r2 r3 r4 hcap hgl hbase
  refine hd.mono ?_
  rintro e w' ⟨v,rfl,hv,ht⟩
  have HV:=Lib.hid hv
  have HT:=Lib.hid ht
  clear hv ht
  gi_wp2
  go_ret
  exact ⟨v,rfl,HV.out,((HB.out.mono (S':=fun k=>w.heap.size ≤ k) (fun k _ h=>by omega)).trans HT.out (fun k _ h=>by have:=HG.out;omega)).below' (fun _ h=>h)⟩
end Go.Proofs.YtkekohmkaefdnaaGreatDoor
namespace Go.Proofs.YtkekohmkaefdnaaGreatDoor
open Go.RowKit Go.Maps Go.Shelf
attribute [local go_sem ↓] Go.wp_at_zero Go.wp_at_succ
theorem clone_any (s : ByteArray) (w : World) (hs : s.size ≤ 1000000) : Calls Tryz.prog 57 #[.string s] w fun e w'=>e=.returned (.string s)∧Below w.heap.size w w':=by
 have h1:=Tryz.stringslite_Clone s w (by omega)
 clear hs
 go_enter Tryz.func57,Tryz.ntmps57
 go_wp2_with (go_at_call 89;refine h1.mono ?_;rintro e w' ⟨rfl,hb⟩)
 go_ret
 exact ⟨rfl,hb⟩
theorem now_cell (p : Nat) (now : Int) (w : World) (hc : w.cell? ⟨p,5,none⟩=some (.int .i64 now)) (hn : 0 ≤ now) (hn2 : now ≤ 9223372036854775807) : Calls Tryz.prog 24 #[.pointer (some ⟨p,0,none⟩)] w fun e w'=>e=.returned (.int .i64 now)∧w'=w:=by
 have h1:=i64_load ⟨p,5,none⟩ now w hc
 clear hc
 go_enter Tryz.func24,Tryz.ntmps24
 go_wp2_with (go_at_call 65;refine h1.mono ?_;rintro e w' ⟨rfl,rfl⟩)
 go_ret
 exact ⟨rfl,rfl⟩
def hostV (u : Nat) (nonce : ByteArray) (got : Int) (bad : Bool) (user papers : ByteArray) : List Value:=[.pointer (some ⟨u,0,none⟩),.string nonce,.int .i64 got,.bool bad,.string user,.string papers,.int .u32 0,.int .i32 0,.int .u32 0,.bool false,.string ⟨#[]⟩,.string ⟨#[]⟩]
theorem host_new (u : Nat) (nonce : ByteArray) (hn : nonce.size=16) (w : World) : Calls Tryz.prog 56 #[.pointer (some ⟨u,0,none⟩),.string nonce] w fun e w'=>e=.returned (.pointer (some ⟨w.heap.size,0,none⟩))∧w'=w.alloc (.cells (hostV u nonce 0 false ⟨#[]⟩ ⟨#[]⟩).toArray 182):=by
 have h1 : ((nonce.size : Int) != 16)=false:=by rw [hn];rfl
 clear hn
 go_enter Tryz.func56,Tryz.ntmps56
 go_wp2
 go_ret
 exact ⟨rfl,rfl⟩
noncomputable def afterUpd (t : Nat) (m k v : Value) (W : World) : World:=match (Instr.mapUpdate t m k v).run Tryz.prog W with
 | .ok _ w'=>w'
 | _=>W
theorem upd_run {t : Nat} {m k v : Value} {W w' : World} (h : (Instr.mapUpdate t m k v).run Tryz.prog W=.ok () w') : afterUpd t m k v W=w':=by unfold afterUpd;rw [h]
theorem heap_drew_ (w : World) : w.drew.heap=w.heap:=rfl
theorem at_new' (W : World) (cs : Array Value) (t b : Nat) (h : W.heap.size=b) : At (W.alloc (.cells cs t)) b cs.toList t:=h ▸ At.new W cs t
def readV (rest : ByteArray) (dead : Bool) (came : Int) : List Value:=[.string rest,.bool dead,.int .i64 came]
abbrev THost : Nat:=182
abbrev TReader : Nat:=121
def AcceptE (p mb ub : Nat) (rl c r : Value) (now : Int) (bs : List Nat) (sh : List Bool) (nonce : ByteArray) (w : World) (e : Ending) (w' : World) : Prop:=
 ∃ b h rd,e=.returned (.tuple #[.int .i64 (bs.length + 1),.int .i64 0])∧At w' p (portV (.pointer (some ⟨ub,0,none⟩)) rl c r (bs.length + 1) now mb) TPort∧Conns w' mb (bs ++ [b]) (sh ++ [false]) ∧
  w.heap.size ≤ b∧Tch (fun k=>k=p ∨ k=mb) w w'∧At w' b (connV (.pointer (some ⟨h,0,none⟩)) (.pointer (some ⟨rd,0,none⟩)) (.pointer none) (.pointer none) (.int .i64 now) (.int .i64 now) (.slice none 0 0) false) TConn ∧
  At w' h (hostV ub nonce 0 false ⟨#[]⟩ ⟨#[]⟩) THost∧At w' rd (readV ⟨#[]⟩ false 0) TReader∧w.heap.size ≤ h∧w.heap.size ≤ rd
theorem Conns.added {w w1 : World} {mb : Nat} {bs : List Nat} {sh : List Bool} {D : Da} {S : Nat→Prop} {b : Nat} (h : Conns w mb bs sh) (hM : MapIs D bs) (t : Tch S w w1) (hS : ∀ x ∈ bs,¬ S x) (hown : w1.ownsMap Tryz.prog 3 Rp mb (bs.length + 1) (D.put (.int .i64 ((bs.length : Int) + 1)) (ptrD b))) (hb : ConnAt w1 b false) (hn : w.heap.size ≤ b) : Conns w1 mb (bs ++ [b]) (sh ++ [false]):=by
 refine ⟨⟨_,by rw [List.length_append,List.length_singleton];exact hown,hM.put b⟩,by simp [h.len],fun j c s h1 h2=>?_,?_⟩
 ·by_cases hj : j < bs.length
  ·rw [List.getElem?_append_left hj] at h1
   rw [List.getElem?_append_left (by rw [h.len];exact hj)] at h2
   exact (h.each j c s h1 h2).tch t (hS c (List.mem_of_getElem? h1))
  ·rw [List.getElem?_append_right (by omega)] at h1
   rw [List.getElem?_append_right (by rw [h.len];omega)] at h2
   have hj0 : j - bs.length=0:=by
    have:=(List.getElem?_eq_some_iff.1 h1).1
    simp at this
    omega
   rw [hj0] at h1
   rw [h.len,hj0] at h2
   obtain rfl:=Option.some.inj h1
   obtain rfl:=Option.some.inj h2
   exact hb
 ·refine List.nodup_append.2 ⟨h.nodup,by simp,fun x hx y hy=>?_⟩
  obtain rfl:=List.mem_singleton.1 hy
  have:=h.blt hx
  omega
theorem accept_end {p mb ub : Nat} {rl c r : Value} {now : Int} {bs : List Nat} {sh : List Bool} {nonce : ByteArray} {w w2 W1 : World} {D : Da} {h rd g : Nat}
  (hp : At w2 p (portV (.pointer (some ⟨ub,0,none⟩)) rl c r (bs.length + 1) now mb) TPort) (hC : Conns w2 mb bs sh) (ht : Tch (fun k=>k=p) w w2) (hM : MapIs D bs)
  (hspec : ∃ w',(Instr.mapUpdate TMap (.map (some mb)) (.int .i64 ((bs.length : Int) + 1)) (.pointer (some ⟨g,0,none⟩))).run Tryz.prog W1=.ok () w'∧w'.ownsMap Tryz.prog 3 Rp mb (bs.length + 1) (D.put (.int .i64 ((bs.length : Int) + 1)) (ptrD g))∧W1.grownBy w' (some mb))
  (t : Below w2.heap.size w2 W1) (hg : At W1 g (connV (.pointer (some ⟨h,0,none⟩)) (.pointer (some ⟨rd,0,none⟩)) (.pointer none) (.pointer none) (.int .i64 now) (.int .i64 now) (.slice none 0 0) false) TConn) (hgw : w2.heap.size ≤ g)
  (hh : At W1 h (hostV ub nonce 0 false ⟨#[]⟩ ⟨#[]⟩) THost) (hr : At W1 rd (readV ⟨#[]⟩ false 0) TReader) (hhw : w2.heap.size ≤ h) (hrw : w2.heap.size ≤ rd) :
  AcceptE p mb ub rl c r now bs sh nonce w (.returned (.tuple #[.int .i64 (bs.length + 1),.int .i64 0])) (afterUpd TMap (.map (some mb)) (.int .i64 ((bs.length : Int) + 1)) (.pointer (some ⟨g,0,none⟩)) W1):=by
 obtain ⟨w',hrun,hown,hgr⟩:=hspec
 rw [upd_run hrun]
 have hpm : p ≠ mb:=hC.pnm hp
 have hml:=hC.mlt
 have ne : ∀ {x : Nat} {cs : List Value} {ty : Nat},At W1 x cs ty→(some mb : Option Nat) ≠ some x:=fun {x cs ty} hx e=>by
  injection e with e
  subst e
  obtain ⟨D',⟨es,clock,he,_⟩,_⟩:=hC.map
  have:=t.block mb hml
  rw [he,show W1.heap[mb]? = _ from hx] at this
  cases this
 have hp1:=(hp.below t hp.lt).grown hgr (by intro e;injection e with e;exact hpm e.symm)
 have t1 : Tch (fun k=>k=mb) w2 w':=(Tch.of_below _ t).trans (Tch.of_grown hgr) (fun k _ hk=>by injection hk with hk;exact hk.symm)
 have hg1:=hg.grown hgr (ne hg)
 refine ⟨g,h,rd,rfl,hp1,?_,Nat.le_trans ht.size hgw,?_,hg1,hh.grown hgr (ne hh),hr.grown hgr (ne hr),Nat.le_trans ht.size hhw,Nat.le_trans ht.size hrw⟩
 ·exact hC.added hM t1 (fun x hx e=>hC.mne hx e.symm) hown ⟨_,_,_,_,_,_,_,hg1⟩ hgw
 ·exact (ht.mono (fun k _ hk=>.inl hk)).trans t1 (fun k _ hk=>.inr hk)
theorem accept_ok (p mb ub : Nat) (rl c r : Value) (now : Int) (bs : List Nat) (sh : List Bool) (nonce : ByteArray) (w : World) (hnz : nonce.size=16) (hn : (openIds sh).length < 8) (hb : bs.length ≤ 1000) (h0 : 0 ≤ now) (h1 : now ≤ 1000000000000) (hp : At w p (portV (.pointer (some ⟨ub,0,none⟩)) rl c r bs.length now mb) TPort) (hC : Conns w mb bs sh) :
  Calls Tryz.prog 20 #[.pointer (some ⟨p,0,none⟩),.string nonce] w (AcceptE p mb ub rl c r now bs sh nonce w):=by
 have ho:=open_any p mb _ rl c r bs.length now bs sh w (by omega) hp hC
 have e1 : ((nonce.size : Int) != 16)=false:=by rw [hnz];rfl
 have HC:=Lib.hid hC
 have HP:=Lib.hid hp
 have HZ:=Lib.hid hnz
 clear hC hp hnz
 go_enter Tryz.func20,Tryz.ntmps20
 go_wp2_with (go_at_call 21;refine ho.mono ?_;rintro e W ⟨v,rfl,⟨A,cc,rfl,q1,q2⟩,hbel⟩;clear q1 q2)
 have tb:=Tch.of_below (fun _=>False) hbel
 have hpW:=HP.out.tch tb (fun h=>h)
 have hCW:=HC.out.tch tb (fun h=>h) (fun _ _ h=>h)
 have hadd:=i64_add ⟨p,4,none⟩ bs.length 1 (bs.length + 1) W (hpW.cell 4 rfl) (hpW.frozen 4) (by simp [IntKind.wrap,IntKind.bits,IntKind.signed] <;> omega)
 have hp2 : At (W.setCell ⟨p,4,none⟩ (.int .i64 ((bs.length : Int) + 1))) p (portV (.pointer (some ⟨ub,0,none⟩)) rl c r (bs.length + 1) now mb) TPort:=hpW.set 4 (.int .i64 ((bs.length : Int) + 1))
 have t2 : Tch (fun k=>k=p) w (W.setCell ⟨p,4,none⟩ (.int .i64 ((bs.length : Int) + 1))):=(Tch.of_below _ hbel).trans (Tch.set W ⟨p,4,none⟩ _) (fun _ _ h=>h)
 have hC2 : Conns (W.setCell ⟨p,4,none⟩ (.int .i64 ((bs.length : Int) + 1))) mb bs sh:=hCW.tch (Tch.set W ⟨p,4,none⟩ _) (fun h=>hCW.pnm hpW h.symm) (fun b hb h=>hCW.pne hpW (by decide) hb h.symm)
 generalize hW2 : W.setCell ⟨p,4,none⟩ (.int .i64 ((bs.length : Int) + 1))=W2 at hp2 t2 hC2 hadd
 clear hW2 hpW hCW tb
 refine hadd.mono ?_
 rintro e w' ⟨rfl,rfl⟩
 clear hadd hbel
 have HC2:=Lib.hid hC2
 have HT2:=Lib.hid t2
 have HP2:=Lib.hid hp2
 have hpl:=hp2.lt
 have c0:=hp2.cell 0 rfl
 have c5:=hp2.cell 5 rfl
 have c6:=hp2.cell 6 rfl
 clear hC2 t2 hp2
 go_wp2
 clear ho
 have hcl : ∀ W1,Calls Tryz.prog 57 #[.string nonce] W1 fun e w'=>e=.returned (.string nonce)∧Below W1.heap.size W1 w':=fun W1=>clone_any nonce W1 (by have:=HZ.out;omega)
 have hho : ∀ W1,Calls Tryz.prog 56 #[.pointer (some ⟨ub,0,none⟩),.string nonce] W1 fun e w'=>e=.returned (.pointer (some ⟨W1.heap.size,0,none⟩))∧w'=W1.alloc (.cells (hostV ub nonce 0 false ⟨#[]⟩ ⟨#[]⟩).toArray 182):=fun W1=>host_new ub nonce HZ.out W1
 obtain ⟨D,⟨es,clock,hmb,F,hes,hD⟩,hM⟩:=HC2.out.map
 have hown : ∀ W1 : World,W1.heap[mb]? = some (.map es clock)→W1.ownsMap Tryz.prog 3 Rp mb bs.length D:=fun W1 h=>⟨es,clock,h,F,hes,hD⟩
 have hspec : ∀ (W1 : World) (g : Nat),W1.heap[mb]? = some (.map es clock)→∃ w',(Instr.mapUpdate TMap (.map (some mb)) (.int .i64 ((bs.length : Int) + 1)) (.pointer (some ⟨g,0,none⟩))).run Tryz.prog W1=.ok () w'∧w'.ownsMap Tryz.prog 3 Rp mb (bs.length + 1) (D.put (.int .i64 ((bs.length : Int) + 1)) (ptrD g))∧W1.grownBy w' (some mb):=fun W1 g h=>
  (hown W1 h).update (t:=TMap) (e:=115) (int_keyed Tryz.underlying3) Tryz.underlying86 (by unfold maxLen;omega) (keyOf_int_mk Tryz.underlying3 (WalkArith.wf_i64 (by omega))) (Rp_ptr g)
 have hokA : ∀ (W1 : World),W1.heap[mb]? = some (.map es clock)→∀ g,(Instr.mapUpdate 86 (.map (some mb)) (.int .i64 ((bs.length : Int) + 1)) (.pointer (some ⟨g,0,none⟩))).run Tryz.prog W1=.ok () (afterUpd 86 (.map (some mb)) (.int .i64 ((bs.length : Int) + 1)) (.pointer (some ⟨g,0,none⟩)) W1):=fun W1 h g=>by
  obtain ⟨w',h1,_⟩:=hspec W1 g h
  rw [upd_run h1]
  exact h1
 have hokB : ∀ (W0 : World) (g0 : Nat),W0.heap[mb]? = some (.map es clock)→∀ g,(Instr.mapUpdate 86 (.map (some mb)) (.int .i64 ((bs.length : Int) + 1)) (.pointer (some ⟨g,0,none⟩))).run Tryz.prog (afterUpd 86 (.map (some mb)) (.int .i64 ((bs.length : Int) + 1)) (.pointer (some ⟨g0,0,none⟩)) W0)=.ok () (afterUpd 86 (.map (some mb)) (.int .i64 ((bs.length : Int) + 1)) (.pointer (some ⟨g,0,none⟩)) (afterUpd 86 (.map (some mb)) (.int .i64 ((bs.length : Int) + 1)) (.pointer (some ⟨g0,0,none⟩)) W0)):=fun W0 g0 h g=>by
  obtain ⟨w',h1,h2,_⟩:=hspec W0 g0 h
  rw [upd_run h1]
  obtain ⟨w2,h3,_⟩:=h2.update (t:=TMap) (e:=115) (int_keyed Tryz.underlying3) Tryz.underlying86 (by unfold maxLen;omega) (keyOf_int_mk Tryz.underlying3 (a:=(bs.length : Int) + 1) (WalkArith.wf_i64 (by omega))) (Rp_ptr g)
  rw [upd_run h3]
  exact h3
 have hpm : p ≠ mb:=HC2.out.pnm HP2.out
 have hcu : ∀ (W1 : World) (g : Nat),W1.heap[mb]? = some (.map es clock)→p < W1.heap.size→∀ i,(afterUpd 86 (.map (some mb)) (.int .i64 ((bs.length : Int) + 1)) (.pointer (some ⟨g,0,none⟩)) W1).cell? ⟨p,i,none⟩=W1.cell? ⟨p,i,none⟩:=fun W1 g h hpl i=>by
  obtain ⟨w',h1,_,h3⟩:=hspec W1 g h
  rw [upd_run h1]
  exact World.cell?_of_block (h3.block p hpl (fun e=>hpm (by injection e)))
 have HSP:=Lib.hid hspec
 have HM:=Lib.hid hM
 have hml : mb < w'.heap.size:=HC2.out.mlt
 clear hspec hM hown hD hes F hpm
 go_region_held3 (fun w'=>w'.cell? ⟨p,0,none⟩=some (.pointer (some ⟨ub,0,none⟩))∧w'.cell? ⟨p,5,none⟩=some (.int .i64 now)∧w'.cell? ⟨p,6,none⟩=some (.map (some mb))∧(∀ g,(Instr.mapUpdate 86 (.map (some mb)) (.int .i64 ((bs.length : Int) + 1)) (.pointer (some ⟨g,0,none⟩))).run Tryz.prog w'=.ok () (afterUpd 86 (.map (some mb)) (.int .i64 ((bs.length : Int) + 1)) (.pointer (some ⟨g,0,none⟩)) w')))
  ((go_split_ands;refine ⟨by (first | assumption | go_keep | (rw [hbk.cell (by simp;omega)];first | assumption | go_keep) | ((refine (hcu _ _ ?h1 ?h2 _).trans ?h3);(case h1=>(repeat (first | exact hmb | (rw [heap_drew_]) | (refine (hbk.block _ (by simp;omega)).trans ?_) | ((refine (Below.heap_alloc _ _ _ ?hsz).trans ?_);(case hsz=>(first | omega | (simp;omega) | (have:=hbk.size;simp at this ⊢;omega)))))));(case h2=>(first | omega | (simp;omega) | (have:=hbk.size;simp at this ⊢;omega)));(case h3=>(first | assumption | go_keep | (rw [hbk.cell (by simp;omega)];first | assumption | go_keep))))),by (first | assumption | go_keep | (rw [hbk.cell (by simp;omega)];first | assumption | go_keep) | ((refine (hcu _ _ ?h1 ?h2 _).trans ?h3);(case h1=>(repeat (first | exact hmb | (rw [heap_drew_]) | (refine (hbk.block _ (by simp;omega)).trans ?_) | ((refine (Below.heap_alloc _ _ _ ?hsz).trans ?_);(case hsz=>(first | omega | (simp;omega) | (have:=hbk.size;simp at this ⊢;omega)))))));(case h2=>(first | omega | (simp;omega) | (have:=hbk.size;simp at this ⊢;omega)));(case h3=>(first | assumption | go_keep | (rw [hbk.cell (by simp;omega)];first | assumption | go_keep))))),by (first | assumption | go_keep | (rw [hbk.cell (by simp;omega)];first | assumption | go_keep) | ((refine (hcu _ _ ?h1 ?h2 _).trans ?h3);(case h1=>(repeat (first | exact hmb | (rw [heap_drew_]) | (refine (hbk.block _ (by simp;omega)).trans ?_) | ((refine (Below.heap_alloc _ _ _ ?hsz).trans ?_);(case hsz=>(first | omega | (simp;omega) | (have:=hbk.size;simp at this ⊢;omega)))))));(case h2=>(first | omega | (simp;omega) | (have:=hbk.size;simp at this ⊢;omega)));(case h3=>(first | assumption | go_keep | (rw [hbk.cell (by simp;omega)];first | assumption | go_keep))))),by (first | assumption | ((refine hokB _ _ ?_);(repeat (first | exact hmb | (rw [heap_drew_]) | (refine (hbk.block _ (by simp;omega)).trans ?_) | ((refine (Below.heap_alloc _ _ _ ?hsz).trans ?_);(case hsz=>(first | omega | (simp;omega) | (have:=hbk.size;simp at this ⊢;omega))))))) | ((refine hokA _ ?_);(repeat (first | exact hmb | (rw [heap_drew_]) | (refine (hbk.block _ (by simp;omega)).trans ?_) | ((refine (Below.heap_alloc _ _ _ ?hsz).trans ?_);(case hsz=>(first | omega | (simp;omega) | (have:=hbk.size;simp at this ⊢;omega))))))))⟩))
  (first | ((go_at_call 57;refine (hcl _).mono ?_;rintro e W3 ⟨rfl,hbk⟩)) | ((go_at_call 56;refine (hho _).mono ?_;rintro e W4 ⟨rfl,rfl⟩)) | ((go_at_call 24;refine (now_cell p now _ ?_ h0 (by omega)).mono ?_;(simp [*]);rintro e W5 ⟨rfl,rfl⟩)))
 all_goals
  have HBK:=hbk.size
  go_wp2
  go_ret2
  refine accept_end (w:=w) (w2:=w') HP2.out HC2.out HT2.out HM.out (HSP.out _ _ ?mapAt) ?below (at_new' _ _ _ _ ?sz) ?far (h:=_) (rd:=_) ?host ?reader ?farh ?farr
  case mapAt=>(repeat (first | exact hmb | (rw [heap_drew_]) | (refine (hbk.block _ (by simp;omega)).trans ?_) | ((refine (Below.heap_alloc _ _ _ ?hsz).trans ?_);(case hsz=>(first | omega | (simp;omega) | (have:=hbk.size;simp at this ⊢;omega))))))
  case below=>(repeat (first | exact ⟨hbk.os,hbk.tape,hbk.output,hbk.size,hbk.block⟩ | exact (((Below.refl w'.heap.size w').alloc (Nat.le_refl _) _).trans ⟨hbk.os,hbk.tape,hbk.output,hbk.size,fun k hk=>hbk.block k (by simp;omega)⟩) | ((refine Below.alloc ?_ ?hs _);(case hs=>(first | omega | (simp;omega) | (have:=hbk.size;simp at this ⊢;omega))))))
  case sz=>simp
  case far=>(have:=hbk.size;simp at this ⊢;omega)
  case host=>(repeat (first | ((refine at_new' _ _ _ _ ?hs2);(case hs2=>(simp;done))) | (refine At.alloc ?_ _) | (refine At.below ?_ hbk (by simp))))
  case reader=>(repeat (first | ((refine at_new' _ _ _ _ ?hs2);(case hs2=>(simp;done))) | (refine At.alloc ?_ _) | (refine At.below ?_ hbk (by simp))))
  case farh=>(have:=hbk.size;first | (simp;done) | (simp at this ⊢;done) | (simp at this ⊢;omega) | omega)
  case farr=>(have:=hbk.size;first | (simp;done) | (simp at this ⊢;done) | (simp at this ⊢;omega) | omega)
end Go.Proofs.YtkekohmkaefdnaaGreatDoor
namespace Go.Proofs.YtkekohmkaefdnaaGreatDoor
open Go.RowKit Go.Maps Go.Shelf
abbrev TRing : Nat:=171
abbrev TCache : Nat:=169
abbrev TTable : Nat:=201
def ringV (most : Int) (l : Value) (total : Int) : List Value:=[.int .i64 most,l,.int .i64 total]
def tableV (done : Bool) (slots : Value) (n : Int) : List Value:=[.int .u32 0,.int .u32 (if done then 1 else 0),.int .i32 0,.int .u32 0,slots,.int .i64 n]
def cacheV (budget : Int) (tb : Nat) (order : Value) (used ver gone : Int) : List Value:=[.int .i64 budget,.pointer (some ⟨tb,0,none⟩),order,.int .i64 used,.int .i64 ver,.int .i64 gone]
theorem ring_new (n : Int) (w : World) (h1 : 1 ≤ n) (h2 : n ≤ 50) : Calls Tryz.prog 37 #[.int .i64 n] w fun e w'=>e=.returned (.pointer (some ⟨w.heap.size,0,none⟩))∧w'=w.alloc (.cells (ringV n (.slice none 0 0) 0).toArray TRing):=by
 have m1 : max n 1=n:=by omega
 have m2 : min n 50=n:=by omega
 go_enter Tryz.func37,Tryz.ntmps37
 go_wp2
 go_ret
 exact ⟨rfl,rfl⟩
theorem table_new (w : World) : Calls Tryz.prog 78 #[.int .u32 0] w fun e w'=>e=.returned (.pointer (some ⟨w.heap.size,0,none⟩))∧w'=w.alloc (.cells (tableV false (.slice none 0 0) 0).toArray TTable):=by
 go_enter Tryz.func78,Tryz.ntmps78
 go_wp2
 go_ret
 exact ⟨rfl,rfl⟩
theorem cache_new (n : Int) (w : World) (h1 : 0 ≤ n) (h2 : n ≤ 1000000) : Calls Tryz.prog 36 #[.int .i64 n] w fun e w'=>e=.returned (.pointer (some ⟨w.heap.size + 1,0,none⟩))∧w'=(w.alloc (.cells (tableV false (.slice none 0 0) 0).toArray TTable)).alloc (.cells (cacheV n w.heap.size (.slice none 0 0) 0 0 0).toArray TCache):=by
 have m1 : max n 0=n:=by omega
 have m2 : min n 1000000=n:=by omega
 go_enter Tryz.func36,Tryz.ntmps36
 go_wp2_with (go_at_call 78;refine (table_new _).mono ?_;rintro e w' ⟨rfl,rfl⟩)
 go_ret
 exact ⟨rfl,rfl⟩
end Go.Proofs.YtkekohmkaefdnaaGreatDoor
namespace Go.Proofs.YtkekohmkaefdnaaGreatDoor
open Go.RowKit Go.Maps Go.Shelf
attribute [local go_sem ↓] Go.wp_at_zero Go.wp_at_succ
def nil8 : List Value:=[.slice none 0 0,.slice none 0 0,.slice none 0 0,.slice none 0 0,.slice none 0 0,.slice none 0 0,.slice none 0 0,.slice none 0 0]
def tabMid (slots : Value) (n : Int) : List Value:=[.int .u32 0,.int .u32 0,.int .i32 1,.int .u32 0,slots,.int .i64 n]
theorem info_items : (Tryz.prog.info? 46).map (fun i=>(i.zero,i.size,i.bytes))=some (some (.slice none 0 0),1,24):=by kernel_rfl
theorem make8 (W : World) : (Instr.makeSlice 199 (.int .i64 8) (.int .i64 8)).run Tryz.prog W=.ok (.slice (some ⟨W.heap.size,0,none⟩) 8 8) (W.alloc (.cells nil8.toArray 46)):=by
 obtain ⟨i0,hi,hz0,hz1,hz2⟩:=info_parts info_items
 have h:=run_makeSlice (P:=Tryz.prog) W 199 46 i0 _ Tryz.underlying199 hi hz0 .i64 .i64 8 8 (by omega) (by omega) (by rw [hz1];decide) (by rw [hz2];decide) (by decide)
 rw [hz1,show madeCells (Value.slice none 0 0).cells (Int.toNat 8 * 1)=nil8.toArray from by kernel_rfl] at h
 exact h
theorem made1_any (tb : Nat) (pl : Addr) (w : World) (h0 : w.cell? pl=some (.pointer (some ⟨tb,0,none⟩))) (ht : At w tb (tabMid (.slice none 0 0) 0) TTable) (hne : pl ≠ ⟨tb,4,none⟩) :
  Calls Tryz.prog 238 #[.pointer (some pl)] w fun e w'=>e=.returned (.tuple #[])∧At w' tb (tabMid (.slice (some ⟨w.heap.size,0,none⟩) 8 8) 0) TTable∧At w' w.heap.size nil8 46∧Tch (fun k=>k=tb) w w':=by
 have c4:=ht.cell 4 rfl
 have hmk:=make8
 have f4:=ht.frozen 4
 have htl:=ht.lt
 have HT:=Lib.hid ht
 clear ht
 go_enter Tryz.func238,Tryz.ntmps238
 go_wp2
 have hne2 : (⟨tb,4,none⟩ : Addr) ≠ pl:=Ne.symm hne
 have hpl2 : ∀ v,(w.setCell ⟨tb,4,none⟩ v).cell? pl=some (.pointer (some ⟨tb,0,none⟩)):=fun v=>(World.cell?_setCell_other w ⟨tb,4,none⟩ pl v hne2).trans h0
 go_region_held3 (fun w'=>w'.cell? pl=some (.pointer (some ⟨tb,0,none⟩))∧(∃ x,w'.cell? ⟨tb,4,none⟩=some x)∧w'.frozen? ⟨tb,4,none⟩=false)
  ((go_split_ands;refine ⟨by first | assumption | (go_keep;done) | (repeat (first | exact hpl2 _ | (rw [World.cell?_drew]) | (refine Lib.cell?_alloc_some _ ?_))),by first | assumption | (go_keep;done) | exact ⟨_,((HT.out.set 4 _).alloc _).drew.cell 4 rfl⟩ | exact ⟨_,((HT.out.set 4 _).alloc _).cell 4 rfl⟩,by first | assumption | exact (HT.out.alloc _).drew.frozen 4 | exact (HT.out.drew.alloc _).frozen 4 | exact (HT.out.alloc _).frozen 4 | exact ((HT.out.set 4 _).alloc _).drew.frozen 4 | exact ((HT.out.set 4 _).alloc _).frozen 4 | exact HT.out.drew.frozen 4⟩)) (fail)
 all_goals
  go_end0
  refine ⟨rfl,((HT.out.set 4 _).alloc _).drew,?_,((Tch.set w ⟨tb,4,none⟩ _).trans (Tch.alloc (fun _=>False) _ _) (fun _ _ h=>h.elim)).trans (Tch.drew (fun _=>False) _) (fun _ _ h=>h.elim)⟩
  have ha:=at_new' (w.setCell ⟨tb,4,none⟩ (.slice (some ⟨w.heap.size,0,none⟩) 8 8)) nil8.toArray 46 w.heap.size (by simp)
  exact ha.drew
theorem once_made (tb pl : Nat) (tl : Nat) (w : World) (ht : At w tb (tableV false (.slice none 0 0) 0) TTable) (hl : At w pl [.pointer (some ⟨tb,0,none⟩)] tl) (hlb : pl ≠ tb) :
  Calls Tryz.prog 94 #[.pointer (some ⟨tb,1,none⟩),.func (.func 238) #[] #[.pointer (some ⟨pl,0,none⟩)]] w fun e w'=>e=.returned (.tuple #[]) ∧
   At w' tb (tableV true (.slice (some ⟨w.heap.size,0,none⟩) 8 8) 0) TTable∧At w' w.heap.size nil8 46∧Tch (fun k=>k=tb) w w':=by
 have c1 : At (w.setCell ⟨tb,2,none⟩ (.int .i32 1)) tb (tabMid (.slice none 0 0) 0) TTable:=ht.set 2 (.int .i32 1)
 have l1 : At (w.setCell ⟨tb,2,none⟩ (.int .i32 1)) pl _ tl:=hl.other _ _ hlb
 have hsz : (w.setCell ⟨tb,2,none⟩ (.int .i32 1)).heap.size=w.heap.size:=by simp
 have hm:=made1_any tb ⟨pl,0,none⟩ _ (l1.cell 0 rfl) c1 (fun e=>hlb (by injection e))
 rw [hsz] at hm
 have htl:=ht.lt
 refine (once_first 238 tb 1 _ w (fun W'=>At W' tb (tabMid (.slice (some ⟨w.heap.size,0,none⟩) 8 8) 0) TTable∧At W' w.heap.size nil8 46∧Tch (fun k=>k=tb) (w.setCell ⟨tb,2,none⟩ (.int .i32 1)) W')
  (ht.cell 1 rfl) (ht.cell 2 rfl) (ht.frozen 2) hm
  ?_ (enters_of Tryz.func238 (by kernel_rfl) rfl)).mono ?_
 ·rintro W' ⟨h1,_,_⟩
  exact ⟨h1.cell 1 rfl,h1.cell 2 rfl,h1.frozen 1,h1.frozen 2⟩
 ·rintro e w' ⟨rfl,W',⟨h1,h2,h3⟩,rfl⟩
  have hne : w.heap.size ≠ tb:=by omega
  refine ⟨rfl,(h1.drew.set 1 (.int .u32 1)).set 2 (.int .i32 0),(h2.drew.other _ _ hne).other _ _ hne,?_⟩
  exact ((((Tch.set w ⟨tb,2,none⟩ _).trans h3 (fun _ _ h=>h)).trans (Tch.drew (fun _=>False) _) (fun _ _ h=>h.elim)).trans (Tch.set _ ⟨tb,1,none⟩ _) (fun _ _ h=>h)).trans (Tch.set _ ⟨tb,2,none⟩ _) (fun _ _ h=>h)
theorem table_made (tb : Nat) (w : World) (ht : At w tb (tableV false (.slice none 0 0) 0) TTable) :
  Calls Tryz.prog 163 #[.pointer (some ⟨tb,0,none⟩)] w fun e w'=>e=.returned (.tuple #[]) ∧
   ∃ sb,w.heap.size ≤ sb∧At w' tb (tableV true (.slice (some ⟨sb,0,none⟩) 8 8) 0) TTable∧At w' sb nil8 46∧Tch (fun k=>k=tb) w w':=by
 have hlt:=ht.lt
 have hd:=once_made tb w.heap.size 166 (w.alloc (.cells #[.pointer (some ⟨tb,0,none⟩)] 166)) (ht.alloc _) (At.new w _ _) (by omega)
 have ta : Tch (fun _=>False) w (w.alloc (.cells #[.pointer (some ⟨tb,0,none⟩)] 166)):=Tch.alloc _ _ _
 have hsz : (w.alloc (.cells #[.pointer (some ⟨tb,0,none⟩)] 166)).heap.size=w.heap.size + 1:=by simp
 clear ht
 go_enter Tryz.func163,Tryz.ntmps163
 go_wp2_with fail
 refine hd.mono ?_
 rintro e w' ⟨rfl,h1,h2,h3⟩
 rw [hsz] at h1 h2
 have H1:=Lib.hid h1
 have H2:=Lib.hid h2
 have H3:=Lib.hid h3
 clear hd h1 h2 h3
 go_wp2
 go_end0
 exact ⟨rfl,_,by omega,H1.out,H2.out,(ta.mono (fun _ _ h=>h.elim)).trans H3.out (fun _ _ h=>h)⟩
end Go.Proofs.YtkekohmkaefdnaaGreatDoor
namespace Go.Proofs.YtkekohmkaefdnaaGreatDoor
open Go.RowKit Go.Proofs.YtkekohmkaefdnaaGreatDoorW.PrintWords Go.Proofs.YtkekohmkaefdnaaGreatDoorW.PrintLast Go.Proofs.YtkekohmkaefdnaaGreatDoor.Pa
def ruleAnn : S145:=⟨true,⟨#[97,110,110]⟩,0,⟨#[42]⟩⟩
def textAnn : ByteArray:=⟨#[97,108,108,111,119,32,97,110,110,32,97,110,121,32,42]⟩
def textTwo : ByteArray:=⟨#[100,101,110,121,32,98,111,98,32,97,110,121,32,115,101,99,114,101,116,42,10,97,108,108,111,119,32,98,111,98,32,114,101,97,100,32,42,10,97,108,108,111,119,32,97,110,110,32,97,110,121,32,42]⟩
def ruleDeny : S145:=⟨false,⟨#[98,111,98]⟩,0,⟨#[115,101,99,114,101,116,42]⟩⟩
def ruleBob : S145:=⟨true,⟨#[98,111,98]⟩,1,⟨#[42]⟩⟩
theorem parse_ann : Pb.acl_Parse.f 60 textAnn=some ([ruleAnn],0,true):=by kernel_rfl
theorem parse_two : Pb.acl_Parse.f 80 textTwo=some ([ruleDeny,ruleBob,ruleAnn],0,true):=by kernel_rfl
theorem decide_ann : Pa.acl_Decide.f 60 [ruleAnn] ⟨#[97,110,110]⟩ 2 ⟨#[97]⟩=some (true,0):=by decide +kernel
theorem class_set : Pb.command_Class.f 60 2=some 2:=by decide +kernel
theorem right_set : Pb.command_Right.f 60 2 ⟨#[97]⟩ ⟨#[120]⟩ 0 0=some true:=by decide +kernel
def helloAnn : ByteArray:=⟨#[1,3,97,110,110,48,49,50,51,52,53,54,55,56,57,97,98,99,100,101,102]⟩
def nonceG : ByteArray:=⟨#[48,49,50,51,52,53,54,55,56,57,97,98,99,100,101,102]⟩
def nonceH : ByteArray:=⟨#[102,101,100,99,98,97,57,56,55,54,53,52,51,50,49,48]⟩
def chall : ByteArray:=⟨#[2,102,101,100,99,98,97,57,56,55,54,53,52,51,50,49,48]⟩
theorem hello_ann : Pb.escutcheonref14_Hello.f ⟨#[97,110,110]⟩ nonceG=some (helloAnn,true):=by decide +kernel
theorem gethello_ann : Pb.hello_GetHello.f 60 helloAnn=some (⟨#[97,110,110]⟩,nonceG,true):=by decide +kernel
theorem putchall : Pb.hello_PutChallenge.f nonceH=some (chall,true):=by decide +kernel
theorem papers_ann : Pb.shake_Papers.f helloAnn chall=some (helloAnn ++ chall):=by decide +kernel
theorem putbig21 : Pb.escutcheonref1_PutBig.f 60 21 2=some ⟨#[0,21]⟩:=by decide +kernel
theorem putbig17 : octet_PutBig.f 17 2=some ⟨#[0,17]⟩:=by decide +kernel
theorem hash_a : Pb.table_Hash.f 60 ⟨#[97]⟩ 0=some 3826002220:=by decide +kernel
def fillS : ByteArray:=⟨#[115,0,0,0,0,0,0,0,0,0,0,0,0,0,0,0,0,0,0,0,0,0,0,0,0,0,0,0,0,0,0,0]⟩
def fillT : ByteArray:=⟨#[116,0,0,0,0,0,0,0,0,0,0,0,0,0,0,0,0,0,0,0,0,0,0,0,0,0,0,0,0,0,0,0]⟩
theorem fill_s : Pb.escutcheonlaw5_Fill.f 60 ⟨#[115]⟩ 32=some fillS:=by decide +kernel
theorem fill_t : Pb.escutcheonlaw5_Fill.f 60 ⟨#[116]⟩ 32=some fillT:=by decide +kernel
end Go.Proofs.YtkekohmkaefdnaaGreatDoor
namespace Go.Proofs.YtkekohmkaefdnaaGreatDoor
open Go.RowKit Go.Maps Go.Shelf
attribute [local go_sem ↓] Go.wp_at_zero Go.wp_at_succ
abbrev TItem : Nat:=103
abbrev TItems : Nat:=46
def itemL (k v : ByteArray) (ver unt : Int) : List Value:=[.string k,.string v,.int .i64 ver,.int .i64 unt]
def keyA : ByteArray:=⟨#[97]⟩
def valX : ByteArray:=⟨#[120]⟩
theorem place1_any (g : Nat) (key k v : ByteArray) (ver unt : Int) (w : World) (h : w.cell? ⟨g,0,none⟩=some (.string key)) :
  Calls Tryz.prog 166 #[.agg #[.string k,.string v,.int .i64 ver,.int .i64 unt],.pointer (some ⟨g,0,none⟩)] w fun e w'=>e=.returned (.bool (k.toList == key.toList))∧Below w.heap.size w w':=by
 have hg:=World.block_lt_of_cell? w _ h
 have h2 : (w.alloc (.cells #[.string k,.string v,.int .i64 ver,.int .i64 unt] TItem)).cell? ⟨g,0,none⟩=some (.string key):=Lib.cell?_alloc_some _ h
 go_enter Tryz.func166,Tryz.ntmps166
 go_wp2
 go_ret
 exact ⟨rfl,(Below.refl _ w).alloc (Nat.le_refl _) _⟩
theorem ind_nil (fv : Value) (w : World) : Calls Tryz.prog 165 #[.slice none 0 0,fv] w fun e w'=>e=.returned (.int .i64 (-1))∧w'=w:=by
 go_enter Tryz.func165,Tryz.ntmps165
 go_wp2
 go_loopg [5,8] 0 (fun gg s5 s8 wr=>s8=.int .i64 0∧wr=w)
 case atStart=>exact ⟨rfl,rfl⟩
 case round=>
  obtain ⟨rfl,rfl⟩:=hrel
  go_wp2
  go_ret
  exact ⟨rfl,rfl⟩
theorem ind_one (b c g : Nat) (key v : ByteArray) (ver unt : Int) (zs : List Value) (w : World) (hb : At w b (itemL key v ver unt ++ zs) TItem) (h : w.cell? ⟨g,0,none⟩=some (.string key)) :
  Calls Tryz.prog 165 #[.slice (some ⟨b,0,none⟩) 1 c,.func (.func 166) #[] #[.pointer (some ⟨g,0,none⟩)]] w fun e w'=>e=.returned (.int .i64 0)∧Below w.heap.size w w':=by
 have c0:=hb.cell 0 rfl
 have c1:=hb.cell 1 rfl
 have c2:=hb.cell 2 rfl
 have c3:=hb.cell 3 rfl
 have hp:=place1_any g key key v ver unt w h
 rw [show (key.toList == key.toList)=true from beq_self_eq_true _] at hp
 clear h hb
 go_enter Tryz.func165,Tryz.ntmps165
 go_wp2
 go_loopg [5,8] 0 (fun gg s5 s8 wr=>s8=.int .i64 0∧wr=w)
 case atStart=>exact ⟨rfl,rfl⟩
 case round=>
  obtain ⟨rfl,rfl⟩:=hrel
  go_wp2_with fail
  refine hp.mono ?_
  rintro e w' ⟨rfl,hb⟩
  go_wp2
  go_ret
  exact ⟨rfl,hb⟩
theorem place_any (F : Nat→Prop) (tb : Nat) (n idx : Int) (sl : List Value) (v : Value) (w : World)
  (hm : ∀ W,Tch (fun _=>False) w W→Calls Tryz.prog 163 #[.pointer (some ⟨tb,0,none⟩)] W fun e w'=>e=.returned (.tuple #[])∧∃ sb,F sb∧At w' tb (tableV true (.slice (some ⟨sb,0,none⟩) 8 8) n) TTable∧At w' sb sl TItems∧Tch (fun k=>k=tb) W w')
  (hsl : sl.length=8)
  (hix : ∀ W,Tch (fun k=>k=tb) w W→W.cell? ⟨w.heap.size,0,none⟩=some (.string keyA)→Calls Tryz.prog 165 #[v,.func (.func 166) #[] #[.pointer (some ⟨w.heap.size,0,none⟩)]] W fun e w'=>e=.returned (.int .i64 idx)∧Below W.heap.size W w') (hv : sl[4]? = some v) (htb : tb < w.heap.size) :
  Calls Tryz.prog 122 #[.pointer (some ⟨tb,0,none⟩),.string keyA] w fun e w'=>e=.returned (.tuple #[.int .i64 4,.int .i64 idx])∧∃ sb,F sb∧At w' tb (tableV true (.slice (some ⟨sb,0,none⟩) 8 8) n) TTable∧At w' sb sl TItems∧Tch (fun k=>k=tb) w w':=by
 have ta : Tch (fun _=>False) w (w.alloc (.cells #[.string keyA] 9)):=Tch.alloc _ _ _
 have ca : At (w.alloc (.cells #[.string keyA] 9)) w.heap.size [.string keyA] 9:=At.new w _ _
 have hm1:=hm _ ta
 have hhash:=fun W=>Pb.table_Hash.calls 60 keyA 0 3826002220 W hash_a
 have HI:=Lib.hid hix
 have HA:=Lib.hid ca
 have HT:=Lib.hid ta
 clear hm hix ca ta
 go_enter Tryz.func122,Tryz.ntmps122
 go_wp2_with fail
 refine hm1.mono ?_
 rintro e w1 ⟨rfl,sb,hF,ht,hs,tt⟩
 have hne : w.heap.size ≠ tb:=by omega
 have ca1 : At w1 w.heap.size [.string keyA] 9:=HA.out.tch tt (fun h=>hne h)
 have t1 : Tch (fun k=>k=tb) w w1:=(HT.out.mono (fun _ _ h=>h.elim)).trans tt (fun _ _ h=>h)
 have k0:=ca1.cell 0 rfl
 have c0:=ht.cell 0 rfl
 have c4:=ht.cell 4 rfl
 have s4:=hs.cell 4 hv
 clear hm1
 have HT1:=Lib.hid ht
 have HS1:=Lib.hid hs
 have HK1:=Lib.hid ca1
 have H1:=Lib.hid t1
 have hsb:=hs.lt
 have htb1:=ht.lt
 clear ht hs ca1 t1 tt
 go_wp2
 go_region_held3 (fun w'=>w'.cell? ⟨w.heap.size,0,none⟩=some (.string keyA)∧w'.cell? ⟨tb,0,none⟩=some (.int .u32 0)∧w'.cell? ⟨tb,4,none⟩=some (.slice (some ⟨sb,0,none⟩) 8 8)) (go_keep)
  ((go_at_call 164;refine (hhash _).mono ?_;rintro e w3 ⟨rfl,n3,rfl⟩))
 all_goals
  have hI:=fun m=>HI.out (w1.drewN m) (H1.out.trans (Tch.drewN (fun _=>False) _ _) (fun _ _ h=>h.elim)) (HK1.out.cell 0 rfl)
  have e4 : (IntKind.i64.wrap 3826002220).tmod 8=4:=by decide
  rw [e4]
  clear e4
  go_wp2_with (go_at_call 165;refine (hI _).mono ?_;rintro e w4 ⟨rfl,hb4⟩)
  go_ret2
  refine ⟨rfl,sb,hF,(HT1.out.drewN _).below hb4 htb1,(HS1.out.drewN _).below hb4 hsb,(H1.out.trans (Tch.drewN (fun _=>False) _ _) (fun _ _ h=>h.elim)).trans (Tch.of_below (fun _=>False) hb4) (fun _ _ h=>h.elim)⟩
end Go.Proofs.YtkekohmkaefdnaaGreatDoor
namespace Go.Proofs.YtkekohmkaefdnaaGreatDoor
open Go.RowKit Go.Maps Go.Shelf
attribute [local go_sem ↓] Go.wp_at_zero Go.wp_at_succ
def TabIs (F : Nat→Prop) (w : World) (tb : Nat) (n : Int) (sl : List Value) : Prop:=∃ sb,F sb∧At w tb (tableV true (.slice (some ⟨sb,0,none⟩) 8 8) n) TTable∧At w sb sl TItems
def MadeC (F : Nat→Prop) (tb : Nat) (n : Int) (sl : List Value) (w : World) : Prop:=∀ W,Tch (fun _=>False) w W→Calls Tryz.prog 163 #[.pointer (some ⟨tb,0,none⟩)] W fun e w'=>e=.returned (.tuple #[])∧∃ sb,F sb∧At w' tb (tableV true (.slice (some ⟨sb,0,none⟩) 8 8) n) TTable∧At w' sb sl TItems∧Tch (fun k=>k=tb) W w'
theorem MadeC.first {tb : Nat} {w : World} (ht : At w tb (tableV false (.slice none 0 0) 0) TTable) : MadeC (fun sb=>w.heap.size ≤ sb) tb 0 nil8 w:=fun W t=>by
 refine (table_made tb W (ht.tch t (fun h=>h))).mono ?_
 rintro e w' ⟨rfl,sb,hz,h1,h2,h3⟩
 exact ⟨rfl,sb,Nat.le_trans t.size hz,h1,h2,h3⟩
theorem made_again (tb : Nat) (slots : Value) (n : Int) (w : World) (ht : At w tb (tableV true slots n) TTable) :
  Calls Tryz.prog 163 #[.pointer (some ⟨tb,0,none⟩)] w fun e w'=>e=.returned (.tuple #[])∧Below w.heap.size w w':=by
 have h1:=((ht.alloc (.cells #[.pointer (some ⟨tb,0,none⟩)] 166))).cell 1 rfl
 have hd:=fun fv=>once_done tb 1 fv (w.alloc (.cells #[.pointer (some ⟨tb,0,none⟩)] 166)) h1
 clear ht
 go_enter Tryz.func163,Tryz.ntmps163
 go_wp2_with fail
 refine (hd _).mono ?_
 rintro e w' ⟨rfl,rfl⟩
 go_wp2
 go_end0
 exact ⟨rfl,(Below.refl _ w).alloc (Nat.le_refl _) _⟩
theorem MadeC.again {tb sb : Nat} {n : Int} {sl : List Value} {w : World} (ht : At w tb (tableV true (.slice (some ⟨sb,0,none⟩) 8 8) n) TTable) (hs : At w sb sl TItems) : MadeC (fun k=>k=sb) tb n sl w:=fun W t=>by
 have ht1:=ht.tch t (fun h=>h)
 have hs1:=hs.tch t (fun h=>h)
 refine (made_again tb _ n W ht1).mono ?_
 rintro e w' ⟨rfl,hb⟩
 exact ⟨rfl,sb,rfl,ht1.below hb ht1.lt,hs1.below hb hs1.lt,Tch.of_below _ hb⟩
def PlaceC (F : Nat→Prop) (tb : Nat) (n idx : Int) (sl : List Value) (w : World) : Prop:=∀ W,Tch (fun _=>False) w W→Calls Tryz.prog 122 #[.pointer (some ⟨tb,0,none⟩),.string keyA] W fun e w'=>e=.returned (.tuple #[.int .i64 4,.int .i64 idx])∧∃ sb,F sb∧At w' tb (tableV true (.slice (some ⟨sb,0,none⟩) 8 8) n) TTable∧At w' sb sl TItems∧Tch (fun k=>k=tb) W w'
theorem PlaceC.none_ {F : Nat→Prop} {tb : Nat} {n : Int} {w : World} (hm : MadeC F tb n nil8 w) (htb : tb < w.heap.size) : PlaceC F tb n (-1) nil8 w:=fun W t=>
 place_any F tb n (-1) nil8 (.slice none 0 0) W (fun W2 t2=>hm W2 (t.trans t2 (fun _ _ h=>h))) rfl (fun W2 _ _=>(ind_nil _ W2).mono (fun e w' h=>⟨h.1,by rw [h.2];exact Below.refl _ _⟩)) rfl (t.lt htb)
def oneA (b c : Nat) : List Value:=[.slice none 0 0,.slice none 0 0,.slice none 0 0,.slice none 0 0,.slice (some ⟨b,0,none⟩) 1 c,.slice none 0 0,.slice none 0 0,.slice none 0 0]
theorem PlaceC.one {F : Nat→Prop} {tb b c : Nat} {n ver unt : Int} {v : ByteArray} {zs : List Value} {w : World} (hm : MadeC F tb n (oneA b c) w) (htb : tb < w.heap.size) (hb : At w b (itemL keyA v ver unt ++ zs) TItem) (hne : b ≠ tb) : PlaceC F tb n 0 (oneA b c) w:=fun W t=>
 place_any F tb n 0 (oneA b c) (.slice (some ⟨b,0,none⟩) 1 c) W (fun W2 t2=>hm W2 (t.trans t2 (fun _ _ h=>h))) rfl (fun W2 t2 hk=>ind_one b c _ keyA v ver unt zs W2 (hb.tch (t.mono (fun _ _ h=>h.elim) |>.trans t2 (fun _ _ h=>h)) hne) hk) rfl (t.lt htb)
theorem at_ne2 {w : World} {a b : Nat} {cs cs' : List Value} {t t' : Nat} (h : At w a cs t) (k : At w b cs' t') (ht : t ≠ t') : a ≠ b:=by
 rintro rfl
 unfold At at h k
 rw [h] at k
 injection k with k
 injection k with _ k
 exact ht k
theorem tch_set4 (W : World) (b : Nat) (v0 v1 v2 v3 : Value) : Tch (fun k=>k=b) W ((((W.setCell ⟨b,0,none⟩ v0).setCell ⟨b,1,none⟩ v1).setCell ⟨b,2,none⟩ v2).setCell ⟨b,3,none⟩ v3):=
 (((Tch.set W ⟨b,0,none⟩ v0).trans (Tch.set _ ⟨b,1,none⟩ v1) (fun _ _ h=>h)).trans (Tch.set _ ⟨b,2,none⟩ v2) (fun _ _ h=>h)).trans (Tch.set _ ⟨b,3,none⟩ v3) (fun _ _ h=>h)
theorem tch_set5 (W : World) (b : Nat) (v0 v1 v2 v3 v4 : Value) : Tch (fun k=>k=b) W (((((W.setCell ⟨b,0,none⟩ v0).setCell ⟨b,1,none⟩ v1).setCell ⟨b,2,none⟩ v2).setCell ⟨b,3,none⟩ v3).setCell ⟨b,4,none⟩ v4):=
 (tch_set4 W b v0 v1 v2 v3).trans (Tch.set _ ⟨b,4,none⟩ v4) (fun _ _ h=>h)
theorem at_set4 {W : World} {b t : Nat} {x0 x1 x2 x3 : Value} (h : At W b [x0,x1,x2,x3] t) (v0 v1 v2 v3 : Value) : At ((((W.setCell ⟨b,0,none⟩ v0).setCell ⟨b,1,none⟩ v1).setCell ⟨b,2,none⟩ v2).setCell ⟨b,3,none⟩ v3) b [v0,v1,v2,v3] t:=
 (((h.set 0 v0).set 1 v1).set 2 v2).set 3 v3
theorem at_set5 {W : World} {b t : Nat} {x0 x1 x2 x3 x4 : Value} (h : At W b [x0,x1,x2,x3,x4] t) (v0 v1 v2 v3 v4 : Value) : At (((((W.setCell ⟨b,0,none⟩ v0).setCell ⟨b,1,none⟩ v1).setCell ⟨b,2,none⟩ v2).setCell ⟨b,3,none⟩ v3).setCell ⟨b,4,none⟩ v4) b [v0,v1,v2,v3,v4] t:=
 ((((h.set 0 v0).set 1 v1).set 2 v2).set 3 v3).set 4 v4
theorem TabIs.tch {F S : Nat→Prop} {w w1 : World} {tb : Nat} {n : Int} {sl : List Value} (h : TabIs F w tb n sl) (t : Tch S w w1) (h1 : ¬ S tb) (h2 : ∀ sb,At w sb sl TItems→¬ S sb) : TabIs F w1 tb n sl:=by
 obtain ⟨sb,f,a,b⟩:=h
 exact ⟨sb,f,a.tch t h1,b.tch t (h2 sb b)⟩
theorem at_app (W : World) (xs z : Array Value) (t b : Nat) (h : W.heap.size=b) : At (W.alloc (.cells (xs ++ z) t)) b (xs.toList ++ z.toList) t:=by
 have:=at_new' W (xs ++ z) t b h
 rwa [Array.toList_append] at this
abbrev zeroItem : Value:=.agg #[.string ⟨#[]⟩,.string ⟨#[]⟩,.int .i64 0,.int .i64 0]
theorem get_none (F : Nat→Prop) (tb : Nat) (n : Int) (sl : List Value) (w : World) (hp : PlaceC F tb n (-1) sl w) (htb : tb < w.heap.size) :
  Calls Tryz.prog 87 #[.pointer (some ⟨tb,0,none⟩),.string keyA] w fun e w'=>e=.returned (.tuple #[zeroItem,.bool false])∧TabIs F w' tb n sl∧Tch (fun k=>k=tb) w w':=by
 have ta : Tch (fun _=>False) w (w.alloc (.cells #[.string ⟨#[]⟩,.string ⟨#[]⟩,.int .i64 0,.int .i64 0] TItem)):=Tch.alloc _ _ _
 have ca : At (w.alloc (.cells #[.string ⟨#[]⟩,.string ⟨#[]⟩,.int .i64 0,.int .i64 0] TItem)) w.heap.size [.string ⟨#[]⟩,.string ⟨#[]⟩,.int .i64 0,.int .i64 0] TItem:=At.new w _ _
 have hp1:=hp _ ta
 have HA:=Lib.hid ca
 have HT:=Lib.hid ta
 clear hp ta ca
 go_enter Tryz.func87,Tryz.ntmps87
 go_wp2_with fail
 refine hp1.mono ?_
 rintro e w1 ⟨rfl,sb,hF,ht,hs,tt⟩
 have hne : w.heap.size ≠ tb:=by omega
 have ca1:=HA.out.tch tt (fun h=>hne h)
 have k0:=ca1.cell 0 rfl
 have k1:=ca1.cell 1 rfl
 have k2:=ca1.cell 2 rfl
 have k3:=ca1.cell 3 rfl
 have g0:=ca1.frozen 0
 have g1:=ca1.frozen 1
 have g2:=ca1.frozen 2
 have g3:=ca1.frozen 3
 have t1 : Tch (fun k=>k=tb) w w1:=(HT.out.mono (fun _ _ h=>h.elim)).trans tt (fun _ _ h=>h)
 have HT1:=Lib.hid ht
 have HS1:=Lib.hid hs
 have H1:=Lib.hid t1
 have HA1:=Lib.hid ca1
 clear ht hs ca1 t1 tt hp1
 go_wp2
 have t4:=tch_set4 w1 w.heap.size (.string ⟨#[]⟩) (.string ⟨#[]⟩) (.int .i64 0) (.int .i64 0)
 have a4:=at_set4 HA1.out (.string ⟨#[]⟩) (.string ⟨#[]⟩) (.int .i64 0) (.int .i64 0)
 have hns : sb ≠ w.heap.size:=at_ne2 HS1.out HA1.out (by decide)
 obtain ⟨W4,hW4⟩ : ∃ W4,((((w1.setCell ⟨w.heap.size,0,none⟩ (.string ⟨#[]⟩)).setCell ⟨w.heap.size,1,none⟩ (.string ⟨#[]⟩)).setCell ⟨w.heap.size,2,none⟩ (.int .i64 0)).setCell ⟨w.heap.size,3,none⟩ (.int .i64 0))=W4:=⟨_,rfl⟩
 rw [hW4] at t4 a4 ⊢
 have d0:=a4.cell 0 rfl
 have d1:=a4.cell 1 rfl
 have d2:=a4.cell 2 rfl
 have d3:=a4.cell 3 rfl
 have ht4:=HT1.out.tch t4 (fun h=>hne h.symm)
 have hs4:=HS1.out.tch t4 hns
 clear k0 k1 k2 k3 g0 g1 g2 g3 hW4
 refine bodyPost_ret (v:=.tuple #[zeroItem,.bool false]) q49_ rfl ?_
 refine ⟨rfl,⟨sb,hF,ht4,hs4⟩,H1.out.trans t4 (fun k hk h=>by omega)⟩
theorem get_one (F : Nat→Prop) (tb b c : Nat) (n ver unt : Int) (v : ByteArray) (zs : List Value) (w : World) (hp : PlaceC F tb n 0 (oneA b c) w) (htb : tb < w.heap.size) (hb : At w b (itemL keyA v ver unt ++ zs) TItem) (hbt : b ≠ tb) :
  Calls Tryz.prog 87 #[.pointer (some ⟨tb,0,none⟩),.string keyA] w fun e w'=>e=.returned (.tuple #[.agg #[.string keyA,.string v,.int .i64 ver,.int .i64 unt],.bool true])∧TabIs F w' tb n (oneA b c)∧At w' b (itemL keyA v ver unt ++ zs) TItem∧Tch (fun k=>k=tb) w w':=by
 have ta : Tch (fun _=>False) w (w.alloc (.cells #[.string ⟨#[]⟩,.string ⟨#[]⟩,.int .i64 0,.int .i64 0] TItem)):=Tch.alloc _ _ _
 have ca : At (w.alloc (.cells #[.string ⟨#[]⟩,.string ⟨#[]⟩,.int .i64 0,.int .i64 0] TItem)) w.heap.size [.string ⟨#[]⟩,.string ⟨#[]⟩,.int .i64 0,.int .i64 0] TItem:=At.new w _ _
 have hp1:=hp _ ta
 have HBI:=Lib.hid hb
 have hblt:=hb.lt
 have HA:=Lib.hid ca
 have HT:=Lib.hid ta
 clear hp ta ca hb
 go_enter Tryz.func87,Tryz.ntmps87
 go_wp2_with fail
 refine hp1.mono ?_
 rintro e w1 ⟨rfl,sb,hF,ht,hs,tt⟩
 have hne : w.heap.size ≠ tb:=by omega
 have ca1:=HA.out.tch tt (fun h=>hne h)
 have k0:=ca1.cell 0 rfl
 have k1:=ca1.cell 1 rfl
 have k2:=ca1.cell 2 rfl
 have k3:=ca1.cell 3 rfl
 have g0:=ca1.frozen 0
 have g1:=ca1.frozen 1
 have g2:=ca1.frozen 2
 have g3:=ca1.frozen 3
 have t1 : Tch (fun k=>k=tb) w w1:=(HT.out.mono (fun _ _ h=>h.elim)).trans tt (fun _ _ h=>h)
 have hb1:=HBI.out.tch t1 hbt
 have p0:=hb1.cell 0 rfl
 have p1:=hb1.cell 1 rfl
 have p2:=hb1.cell 2 rfl
 have p3:=hb1.cell 3 rfl
 have c4:=ht.cell 4 rfl
 have s4:=hs.cell 4 rfl
 have HB1:=Lib.hid hb1
 have hbne : b ≠ w.heap.size:=by omega
 have HT1:=Lib.hid ht
 have HS1:=Lib.hid hs
 have H1:=Lib.hid t1
 have HA1:=Lib.hid ca1
 clear ht hs ca1 t1 tt hp1 hb1
 go_wp2
 have t4:=tch_set4 w1 w.heap.size (.string keyA) (.string v) (.int .i64 ver) (.int .i64 unt)
 have a4:=at_set4 HA1.out (.string keyA) (.string v) (.int .i64 ver) (.int .i64 unt)
 have hns : sb ≠ w.heap.size:=at_ne2 HS1.out HA1.out (by decide)
 obtain ⟨W4,hW4⟩ : ∃ W4,((((w1.setCell ⟨w.heap.size,0,none⟩ (.string keyA)).setCell ⟨w.heap.size,1,none⟩ (.string v)).setCell ⟨w.heap.size,2,none⟩ (.int .i64 ver)).setCell ⟨w.heap.size,3,none⟩ (.int .i64 unt))=W4:=⟨_,rfl⟩
 rw [hW4] at t4 a4 ⊢
 have d0:=a4.cell 0 rfl
 have d1:=a4.cell 1 rfl
 have d2:=a4.cell 2 rfl
 have d3:=a4.cell 3 rfl
 have ht4:=HT1.out.tch t4 (fun h=>hne h.symm)
 have hs4:=HS1.out.tch t4 hns
 clear p0 p1 p2 p3 c4 s4 k0 k1 k2 k3 g0 g1 g2 g3 hW4
 refine bodyPost_ret (v:=.tuple #[.agg #[.string keyA,.string v,.int .i64 ver,.int .i64 unt],.bool true]) q49_ rfl ?_
 refine ⟨rfl,⟨sb,hF,ht4,hs4⟩,HB1.out.tch t4 hbne,H1.out.trans t4 (fun k hk h=>by omega)⟩
end Go.Proofs.YtkekohmkaefdnaaGreatDoor
namespace Go.Proofs.YtkekohmkaefdnaaGreatDoor
open Go.RowKit
namespace Tch
variable {S S' : Nat→Prop} {W w1 w2 : World}
theorem tdrew (h : Tch S W w1) : Tch S W w1.drew:=⟨h.os,h.tape,h.output,h.size,h.block⟩
theorem tdrewN {n : Nat} (h : Tch S W w1) : Tch S W (w1.drewN n):=⟨h.os,h.tape,h.output,h.size,h.block⟩
theorem talloc {o : Obj} (h : Tch S W w1) : Tch S W (w1.alloc o):=h.trans (Tch.alloc (fun _=>False) _ _) (fun _ _ h=>h.elim)
theorem tset {p : Addr} {v : Value} (h : Tch S W w1) (hp : p.block < W.heap.size→S p.block) : Tch S W (w1.setCell p v):=h.trans (Tch.set _ p v) (fun k hk e=>by subst e;exact hp hk)
theorem tbelow (h : Tch S W w1) (hb : Below w1.heap.size w1 w2) : Tch S W w2:=h.trans (Tch.of_below (fun _=>False) hb) (fun _ _ h=>h.elim)
theorem ttch (h : Tch S W w1) (k : Tch S' w1 w2) (hs : ∀ k,k < W.heap.size→S' k→S k) : Tch S W w2:=h.trans k hs
end Tch
namespace At
variable {w w1 : World} {b : Nat} {cs : List Value} {t : Nat} {S : Nat→Prop}
theorem abelow (h : At w b cs t) (hb : Below w.heap.size w w1) : At w1 b cs t:=h.below hb h.lt
theorem akeep {i : Nat} {v : Value} (h : At w b cs t) (hv : cs[i]? = some v) : At (w.setCell ⟨b,i,none⟩ v) b cs t:=by
 have:=h.set i v
 rwa [show cs.set i v=cs from by
  obtain ⟨hi,he⟩:=List.getElem?_eq_some_iff.1 hv
  rw [← he];exact List.set_getElem_self hi] at this
end At
end Go.Proofs.YtkekohmkaefdnaaGreatDoor
namespace Go.Proofs.YtkekohmkaefdnaaGreatDoor
open Go.RowKit Go.Maps Go.Shelf Go.Proofs.YtkekohmkaefdnaaGreatDoorW.PrintWords Go.Proofs.YtkekohmkaefdnaaGreatDoorW.PrintLast
attribute [local go_sem ↓] Go.wp_at_zero Go.wp_at_succ
def repL1 : List Value:=[.int .i64 0,.string ⟨#[]⟩,.int .i64 0,.int .i64 1,.slice none 0 0]
abbrev TRep : Nat:=38
def byte0 : ByteArray:=⟨#[0]⟩
def pair01 : ByteArray:=⟨#[0,0,0,232,212,165,16,0,0,0,0,0,0,0,0,1]⟩
def head2 : ByteArray:=⟨#[0,0]⟩
def head17b : ByteArray:=⟨#[0,0,0,0,232,212,165,16,0,0,0,0,0,0,0,0,1]⟩
def head19 : ByteArray:=⟨#[0,0,0,0,232,212,165,16,0,0,0,0,0,0,0,0,1,0,0]⟩
def rep20 : ByteArray:=⟨#[0,0,0,0,232,212,165,16,0,0,0,0,0,0,0,0,1,0,0,0]⟩
theorem right_rep : Pc.command_rightReply.f 60 0 ⟨#[]⟩ 0 1 []=some true:=by decide +kernel
theorem pair_01 : Pc.command_pair.f 0 1=some pair01:=by decide +kernel
theorem putbig0 : octet_PutBig.f 0 2=some head2:=by decide +kernel
theorem cat17 : byte0 ++ pair01=head17b:=by decide +kernel
theorem cat19 : head17b ++ head2=head19:=by decide +kernel
theorem cat19b : head19 ++ ⟨#[]⟩=head19:=by decide +kernel
theorem conv0 (W : World) : (convert 150 9 (.slice (some ⟨W.heap.size,0,none⟩) 1 1)).run Tryz.prog (W.alloc (.cells #[.int .u8 0] 5))=.ok (.string byte0) (W.alloc (.cells #[.int .u8 0] 5)):=
 isB.conv (xs:=[0]) (heap_alloc_new W _) 1 1 rfl
def headX : ByteArray:=((byte0 ++ pair01) ++ head2) ++ ⟨#[]⟩
theorem headX_size : headX.size=19:=by unfold headX;rw [cat17,cat19,cat19b];rfl
theorem headX_is : headX=head19:=by unfold headX;rw [cat17,cat19,cat19b]
theorem conv_h {W : World} {h : Nat} (hh : W.heap[h]? = some (.cells #[.int .u8 0] 5 (0,0))) : (convert 150 9 (.slice (some ⟨h,0,none⟩) 1 1)).run Tryz.prog W=.ok (.string byte0) W:=
 isB.conv (xs:=[0]) hh 1 1 rfl
theorem blk3_ {W W1 : World} {x13 : Value} (h : ∃ h,x13=.slice (some ⟨h,0,none⟩) 1 1∧W.heap[h]? = some (.cells #[.int .u8 0] 5 (0,0))) (hb : Below W.heap.size W W1) :
  ∃ h,x13=.slice (some ⟨h,0,none⟩) 1 1∧W1.heap[h]? = some (.cells #[.int .u8 0] 5 (0,0)):=by
 obtain ⟨h,h1,h2⟩:=h
 exact ⟨h,h1,blk_below h2 hb⟩
theorem bat_below {W W1 : World} {B b : Nat} {p : Value} {bs : List Value} (h : Lib.BuilderAtF 241 5 B b p bs W) (hb : Below W.heap.size W W1) : Lib.BuilderAtF 241 5 B b p bs W1:=by
 obtain ⟨hB,v,hv,hown,hne⟩:=h
 have blk : ∀ {k o},W.heap[k]? = some o→W1.heap[k]? = some o:=fun {k o} h=>(hb.block k (Array.getElem?_eq_some_iff.1 h).1).trans h
 refine ⟨hB,v,blk hv,⟨hown.1,?_⟩,hne⟩
 rcases hown.2 with hn | ⟨g,cap,cur,fz,e1,e2,e3,rest⟩
 ·exact .inl hn
 ·exact .inr ⟨g,cap,cur,fz,e1,e2,blk e3,rest⟩
theorem isb_fresh {W : World} {b : Nat} (h : W.heap[b]? = some (.cells #[.pointer none,.slice none 0 0] 241 (0,0))) : Lib.IsBuilderF 241 5 b b [] W:=
 .inl ⟨Nat.le_refl _,.slice none 0 0,h,World.ownsRowF_nil _ _ _ _,by simp [Value.ownBlock]⟩
def I4 (w : World) (g b : Nat) (L : Nat→Bool) (a : Act) (W : World) : Prop:=
 ∃ x10 x11 x12 x13 x14 x15 x16 x17 x18 x19 x20 x21 x22 x23 x24 x25 x26 x27 x28 x29 x30 : Value,a=⟨#[(.agg #[.int .i64 0,.string ⟨#[]⟩,.int .i64 0,.int .i64 1,.slice none 0 0]),(.pointer (some ⟨g,0,none⟩)),.string ⟨#[]⟩,.bool false,.pointer (some ⟨b,0,none⟩),undef,undef,(.agg #[.int .i64 0,.string ⟨#[]⟩,.int .i64 0,.int .i64 1,.slice none 0 0]),.bool true,.bool false,x10,x11,x12,x13,x14,x15,x16,x17,x18,x19,x20,x21,x22,x23,x24,x25,x26,x27,x28,x29,x30,undef,undef,undef,undef,undef,undef,undef,undef,undef,undef,undef,undef,undef,undef,undef,undef,undef,undef,undef],[]⟩∧(L 0=true→x10=.pointer (some ⟨g,0,none⟩))∧(L 1=true→x11=.int .i64 0)∧(L 2=true→x12=.int .u8 0)∧(L 3=true→(L 4=false→∃ h,x13=.slice (some ⟨h,0,none⟩) 1 1∧W.heap[h]? = some (.cells #[.int .u8 0] 5 (0,0))))∧(L 4=true→x14=.string byte0)∧(L 5=true→x15=.pointer (some ⟨g,2,none⟩))∧(L 6=true→x16=.int .i64 0)∧(L 7=true→x17=.pointer (some ⟨g,3,none⟩))∧(L 8=true→x18=.int .i64 1)∧(L 9=true→x19=.string pair01)∧(L 10=true→x20=.string (byte0 ++ pair01))∧(L 11=true→x21=.pointer (some ⟨g,1,none⟩))∧(L 12=true→x22=.string ⟨#[]⟩)∧(L 13=true→x23=.int .i64 0)∧(L 14=true→x24=.int .u64 0)∧(L 15=true→x25=.string head2)∧(L 16=true→x26=.string ((byte0 ++ pair01) ++ head2))∧(L 17=true→x27=.pointer (some ⟨g,1,none⟩))∧(L 18=true→x28=.string ⟨#[]⟩)∧(L 19=true→x29=.string headX)∧(L 20=true→Lib.BuilderAtF 241 5 b b (.pointer (some ⟨b,0,none⟩)) (Lib.strCells headX) W)∧(W.heap[g]? = some (.cells #[.int .i64 0,.string ⟨#[]⟩,.int .i64 0,.int .i64 1,.slice none 0 0] 38 (0,0)))∧(Below w.heap.size w W)∧(L 20=false→W.heap[b]? = some (.cells #[.pointer none,.slice none 0 0] 241 (0,0)))∧(b < W.heap.size)
theorem I4.step (w : World) (g b : Nat) (hgb : g < b) (hwg : w.heap.size ≤ g) {Q : Exit→Act→World→Prop} : ∀ i o L a W,(opsOf Tryz.f119 4)[i]? = some o→L i=false→o.after.all (fun e=>!Region.binds .any e || L e.on)=true→ClosedL (opsOf Tryz.f119 4) L→I4 w g b L a W →
  if Region.wanted o (yielded (opsOf Tryz.f119 4) a.tmps)=true then Oper.wp Tryz.prog o a W (fun a' w'=>I4 w g b (fun j=>j == i || L j) a' w') Q else I4 w g b (fun j=>j == i || L j) (a.put o.dst undef) W:=by
 intro i o L a W ho hLi haft hcl hI
 obtain ⟨x10,x11,x12,x13,x14,x15,x16,x17,x18,x19,x20,x21,x22,x23,x24,x25,x26,x27,x28,x29,x30,rfl,h0,h1,h2,h3,h4,h5,h6,h7,h8,h9,h10,h11,h12,h13,h14,h15,h16,h17,h18,h19,h20,hg,hb,hbu,hsz⟩:=hI
 rcases i with _|_|_|_|_|_|_|_|_|_|_|_|_|_|_|_|_|_|_|_|_|_
 ·obtain rfl : ({ dst:=some 10,op:=Go.Op.fieldAddr 38 (Go.Operand.tmp 1) 0,type:=0,pos := "command.go:145",after:=#[],guard:=none } : Oper)=o:=Option.some.inj ho
  refine value_ (v:=.pointer (some ⟨g,0,none⟩)) (w1:=W) (by rfl) rfl ?_ ?_
  ·go_simp;try rfl
  exact ⟨.pointer (some ⟨g,0,none⟩),x11,x12,x13,x14,x15,x16,x17,x18,x19,x20,x21,x22,x23,x24,x25,x26,x27,x28,x29,x30,rfl,fun _=>rfl,h1,h2,h3,h4,h5,h6,h7,h8,h9,h10,h11,h12,h13,h14,h15,h16,h17,h18,h19,h20,hg,hb,hbu,hsz⟩
 ·obtain rfl : ({ dst:=some 11,op:=Go.Op.load 29 (Go.Operand.tmp 10),type:=29,pos := "command.go:145",after:=#[{ on:=0,ground:=Go.Ground.data }],guard:=none } : Oper)=o:=Option.some.inj ho
  obtain rfl:=h0 (dep_ haft 0 rfl)
  have hc : W.cell? ⟨g,0,none⟩=some (.int .i64 0):=(blk_cell hg 0).trans rfl
  refine value_ (v:=.int .i64 0) (w1:=W) (by rfl) rfl ?_ ?_
  ·go_simp;try rfl
  exact ⟨.pointer (some ⟨g,0,none⟩),.int .i64 0,x12,x13,x14,x15,x16,x17,x18,x19,x20,x21,x22,x23,x24,x25,x26,x27,x28,x29,x30,rfl,fun _=>rfl,fun _=>rfl,h2,h3,h4,h5,h6,h7,h8,h9,h10,h11,h12,h13,h14,h15,h16,h17,h18,h19,h20,hg,hb,hbu,hsz⟩
 ·obtain rfl : ({ dst:=some 12,op:=Go.Op.convert 29 5 (Go.Operand.tmp 11),type:=5,pos := "command.go:145",after:=#[{ on:=1,ground:=Go.Ground.data }],guard:=none } : Oper)=o:=Option.some.inj ho
  obtain rfl:=h1 (dep_ haft 0 rfl)
  refine value_ (v:=.int .u8 0) (w1:=W) (by rfl) rfl ?_ ?_
  ·go_simp;try rfl
  exact ⟨x10,.int .i64 0,.int .u8 0,x13,x14,x15,x16,x17,x18,x19,x20,x21,x22,x23,x24,x25,x26,x27,x28,x29,x30,rfl,h0,fun _=>rfl,fun _=>rfl,h3,h4,h5,h6,h7,h8,h9,h10,h11,h12,h13,h14,h15,h16,h17,h18,h19,h20,hg,hb,hbu,hsz⟩
 ·obtain rfl : ({ dst:=some 13,op:=Go.Op.buildSlice 150 1 #[(0,Go.Operand.tmp 12)],type:=150,pos := "command.go:145",after:=#[{ on:=2,ground:=Go.Ground.data }],guard:=none } : Oper)=o:=Option.some.inj ho
  obtain rfl:=h2 (dep_ haft 0 rfl)
  refine value_ (v:=(.slice (some ⟨W.heap.size,0,none⟩) 1 1)) (w1:=W.alloc (.cells #[.int .u8 0] 5)) (by rfl) rfl ?_ ?_
  ·go_simp;try rfl
  exact ⟨x10,x11,.int .u8 0,(.slice (some ⟨W.heap.size,0,none⟩) 1 1),x14,x15,x16,x17,x18,x19,x20,x21,x22,x23,x24,x25,x26,x27,x28,x29,x30,rfl,h0,h1,fun _=>rfl,fun _=>fun _=>⟨_,rfl,heap_alloc_new W _⟩,h4,h5,h6,h7,h8,h9,h10,h11,h12,h13,h14,h15,h16,h17,h18,h19,fun hL=>bat_below (h20 hL) ((Below.refl W.heap.size W).alloc (Nat.le_refl _) _),blk_below hg ((Below.refl W.heap.size W).alloc (Nat.le_refl _) _),below_step hb ((Below.refl W.heap.size W).alloc (Nat.le_refl _) _),fun hL=>blk_below (hbu hL) ((Below.refl W.heap.size W).alloc (Nat.le_refl _) _),Nat.lt_of_lt_of_le hsz (Below.size ((Below.refl W.heap.size W).alloc (Nat.le_refl _) _))⟩
 ·obtain rfl : ({ dst:=some 14,op:=Go.Op.convert 150 9 (Go.Operand.tmp 13),type:=9,pos := "command.go:145",after:=#[{ on:=3,ground:=Go.Ground.data }],guard:=none } : Oper)=o:=Option.some.inj ho
  obtain ⟨h,rfl,hh⟩:=h3 (dep_ haft 0 rfl) hLi
  have hcv:=conv_h hh
  refine value_ (v:=.string byte0) (w1:=W) (by rfl) rfl ?_ ?_
  ·go_simp;try rfl
  exact ⟨x10,x11,x12,(.slice (some ⟨h,0,none⟩) 1 1),.string byte0,x15,x16,x17,x18,x19,x20,x21,x22,x23,x24,x25,x26,x27,x28,x29,x30,rfl,h0,h1,h2,fun _ h4=>Bool.noConfusion h4,fun _=>rfl,h5,h6,h7,h8,h9,h10,h11,h12,h13,h14,h15,h16,h17,h18,h19,h20,hg,hb,hbu,hsz⟩
 ·obtain rfl : ({ dst:=some 15,op:=Go.Op.fieldAddr 38 (Go.Operand.tmp 1) 2,type:=0,pos := "command.go:145",after:=#[],guard:=none } : Oper)=o:=Option.some.inj ho
  refine value_ (v:=.pointer (some ⟨g,2,none⟩)) (w1:=W) (by rfl) rfl ?_ ?_
  ·go_simp;try rfl
  exact ⟨x10,x11,x12,x13,x14,.pointer (some ⟨g,2,none⟩),x16,x17,x18,x19,x20,x21,x22,x23,x24,x25,x26,x27,x28,x29,x30,rfl,h0,h1,h2,h3,h4,fun _=>rfl,h6,h7,h8,h9,h10,h11,h12,h13,h14,h15,h16,h17,h18,h19,h20,hg,hb,hbu,hsz⟩
 ·obtain rfl : ({ dst:=some 16,op:=Go.Op.load 3 (Go.Operand.tmp 15),type:=3,pos := "command.go:145",after:=#[{ on:=5,ground:=Go.Ground.data }],guard:=none } : Oper)=o:=Option.some.inj ho
  obtain rfl:=h5 (dep_ haft 0 rfl)
  have hc : W.cell? ⟨g,2,none⟩=some (.int .i64 0):=(blk_cell hg 2).trans rfl
  refine value_ (v:=.int .i64 0) (w1:=W) (by rfl) rfl ?_ ?_
  ·go_simp;try rfl
  exact ⟨x10,x11,x12,x13,x14,.pointer (some ⟨g,2,none⟩),.int .i64 0,x17,x18,x19,x20,x21,x22,x23,x24,x25,x26,x27,x28,x29,x30,rfl,h0,h1,h2,h3,h4,fun _=>rfl,fun _=>rfl,h7,h8,h9,h10,h11,h12,h13,h14,h15,h16,h17,h18,h19,h20,hg,hb,hbu,hsz⟩
 ·obtain rfl : ({ dst:=some 17,op:=Go.Op.fieldAddr 38 (Go.Operand.tmp 1) 3,type:=0,pos := "command.go:145",after:=#[],guard:=none } : Oper)=o:=Option.some.inj ho
  refine value_ (v:=.pointer (some ⟨g,3,none⟩)) (w1:=W) (by rfl) rfl ?_ ?_
  ·go_simp;try rfl
  exact ⟨x10,x11,x12,x13,x14,x15,x16,.pointer (some ⟨g,3,none⟩),x18,x19,x20,x21,x22,x23,x24,x25,x26,x27,x28,x29,x30,rfl,h0,h1,h2,h3,h4,h5,h6,fun _=>rfl,h8,h9,h10,h11,h12,h13,h14,h15,h16,h17,h18,h19,h20,hg,hb,hbu,hsz⟩
 ·obtain rfl : ({ dst:=some 18,op:=Go.Op.load 3 (Go.Operand.tmp 17),type:=3,pos := "command.go:145",after:=#[{ on:=7,ground:=Go.Ground.data }],guard:=none } : Oper)=o:=Option.some.inj ho
  obtain rfl:=h7 (dep_ haft 0 rfl)
  have hc : W.cell? ⟨g,3,none⟩=some (.int .i64 1):=(blk_cell hg 3).trans rfl
  refine value_ (v:=.int .i64 1) (w1:=W) (by rfl) rfl ?_ ?_
  ·go_simp;try rfl
  exact ⟨x10,x11,x12,x13,x14,x15,x16,.pointer (some ⟨g,3,none⟩),.int .i64 1,x19,x20,x21,x22,x23,x24,x25,x26,x27,x28,x29,x30,rfl,h0,h1,h2,h3,h4,h5,h6,fun _=>rfl,fun _=>rfl,h9,h10,h11,h12,h13,h14,h15,h16,h17,h18,h19,h20,hg,hb,hbu,hsz⟩
 ·obtain rfl : ({ dst:=some 19,op:=Go.Op.call { callee:=Go.Callee.value (Go.Operand.func 157),args:=#[Go.Operand.tmp 16,Go.Operand.tmp 18],argTypes:=#[3,3] },type:=9,pos := "command.go:145",after:=#[{ on:=6,ground:=Go.Ground.data },{ on:=8,ground:=Go.Ground.data }],guard:=none } : Oper)=o:=Option.some.inj ho
  obtain rfl:=h6 (dep_ haft 0 rfl)
  obtain rfl:=h8 (dep_ haft 1 rfl)
  refine goes_ Tryz.func157 (by kernel_rfl) rfl #[.int .i64 0,.int .i64 1] (by rfl) rfl rfl q27_ ?_
  refine Calls.mono (Pc.command_pair.calls 0 1 pair01 W pair_01) ?_
  rintro e W1 ⟨rfl,hb1⟩
  refine ⟨_,rfl,?_⟩
  exact ⟨x10,x11,x12,x13,x14,x15,.int .i64 0,x17,.int .i64 1,.string pair01,x20,x21,x22,x23,x24,x25,x26,x27,x28,x29,x30,rfl,h0,h1,h2,fun hL h4=>blk3_ (h3 hL h4) hb1,h4,h5,fun _=>rfl,h7,fun _=>rfl,fun _=>rfl,h10,h11,h12,h13,h14,h15,h16,h17,h18,h19,fun hL=>bat_below (h20 hL) hb1,blk_below hg hb1,below_step hb hb1,fun hL=>blk_below (hbu hL) hb1,Nat.lt_of_lt_of_le hsz (Below.size hb1)⟩
 ·obtain rfl : ({ dst:=some 20,op:=Go.Op.binOp Go.BinOp.add 9 (Go.Operand.tmp 14) (Go.Operand.tmp 19) 9,type:=9,pos := "command.go:145",after:=#[{ on:=4,ground:=Go.Ground.data },{ on:=9,ground:=Go.Ground.data }],guard:=none } : Oper)=o:=Option.some.inj ho
  obtain rfl:=h4 (dep_ haft 0 rfl)
  obtain rfl:=h9 (dep_ haft 1 rfl)
  have hz1 : byte0.size=1:=rfl
  have hz2 : pair01.size=16:=rfl
  refine value_ (v:=.string (byte0 ++ pair01)) (w1:=W) (by rfl) rfl ?_ ?_
  ·go_simp;try rfl
  exact ⟨x10,x11,x12,x13,.string byte0,x15,x16,x17,x18,.string pair01,.string (byte0 ++ pair01),x21,x22,x23,x24,x25,x26,x27,x28,x29,x30,rfl,h0,h1,h2,h3,fun _=>rfl,h5,h6,h7,h8,fun _=>rfl,fun _=>rfl,h11,h12,h13,h14,h15,h16,h17,h18,h19,h20,hg,hb,hbu,hsz⟩
 ·obtain rfl : ({ dst:=some 21,op:=Go.Op.fieldAddr 38 (Go.Operand.tmp 1) 1,type:=0,pos := "command.go:145",after:=#[],guard:=none } : Oper)=o:=Option.some.inj ho
  refine value_ (v:=.pointer (some ⟨g,1,none⟩)) (w1:=W) (by rfl) rfl ?_ ?_
  ·go_simp;try rfl
  exact ⟨x10,x11,x12,x13,x14,x15,x16,x17,x18,x19,x20,.pointer (some ⟨g,1,none⟩),x22,x23,x24,x25,x26,x27,x28,x29,x30,rfl,h0,h1,h2,h3,h4,h5,h6,h7,h8,h9,h10,fun _=>rfl,h12,h13,h14,h15,h16,h17,h18,h19,h20,hg,hb,hbu,hsz⟩
 ·obtain rfl : ({ dst:=some 22,op:=Go.Op.load 9 (Go.Operand.tmp 21),type:=9,pos := "command.go:145",after:=#[{ on:=11,ground:=Go.Ground.data }],guard:=none } : Oper)=o:=Option.some.inj ho
  obtain rfl:=h11 (dep_ haft 0 rfl)
  have hc : W.cell? ⟨g,1,none⟩=some (.string ⟨#[]⟩):=(blk_cell hg 1).trans rfl
  refine value_ (v:=.string ⟨#[]⟩) (w1:=W) (by rfl) rfl ?_ ?_
  ·go_simp;try rfl
  exact ⟨x10,x11,x12,x13,x14,x15,x16,x17,x18,x19,x20,.pointer (some ⟨g,1,none⟩),.string ⟨#[]⟩,x23,x24,x25,x26,x27,x28,x29,x30,rfl,h0,h1,h2,h3,h4,h5,h6,h7,h8,h9,h10,fun _=>rfl,fun _=>rfl,h13,h14,h15,h16,h17,h18,h19,h20,hg,hb,hbu,hsz⟩
 ·obtain rfl : ({ dst:=some 23,op:=Go.Op.call { callee:=Go.Callee.builtin Go.Builtin.len,args:=#[Go.Operand.tmp 22],argTypes:=#[9] },type:=3,pos := "command.go:145",after:=#[{ on:=12,ground:=Go.Ground.data }],guard:=none } : Oper)=o:=Option.some.inj ho
  obtain rfl:=h12 (dep_ haft 0 rfl)
  refine value_ (v:=.int .i64 0) (w1:=W) (by rfl) rfl ?_ ?_
  ·go_simp;try rfl
  exact ⟨x10,x11,x12,x13,x14,x15,x16,x17,x18,x19,x20,x21,.string ⟨#[]⟩,.int .i64 0,x24,x25,x26,x27,x28,x29,x30,rfl,h0,h1,h2,h3,h4,h5,h6,h7,h8,h9,h10,h11,fun _=>rfl,fun _=>rfl,h14,h15,h16,h17,h18,h19,h20,hg,hb,hbu,hsz⟩
 ·obtain rfl : ({ dst:=some 24,op:=Go.Op.convert 3 152 (Go.Operand.tmp 23),type:=152,pos := "command.go:145",after:=#[{ on:=13,ground:=Go.Ground.data }],guard:=none } : Oper)=o:=Option.some.inj ho
  obtain rfl:=h13 (dep_ haft 0 rfl)
  have hvs : IntKind.u64.wrap 0=0:=by decide
  refine value_ (v:=.int .u64 0) (w1:=W) (by rfl) rfl ?_ ?_
  ·go_simp;try rfl
  exact ⟨x10,x11,x12,x13,x14,x15,x16,x17,x18,x19,x20,x21,x22,.int .i64 0,.int .u64 0,x25,x26,x27,x28,x29,x30,rfl,h0,h1,h2,h3,h4,h5,h6,h7,h8,h9,h10,h11,h12,fun _=>rfl,fun _=>rfl,h15,h16,h17,h18,h19,h20,hg,hb,hbu,hsz⟩
 ·obtain rfl : ({ dst:=some 25,op:=Go.Op.call { callee:=Go.Callee.value (Go.Operand.func 137),args:=#[Go.Operand.tmp 24,Go.Operand.const (Go.Value.int Go.IntKind.i64 2)],argTypes:=#[152,3] },type:=9,pos := "command.go:145",after:=#[{ on:=14,ground:=Go.Ground.data },{ on:=9,ground:=Go.Ground.chain }],guard:=none } : Oper)=o:=Option.some.inj ho
  obtain rfl:=h14 (dep_ haft 0 rfl)
  refine goes_ Tryz.func137 (by kernel_rfl) rfl #[.int .u64 0,.int .i64 2] (by rfl) rfl rfl q27_ ?_
  refine Calls.mono (octet_PutBig.calls 0 2 head2 W putbig0) ?_
  rintro e W1 ⟨rfl,hb1⟩
  refine ⟨_,rfl,?_⟩
  exact ⟨x10,x11,x12,x13,x14,x15,x16,x17,x18,x19,x20,x21,x22,x23,.int .u64 0,.string head2,x26,x27,x28,x29,x30,rfl,h0,h1,h2,fun hL h4=>blk3_ (h3 hL h4) hb1,h4,h5,h6,h7,h8,h9,h10,h11,h12,h13,fun _=>rfl,fun _=>rfl,h16,h17,h18,h19,fun hL=>bat_below (h20 hL) hb1,blk_below hg hb1,below_step hb hb1,fun hL=>blk_below (hbu hL) hb1,Nat.lt_of_lt_of_le hsz (Below.size hb1)⟩
 ·obtain rfl : ({ dst:=some 26,op:=Go.Op.binOp Go.BinOp.add 9 (Go.Operand.tmp 20) (Go.Operand.tmp 25) 9,type:=9,pos := "command.go:145",after:=#[{ on:=10,ground:=Go.Ground.data },{ on:=15,ground:=Go.Ground.data }],guard:=none } : Oper)=o:=Option.some.inj ho
  obtain rfl:=h10 (dep_ haft 0 rfl)
  obtain rfl:=h15 (dep_ haft 1 rfl)
  have hz1 : (byte0 ++ pair01).size=17:=by rw [cat17];rfl
  have hz2 : head2.size=2:=rfl
  refine value_ (v:=.string ((byte0 ++ pair01) ++ head2)) (w1:=W) (by rfl) rfl ?_ ?_
  ·go_simp;try rfl
  exact ⟨x10,x11,x12,x13,x14,x15,x16,x17,x18,x19,.string (byte0 ++ pair01),x21,x22,x23,x24,.string head2,.string ((byte0 ++ pair01) ++ head2),x27,x28,x29,x30,rfl,h0,h1,h2,h3,h4,h5,h6,h7,h8,h9,fun _=>rfl,h11,h12,h13,h14,fun _=>rfl,fun _=>rfl,h17,h18,h19,h20,hg,hb,hbu,hsz⟩
 ·obtain rfl : ({ dst:=some 27,op:=Go.Op.fieldAddr 38 (Go.Operand.tmp 1) 1,type:=0,pos := "command.go:145",after:=#[],guard:=none } : Oper)=o:=Option.some.inj ho
  refine value_ (v:=.pointer (some ⟨g,1,none⟩)) (w1:=W) (by rfl) rfl ?_ ?_
  ·go_simp;try rfl
  exact ⟨x10,x11,x12,x13,x14,x15,x16,x17,x18,x19,x20,x21,x22,x23,x24,x25,x26,.pointer (some ⟨g,1,none⟩),x28,x29,x30,rfl,h0,h1,h2,h3,h4,h5,h6,h7,h8,h9,h10,h11,h12,h13,h14,h15,h16,fun _=>rfl,h18,h19,h20,hg,hb,hbu,hsz⟩
 ·obtain rfl : ({ dst:=some 28,op:=Go.Op.load 9 (Go.Operand.tmp 27),type:=9,pos := "command.go:145",after:=#[{ on:=17,ground:=Go.Ground.data }],guard:=none } : Oper)=o:=Option.some.inj ho
  obtain rfl:=h17 (dep_ haft 0 rfl)
  have hc : W.cell? ⟨g,1,none⟩=some (.string ⟨#[]⟩):=(blk_cell hg 1).trans rfl
  refine value_ (v:=.string ⟨#[]⟩) (w1:=W) (by rfl) rfl ?_ ?_
  ·go_simp;try rfl
  exact ⟨x10,x11,x12,x13,x14,x15,x16,x17,x18,x19,x20,x21,x22,x23,x24,x25,x26,.pointer (some ⟨g,1,none⟩),.string ⟨#[]⟩,x29,x30,rfl,h0,h1,h2,h3,h4,h5,h6,h7,h8,h9,h10,h11,h12,h13,h14,h15,h16,fun _=>rfl,fun _=>rfl,h19,h20,hg,hb,hbu,hsz⟩
 ·obtain rfl : ({ dst:=some 29,op:=Go.Op.binOp Go.BinOp.add 9 (Go.Operand.tmp 26) (Go.Operand.tmp 28) 9,type:=9,pos := "command.go:145",after:=#[{ on:=16,ground:=Go.Ground.data },{ on:=18,ground:=Go.Ground.data }],guard:=none } : Oper)=o:=Option.some.inj ho
  obtain rfl:=h16 (dep_ haft 0 rfl)
  obtain rfl:=h18 (dep_ haft 1 rfl)
  have hz1 : ((byte0 ++ pair01) ++ head2).size=19:=by rw [cat17,cat19];rfl
  refine value_ (v:=.string headX) (w1:=W) (by rfl) rfl ?_ ?_
  ·go_simp;try rfl
  exact ⟨x10,x11,x12,x13,x14,x15,x16,x17,x18,x19,x20,x21,x22,x23,x24,x25,.string ((byte0 ++ pair01) ++ head2),x27,.string ⟨#[]⟩,.string headX,x30,rfl,h0,h1,h2,h3,h4,h5,h6,h7,h8,h9,h10,h11,h12,h13,h14,h15,fun _=>rfl,h17,fun _=>rfl,fun _=>rfl,h20,hg,hb,hbu,hsz⟩
 ·obtain rfl : ({ dst:=some 30,op:=Go.Op.call { callee:=Go.Callee.value (Go.Operand.func 156),args:=#[Go.Operand.tmp 4,Go.Operand.tmp 29],argTypes:=#[241,9] },type:=244,pos := "command.go:145",after:=#[{ on:=19,ground:=Go.Ground.data },{ on:=15,ground:=Go.Ground.chain }],guard:=none } : Oper)=o:=Option.some.inj ho
  obtain rfl:=h19 (dep_ haft 0 rfl)
  have d4 : L 4=true:=dep_ (hcl 10 _ rfl (dep_ (hcl 16 _ rfl (dep_ (hcl 19 _ rfl (dep_ haft 0 rfl)) 0 rfl)) 0 rfl)) 0 rfl
  have hfr:=isb_fresh (hbu hLi)
  have hz1:=headX_size
  refine goes_ Tryz.func156 (by kernel_rfl) rfl #[.pointer (some ⟨b,0,none⟩),.string headX] (by rfl) rfl rfl q27_ ?_
  refine Calls.mono (ws_any b b [] headX W hfr (by rw [hz1];decide) (Nat.le_of_lt hsz)) ?_
  rintro e W1 ⟨rfl,hbat,hb1⟩
  refine ⟨_,rfl,?_⟩
  exact ⟨x10,x11,x12,x13,x14,x15,x16,x17,x18,x19,x20,x21,x22,x23,x24,x25,x26,x27,x28,.string headX,_,rfl,h0,h1,h2,fun hL h4=>Bool.noConfusion (d4.symm.trans h4),h4,h5,h6,h7,h8,h9,h10,h11,h12,h13,h14,h15,h16,h17,h18,fun _=>rfl,fun _=>hbat,(hb1.block g hgb).trans hg,hb.trans (hb1.mono (by omega)),fun hL=>Bool.noConfusion hL,Nat.lt_of_lt_of_le hsz (Below.size hb1)⟩
 ·cases ho
theorem putreply (w : World) : Calls Tryz.prog 119 #[.agg #[.int .i64 0,.string ⟨#[]⟩,.int .i64 0,.int .i64 1,.slice none 0 0]] w fun e w'=>e=.returned (.tuple #[.string rep20,.bool true])∧Below w.heap.size w w':=by
 have hrr:=Pc.command_rightReply.calls 60 0 ⟨#[]⟩ 0 1 none 0 [] true (w.alloc (.cells #[.int .i64 0,.string ⟨#[]⟩,.int .i64 0,.int .i64 1,.slice none 0 0] TRep)) (Kd.C_nil _ _) (Nat.le_refl _) right_rep
 go_enter Tryz.func119,Tryz.ntmps119
 go_wp2_with fail
 refine hrr.mono ?_
 rintro x w1 ⟨rfl,h1⟩
 have hg1 : w1.heap[w.heap.size]? = some (.cells #[.int .i64 0,.string ⟨#[]⟩,.int .i64 0,.int .i64 1,.slice none 0 0] 38 (0,0)):=blk_below (heap_alloc_new w _) h1
 have hb1 : Below w.heap.size w w1:=below_step ((Below.refl w.heap.size w).alloc (Nat.le_refl _) _) h1
 have hgb : w.heap.size < w1.heap.size:=by have:=h1.size;simp at this;omega
 have HG1:=Lib.hid hg1
 have HB1:=Lib.hid hb1
 clear h1 hg1 hb1 hrr
 go_wp2_with fail
 have al:=((Below.refl w1.heap.size w1).alloc (Nat.le_refl _) (.cells #[.pointer none,.slice none 0 0] 241)).drew
 refine wp_region_inv2 (by kernel_rfl) (by kernel_rfl) (I4 w w.heap.size w1.heap.size) ?_ (I4.step w w.heap.size w1.heap.size hgb (Nat.le_refl _)) ?_
 ·have no : ∀ {p : Prop},false=true→p:=fun h=>Bool.noConfusion h
  exact ⟨undef,undef,undef,undef,undef,undef,undef,undef,undef,undef,undef,undef,undef,undef,undef,undef,undef,undef,undef,undef,undef,rfl,no,no,no,no,no,no,no,no,no,no,no,no,no,no,no,no,no,no,no,no,no,blk_below HG1.out al,below_step HB1.out al,fun _=>heap_alloc_new w1 _,by show w1.heap.size < (w1.alloc _).heap.size;simp⟩
 rintro L a' W hall ⟨x10,x11,x12,x13,x14,x15,x16,x17,x18,x19,x20,x21,x22,x23,x24,x25,x26,x27,x28,x29,x30,rfl,h0,h1,h2,h3,h4,h5,h6,h7,h8,h9,h10,h11,h12,h13,h14,h15,h16,h17,h18,h19,h20,hg,hb,hbu,hsz⟩
 have hB:=Lib.hid (h20 (hall 20 (by decide)))
 have HG:=Lib.hid hg
 have HB:=Lib.hid hb
 have HZ:=Lib.hid hsz
 clear h0 h1 h2 h3 h4 h5 h6 h7 h8 h9 h10 h11 h12 h13 h14 h15 h16 h17 h18 h19 h20 hg hb hbu hsz hall HG1 HB1 al
 generalize hbb : w1.heap.size=bb at *
 generalize hgg : w.heap.size=gg at *
 rename_i K hK
 show K _ W
 refine hK _ _ ?_
 clear hK K
 dsimp only
 clear hbb w1
 have hcv:=conv0
 have hw8 : IntKind.u8.wrap 0=0:=by decide
 have c4 : W.cell? ⟨gg,4,none⟩=some (.slice none 0 0):=(blk_cell HG.out 4).trans rfl
 go_wp2_with fail
 have hz0:=headX_size
 have al2:=(Below.refl W.heap.size W).alloc (Nat.le_refl _) (.cells #[.int .u8 0] 5)
 refine (ws_any bb bb _ byte0 _ (.inr (bat_below hB.out al2)) (by rw [Lib.strCells_length,hz0];decide) (Nat.le_of_lt (Nat.lt_of_lt_of_le HZ.out al2.size))).mono ?_
 rintro e1 W2 ⟨rfl,hbat2,hb2⟩
 have HG2:=Lib.hid ((hb2.block gg hgb).trans (blk_below HG.out al2))
 have HB2:=Lib.hid ((HB.out.trans (al2.mono (by have:=HZ.out;omega))).trans (hb2.mono (Nat.le_of_lt hgb)))
 have HA2:=Lib.hid hbat2
 have HZ2:=Lib.hid (Nat.lt_of_lt_of_le (Nat.lt_of_lt_of_le HZ.out al2.size) hb2.size)
 clear hbat2 hb2 al2 c4 hB HG HB HZ hcv
 have c4 : W2.cell? ⟨gg,4,none⟩=some (.slice none 0 0):=(blk_cell HG2.out 4).trans rfl
 go_wp2
 go_loopg [41] 0 (fun gk i wr=>i=.int .i64 0∧wr=W2)
 case atStart=>exact ⟨rfl,rfl⟩
 case round=>
  obtain ⟨rfl,rfl⟩:=hrel
  have hst:=Tryz.Builder_String_any_f bb bb rep20.data.toList wr (.inr (by
   have h:=HA2.out
   rw [headX_is] at h
   exact h)) (Nat.le_of_lt HZ2.out)
  go_wp2_with fail
  refine hst.mono ?_
  rintro e4 W5 ⟨rfl,_,hb5⟩
  have HB5:=Lib.hid (HB2.out.trans (hb5.mono (Nat.le_of_lt hgb)))
  clear hb5
  go_wp2
  go_ret2
  rw [hgg]
  exact ⟨rfl,HB5.out⟩
end Go.Proofs.YtkekohmkaefdnaaGreatDoor
