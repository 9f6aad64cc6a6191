import Derived.Test.YtkekohmkaefdnaaGreatDoorPR4
import Derived.Test.YtkekohmkaefdnaaGreatDoorPt
import Derived.Test.YtkekohmkaefdnaaGreatDoorPy
import Derived.Deep.RegionLaw
import Derived.Lib.SliceRun
import Derived.Deep.Upon
set_option linter.unusedVariables false
set_option maxHeartbeats 4000000
set_option maxRecDepth 1000000
namespace Go.Proofs.YtkekohmkaefdnaaGreatDoor.Rq
open Go.RowKit Go.Proofs.YtkekohmkaefdnaaGreatDoorW.PrintWords Go.Proofs.YtkekohmkaefdnaaGreatDoorW.PrintLast
def keysL (l : List ByteArray) : List UInt8:=l.flatMap fun k=>(shortB k).data.toList
def repL (e : Int) (v : ByteArray) (a b : Int) (l : List ByteArray) : List UInt8:=(headB e v a b).data.toList ++ ((oneB ((l.length : Int) % 256)).data.toList ++ keysL l)
def repS (e : Int) (v : ByteArray) (a b : Int) (l : List ByteArray) : ByteArray:=⟨(repL e v a b l).toArray⟩
theorem alloc_lt (w : World) (o : Obj) : w.heap.size < (w.alloc o).heap.size:=by unfold World.alloc;rw [Array.size_push];omega
theorem keysL_succ (l : List ByteArray) (k : Nat) (h : k < l.length) : keysL (l.take (k + 1))=keysL (l.take k) ++ (shortB l[k]).data.toList:=by
 unfold keysL
 rw [List.take_succ_eq_append_getElem h,List.flatMap_append]
 simp
theorem keysL_len (l : List ByteArray) (hk : KeysP l) : (keysL l).length ≤ 61 * l.length:=by
 induction l with
 | nil=>simp [keysL]
 | cons x xs ih=>
  have h1:=hk x List.mem_cons_self
  have h2:=ih (fun k h=>hk k (List.mem_cons_of_mem _ h))
  have h3 : keysL (x :: xs)=(shortB x).data.toList ++ keysL xs:=by simp [keysL]
  rw [h3,List.length_append,← Lib.size_eq,shortB_size]
  simp only [List.length_cons]
  omega
theorem keys_take {l : List ByteArray} (h : KeysP l) (k : Nat) : KeysP (l.take k):=fun x hx=>h x (List.mem_of_mem_take hx)
theorem w_succ (k : Nat) (h : k + 1 ≤ 40) : wrap64 ((k : Int) + 1)=((k + 1 : Nat) : Int):=wrap_small (k + 1) (by omega)
theorem w_meas (k n : Nat) (h : k + 1 ≤ n) : n - (((k + 1 : Nat) : Int)).toNat < n - ((k : Nat) : Int).toNat:=by omega
theorem nle1 (x : Nat) (h : x ≤ 500) : 19 + x + 1 ≤ 140737488355328:=by omega
theorem nle2 (x : Nat) (h : x ≤ 60) : x ≤ 140737488351232:=by omega
theorem nle3 (x k : Nat) (h : x ≤ 20 + 500 + 61 * 40) (h2 : k ≤ 60) : x + (1 + k) ≤ 140737488355328:=by omega
theorem bat_is {W : World} {B b : Nat} {bs : List Value} (h : Lib.BuilderAtF 241 5 B b (.pointer (some ⟨b,0,none⟩)) bs W) : Lib.IsBuilderF 241 5 B b bs W:=.inr h
theorem preply_yes (e : Int) (v : ByteArray) (a b : Int) (A : Option Addr) (c : Nat) (l : List ByteArray) (w : World) (hC : Kd.C Kd.string w A l.length l) (hc : l.length ≤ c) (hR : RepP e v a b l) :
  Calls Tryz.prog 119 #[.agg #[.int .i64 e,.string v,.int .i64 a,.int .i64 b,.slice A l.length c]] w fun x w'=>x=.returned (.tuple #[.string (repS e v a b l),.bool true])∧Below w.heap.size w w':=by
 go_enter Tryz.func119,Tryz.ntmps119
 go_wp2_with fail
 refine (rightReply_any e v a b A c l _ ?_ hc).mono ?_
 ·exact Kd.C_below hC ((Below.refl _ w).alloc (Nat.le_refl _) _)
 rintro x w1 ⟨rfl,h1⟩
 rw [decide_eq_true hR]
 have hg1 : w1.heap[w.heap.size]? = some (.cells #[.int .i64 e,.string v,.int .i64 a,.int .i64 b,.slice A l.length c] 38 (0,0)):=blk_below (heap_alloc_new w _) h1
 have hb1 : Below w.heap.size w w1:=below_step ((Below.refl _ w).alloc (Nat.le_refl _) _) h1
 have hgb : w.heap.size < w1.heap.size:=Nat.lt_of_lt_of_le (alloc_lt w _) h1.size
 have HG1:=Lib.hid hg1
 have HB1:=Lib.hid hb1
 clear h1 hg1 hb1
 go_wp2_with fail
 have al:=((Below.refl w1.heap.size w1).alloc (Nat.le_refl _) (.cells #[.pointer none,.slice none 0 0] 241)).drew
 refine wp_region_inv2 (by kernel_rfl) (by kernel_rfl) (I4 e v a b A c l w w.heap.size w1.heap.size) ?_ (I4.step e v a b A c l w w.heap.size w1.heap.size hgb (Nat.le_refl _) hR.2.2.1 hR.2.2.2.1) ?_
 ·have no : ∀ {p : Prop},false=true→p:=fun h=>Bool.noConfusion h
  exact ⟨undef,undef,undef,undef,undef,undef,undef,undef,undef,undef,undef,undef,undef,undef,undef,undef,undef,undef,undef,undef,undef,rfl,no,no,no,no,no,no,no,no,no,no,no,no,no,no,no,no,no,no,no,no,no,blk_below HG1.out al,below_step HB1.out al,fun _=>heap_alloc_new w1 _,alloc_lt w1 _⟩
 rintro L a' W hall ⟨x10,x11,x12,x13,x14,x15,x16,x17,x18,x19,x20,x21,x22,x23,x24,x25,x26,x27,x28,x29,x30,rfl,h0,h1,h2,h3,h4,h5,h6,h7,h8,h9,h10,h11,h12,h13,h14,h15,h16,h17,h18,h19,h20,hg,hb,hbu,hsz⟩
 have hB:=Lib.hid (h20 (hall 20 (by decide)))
 have HG:=Lib.hid hg
 have HB:=Lib.hid hb
 have HZ:=Lib.hid hsz
 clear h0 h1 h2 h3 h4 h5 h6 h7 h8 h9 h10 h11 h12 h13 h14 h15 h16 h17 h18 h19 h20 hg hb hbu hsz hall HG1 HB1 al
 generalize hbb : w1.heap.size=bb at *
 generalize hgg : w.heap.size=gg at *
 rename_i K hK
 show K _ W
 refine hK _ _ ?_
 clear hK K
 dsimp only
 clear hbb w1
 have hcv:=conv_one
 have c4 : W.cell? ⟨gg,4,none⟩=some (.slice A l.length c):=(blk_cell HG.out 4).trans rfl
 go_wp2_with fail
 have hz0:=headB_size e v a b
 have al2:=(Below.refl W.heap.size W).alloc (Nat.le_refl _) (.cells #[.int .u8 ((l.length : Int) % 256)] 5)
 refine (ws_any bb bb _ (oneB ((l.length : Int) % 256)) _ (bat_is (bat_below hB.out al2)) (by rw [Lib.strCells_length,hz0,oneB_size];exact nle1 _ hR.2.2.2.1) (Nat.le_of_lt (Nat.lt_of_lt_of_le HZ.out al2.size))).mono ?_
 rintro e1 W2 ⟨rfl,hbat2,hb2⟩
 have HG2:=Lib.hid ((hb2.block gg hgb).trans (blk_below HG.out al2))
 have HB2:=Lib.hid ((HB.out.trans (al2.mono (by have:=HZ.out;omega))).trans (hb2.mono (Nat.le_of_lt hgb)))
 have HA2:=Lib.hid hbat2
 have HZ2:=Lib.hid (Nat.lt_of_lt_of_le (Nat.lt_of_lt_of_le HZ.out al2.size) hb2.size)
 clear hbat2 hb2 al2 c4 hB HG HB HZ hcv
 have c4 : W2.cell? ⟨gg,4,none⟩=some (.slice A l.length c):=(blk_cell HG2.out 4).trans rfl
 go_wp2
 go_loopw [41] (fun i wr=>∃ k : Nat,k ≤ l.length∧i=.int .i64 k∧Aside (Lib.BuilderAtF 241 5 bb bb (.pointer (some ⟨bb,0,none⟩)) (Lib.byteCells ((headB e v a b).data.toList ++ (oneB ((l.length : Int) % 256)).data.toList ++ keysL (l.take k))) wr)∧Aside (Below gg w wr)∧Aside (bb < wr.heap.size)) (fun i _=>l.length - (intOf i).toNat)
 case atStart=>
  refine ⟨0,Nat.zero_le _,rfl,?_,HB2.out,HZ2.out⟩
  have:=HA2.out
  rw [Lib.strCells_eq,Lib.strCells_eq,← Lib.byteCells_append] at this
  have h0 : keysL (l.take 0)=[]:=rfl
  rw [h0,List.append_nil]
  exact this
 case round=>
  obtain ⟨k,hk,rfl,hI,hBl,hZ⟩:=hrel
  by_cases hlt : k < l.length
  ·have hlt1:=Lib.hid (And.intro hlt trivial)
   have p0 : (0 : Int) ≤ (k : Int):=by omega
   have q0 : (k : Int) < (l.length : Int):=by omega
   obtain ⟨ad,ea,hx⟩:=Kd.at_string hC (k : Int) p0 q0
   subst ea
   have hx':=Lib.hid ((hBl.out.cell (by rw [← hgg];exact World.block_lt_of_cell? w _ hx)).trans hx)
   have hr : rdOf ByteArray.empty l (k : Int)=l[k]:=by simp [rdOf,List.getD,hlt]
   rw [hr] at hx'
   have hc1:=hx'.out
   rw [Int.toNat_natCast] at hc1
   go_wp2_with fail
   have hks:=hR.2.2.2.2.2 l[k] (List.getElem_mem hlt)
   refine (short_any l[k] _ (nle2 _ hks)).mono ?_
   rintro e2 W3 ⟨rfl,h3⟩
   have HA3:=Lib.hid (bat_below hI.out h3)
   have HB3:=Lib.hid (hBl.out.trans (h3.mono (by have:=hZ.out;omega)))
   have HZ3:=Lib.hid (Nat.lt_of_lt_of_le hZ.out h3.size)
   have hss:=shortB_size l[k]
   clear h3 hI hBl hZ hx hx' hc1
   go_wp2_with fail
   have hlen : ((headB e v a b).data.toList ++ (oneB ((l.length : Int) % 256)).data.toList ++ keysL (l.take k)).length ≤ 20 + 500 + 61 * 40:=by
    have h1:=keysL_len (l.take k) (keys_take hR.2.2.2.2.2 k)
    rw [List.length_append,List.length_append,← Lib.size_eq,← Lib.size_eq,hz0,oneB_size]
    rw [List.length_take] at h1
    have h2:=hR.2.2.2.1
    have h3:=hR.2.2.2.2.1
    omega
   refine (ws_any bb bb _ (shortB l[k]) _ (bat_is HA3.out) (by rw [Lib.byteCells_length,hss];exact nle3 _ _ hlen hks) (Nat.le_of_lt HZ3.out)).mono ?_
   rintro e3 W4 ⟨rfl,h4,hb4⟩
   rw [Lib.strCells_eq,← Lib.byteCells_append,List.append_assoc,← keysL_succ l k hlt] at h4
   have HA4:=Lib.hid h4
   have HB4:=Lib.hid (HB3.out.trans (hb4.mono (Nat.le_of_lt hgb)))
   have HZ4:=Lib.hid (Nat.lt_of_lt_of_le HZ3.out hb4.size)
   clear h4 hb4 HA3 HB3 HZ3
   go_wp2
   go_roundw
   have hb40 : k + 1 ≤ 40:=Nat.le_trans hlt1.out.1 hR.2.2.2.2.1
   have hw : wrap64 ((k : Int) + 1)=((k + 1 : Nat) : Int):=w_succ k hb40
   case rel=>exact ⟨k + 1,hlt1.out.1,by rw [hw],HA4.out,HB4.out,HZ4.out⟩
   case measure=>have:=hlt1.out.1;have hw:=w_succ k (Nat.le_trans hlt1.out.1 hR.2.2.2.2.1);rw [hw];exact w_meas k l.length hlt1.out.1
  ·obtain rfl : k=l.length:=by omega
   go_wp2_with fail
   rw [List.take_length] at hI
   refine (Tryz.Builder_String_any_f bb bb _ _ (bat_is hI.out) (Nat.le_of_lt hZ.out)).mono ?_
   rintro e4 W5 ⟨rfl,_,hb5⟩
   have HB5:=Lib.hid (hBl.out.trans (hb5.mono (Nat.le_of_lt hgb)))
   clear hb5 hI hBl hZ
   go_wp2
   go_ret2
   rw [hgg]
   exact ⟨rfl,HB5.out⟩
theorem preply_no (e : Int) (v : ByteArray) (a b : Int) (A : Option Addr) (c : Nat) (l : List ByteArray) (w : World) (hC : Kd.C Kd.string w A l.length l) (hc : l.length ≤ c) (hR : ¬ RepP e v a b l) :
  Calls Tryz.prog 119 #[.agg #[.int .i64 e,.string v,.int .i64 a,.int .i64 b,.slice A l.length c]] w fun x w'=>x=.returned (.tuple #[.string ⟨#[]⟩,.bool false])∧Below w.heap.size w w':=by
 go_enter Tryz.func119,Tryz.ntmps119
 go_wp2_with fail
 refine (rightReply_any e v a b A c l _ ?_ hc).mono ?_
 ·exact Kd.C_below hC ((Below.refl _ w).alloc (Nat.le_refl _) _)
 rintro x w1 ⟨rfl,h1⟩
 rw [decide_eq_false hR]
 have HB1:=Lib.hid (below_step ((Below.refl _ w).alloc (Nat.le_refl _) _) h1)
 clear h1
 go_wp2
 go_ret2
 exact ⟨rfl,HB1.out⟩
def command_PutReply.f (e : Int) (v : ByteArray) (a b : Int) (l : List ByteArray) : Option (ByteArray × Bool):=some (if RepP e v a b l then (repS e v a b l,true) else (⟨#[]⟩,false))
theorem command_PutReply.calls (e : Int) (v : ByteArray) (a b : Int) (A : Option Addr) (c : Nat) (l : List ByteArray) (r1 : ByteArray) (r2 : Bool) (w : World) (hC : Kd.C Kd.string w A l.length l) (hc : l.length ≤ c) (h : command_PutReply.f e v a b l=some (r1,r2)) :
  Calls Tryz.prog 119 #[.agg #[.int .i64 e,.string v,.int .i64 a,.int .i64 b,.slice A l.length c]] w fun x w'=>x=.returned (.tuple #[.string r1,.bool r2])∧Below w.heap.size w w':=by
 unfold command_PutReply.f at h
 have h:=Option.some.inj h
 by_cases hR : RepP e v a b l
 ·rw [if_pos hR] at h
  simp only [Prod.mk.injEq] at h
  obtain ⟨rfl,rfl⟩:=h
  exact preply_yes e v a b A c l w hC hc hR
 ·rw [if_neg hR] at h
  simp only [Prod.mk.injEq] at h
  obtain ⟨rfl,rfl⟩:=h
  exact preply_no e v a b A c l w hC hc hR
theorem repS_size (e : Int) (v : ByteArray) (a b : Int) (l : List ByteArray) : (repS e v a b l).size=20 + v.size + (keysL l).length:=by
 unfold repS repL
 rw [Lib.size_eq]
 simp only [List.length_append]
 rw [← Lib.size_eq,← Lib.size_eq,headB_size,oneB_size]
 omega
end Go.Proofs.YtkekohmkaefdnaaGreatDoor.Rq
set_option linter.unusedSimpArgs false
namespace Go.Proofs.YtkekohmkaefdnaaGreatDoor
open Go.RowKit Go.Maps Go.Shelf
attribute [local go_sem ↓] Go.wp_at_zero Go.wp_at_succ
def rl (c : UInt8) (q : Nat) : List UInt8:=List.replicate q c
def rpB (c : UInt8) (q : Nat) : ByteArray:=⟨(rl c q).toArray⟩
theorem rpB_size (c : UInt8) (q : Nat) : (rpB c q).size=q:=by simp [rpB,rl,ByteArray.size]
theorem rl_add (c : UInt8) (q k : Nat) : rl c q ++ rl c k=rl c (q + k):=by unfold rl;exact List.replicate_append_replicate
theorem rpB_cut (c : UInt8) (q k : Nat) (h : k ≤ q) : (rpB c q).extract 0 k=rpB c k:=by
 apply ByteArray.ext
 simp only [rpB,ByteArray.data_extract,rl]
 apply Array.ext'
 simp [List.take_replicate,Nat.min_eq_left h]
theorem rlen_any (c : UInt8) (B b q : Nat) (w : World) (h : Lib.IsBuilderF 241 5 B b (Lib.byteCells (rl c q)) w) :
  Calls Tryz.prog 228 #[.pointer (some ⟨b,0,none⟩)] w fun e w'=>e=.returned (.int .i64 q)∧w'=w:=by
 have:=Tryz.Builder_Len_f B b _ w h
 rw [Lib.byteCells_length,rl,List.length_replicate] at this
 exact this
theorem rwr_any (c : UInt8) (B b q k : Nat) (W : World) (h : Lib.IsBuilderF 241 5 B b (Lib.byteCells (rl c q)) W) (hq : q + k ≤ 100000) (hB : B ≤ W.heap.size) :
  Calls Tryz.prog 156 #[.pointer (some ⟨b,0,none⟩),.string (rpB c k)] W fun e w'=>e=.returned (.tuple #[.int .i64 k,.nilIface])∧Lib.IsBuilderF 241 5 B b (Lib.byteCells (rl c (q + k))) w'∧Below B W w':=by
 refine (ws_any B b _ (rpB c k) W h (by rw [Lib.byteCells_length,rpB_size,rl,List.length_replicate];omega) hB).mono ?_
 rintro e w' ⟨rfl,h2,b2⟩
 rw [rpB_size]
 rw [Lib.strCells_eq,← Lib.byteCells_append,show (rpB c k).data.toList=rl c k from rfl,rl_add] at h2
 exact ⟨rfl,Or.inr h2,b2⟩
def RR (c : UInt8) (n : Nat) (w : World) (gg : Nat) (wx : World) : Prop:=
 ∃ q,q + gg=n∧1 ≤ q∧Lib.IsBuilderF 241 5 w.heap.size w.heap.size (Lib.byteCells (rl c q)) wx∧Below w.heap.size w wx
theorem rep_gen (n : Nat) (w : World) (hn : n ≤ 8000) : Calls Tryz.prog 161 #[.string ⟨#[0]⟩,.int .i64 n] w fun e w'=>e=.returned (.string (rpB 0 n))∧Below w.heap.size w w':=by
 by_cases h0 : n=0
 ·subst h0
  go_enter Tryz.func161,Tryz.ntmps161
  go_wp2
  go_ret
  exact ⟨rfl,Below.refl _ _⟩
 by_cases h1 : n=1
 ·subst h1
  go_enter Tryz.func161,Tryz.ntmps161
  go_wp2
  go_ret
  exact ⟨rfl,Below.refl _ _⟩
 have hn2 : 2 ≤ n:=by omega
 have k0 : ((n : Int) == 0)=false:=by simpa using h0
 have k1 : ((n : Int) == 1)=false:=by simp;omega
 have hMul:=Tryz.bits_Mul 1 n (by decide) (by omega) w
 rw [Nat.one_mul,Nat.div_eq_of_lt (by omega),Nat.mod_eq_of_lt (by omega)] at hMul
 have b0 : Below w.heap.size w (w.alloc (.cells #[.pointer none,.slice none 0 0] 241)):=(Below.refl _ w).alloc (Nat.le_refl _) _
 have cG:=Tryz.Builder_Grow_fresh w.heap.size w.heap.size n (w.alloc (.cells #[.pointer none,.slice none 0 0] 241)) (Nat.le_refl _) (heap_alloc_new w _) b0.size (by omega)
 have hz : ByteArray.size ⟨#[0]⟩=1:=rfl
 clear h0 h1
 go_enter Tryz.func161,Tryz.ntmps161
 go_wp2_with (first | (go_at_call 227;refine hMul.mono ?_;rintro e w' ⟨rfl,rfl⟩) | (go_at_call 216;refine cG.mono ?_;rintro e W1 ⟨rfl,h1,b1⟩))
 have cW:=ws_any w'.heap.size w'.heap.size [] ⟨#[0]⟩ W1 (Lib.IsBuilderF.of (Or.inr h1)) (by decide) (Nat.le_trans b0.size b1.size)
 refine cW.mono ?_
 rintro e W2 ⟨rfl,h2,b2⟩
 have h2' : Lib.IsBuilderF 241 5 w'.heap.size w'.heap.size (Lib.byteCells (rl 0 1)) W2:=by
  rw [List.nil_append,Lib.strCells_eq] at h2
  exact Or.inr h2
 have b02 : Below w'.heap.size w' W2:=b0.trans (b1.trans b2)
 clear h2 b0 b1 b2 cW cG h1 hMul
 go_wp2
 go_loopg [] (n - 1) (fun gg wx=>RR 0 n w' gg wx)
 case atStart=>exact ⟨1,by omega,Nat.le_refl _,h2',b02⟩
 case round=>
  obtain ⟨q,hq,hq1,hB,hb⟩:=hrel
  clear h2' b02
  have cLen:=rlen_any 0 w'.heap.size w'.heap.size q wr hB
  have cStr:=Tryz.Builder_String_any_f w'.heap.size w'.heap.size (rl 0 q) wr hB hb.size
  have hS : (⟨(rl 0 q).toArray⟩ : ByteArray)=rpB 0 q:=rfl
  rw [hS] at cStr
  have hzq:=rpB_size 0 q
  have HB:=Lib.hid hb
  clear hB hb hS
  rcases Nat.eq_zero_or_pos gk with hg0 | hg0
  ·obtain rfl : q=n:=by omega
   go_wp2_with (first | (go_at_call 228;refine cLen.mono ?_;rintro e wq ⟨rfl,rfl⟩) | (go_at_call 159;refine cStr.mono ?_;rintro e W3 ⟨rfl,h3,b3⟩))
   go_ret
   exact ⟨rfl,HB.out.trans b3⟩
  ·have hqn : (q : Int) < (n : Int):=by omega
   by_cases hc : n - q ≤ q
   ·obtain ⟨k,hk⟩ : ∃ k,n - q=k:=⟨_,rfl⟩
    have hm1 : (n : Int) - (q : Int)=(k : Int):=by omega
    have hm2 : min (k : Int) (q : Int)=(k : Int):=by omega
    have hm3 : min (k : Int) (n : Int)=(k : Int):=by omega
    have hkq : (k : Int) ≤ (q : Int):=by omega
    have hx:=rpB_cut 0 q k (by omega)
    go_wp2_with (first | (go_at_call 228;refine cLen.mono ?_;rintro e wq ⟨rfl,rfl⟩) | (go_at_call 159;refine cStr.mono ?_;rintro e W3 ⟨rfl,h3,b3⟩) | (go_at_call 156;refine (rwr_any 0 w'.heap.size w'.heap.size q k W3 h3 (by omega) (Nat.le_trans HB.out.size b3.size)).mono ?_;rintro e W4 ⟨rfl,h4,b4⟩))
    go_roundg 0
    case measure=>omega
    case rel=>exact ⟨q + k,by omega,by omega,h4,HB.out.trans (b3.trans b4)⟩
   ·have hm2 : min ((n : Int) - (q : Int)) (q : Int)=(q : Int):=by omega
    have hm3 : min (q : Int) (n : Int)=(q : Int):=by omega
    have hx:=rpB_cut 0 q q (Nat.le_refl _)
    go_wp2_with (first | (go_at_call 228;refine cLen.mono ?_;rintro e wq ⟨rfl,rfl⟩) | (go_at_call 159;refine cStr.mono ?_;rintro e W3 ⟨rfl,h3,b3⟩) | (go_at_call 156;refine (rwr_any 0 w'.heap.size w'.heap.size q q W3 h3 (by omega) (Nat.le_trans HB.out.size b3.size)).mono ?_;rintro e W4 ⟨rfl,h4,b4⟩))
    go_roundg (n - (q + q))
    case measure=>omega
    case rel=>exact ⟨q + q,by omega,by omega,h4,HB.out.trans (b3.trans b4)⟩
end Go.Proofs.YtkekohmkaefdnaaGreatDoor
namespace Go.Proofs.YtkekohmkaefdnaaGreatDoor
open Go.RowKit Go.Maps Go.Shelf
structure It where
 k : ByteArray
 v : ByteArray
 ver : Int
 unt : Int
namespace It
def cells (x : It) : List Value:=[.string x.k,.string x.v,.int .i64 x.ver,.int .i64 x.unt]
abbrev val (x : It) : Value:=.agg #[.string x.k,.string x.v,.int .i64 x.ver,.int .i64 x.unt]
end It
def rowOf : List It→List Value
 | []=>[]
 | x :: l=>x.cells ++ rowOf l
theorem rowOf_length (l : List It) : (rowOf l).length=4 * l.length:=by
 induction l with
 | nil=>rfl
 | cons x l ih=>rw [rowOf,List.length_append,ih,List.length_cons,show x.cells.length=4 from rfl];omega
theorem rowOf_append (l m : List It) : rowOf (l ++ m)=rowOf l ++ rowOf m:=by
 induction l with
 | nil=>rfl
 | cons x l ih=>rw [List.cons_append,rowOf,ih,rowOf,List.append_assoc]
theorem rowOf_get {l : List It} {j : Nat} {x : It} (h : l[j]? = some x) (i : Nat) (hi : i < 4) : (rowOf l)[4 * j + i]? = x.cells[i]? := by
 induction l generalizing j with
 | nil=>cases h
 | cons y l ih=>
  cases j with
  | zero=>
   obtain rfl : y=x:=by simpa using h
   rw [rowOf,Nat.mul_zero,Nat.zero_add,List.getElem?_append_left (by show i < 4;exact hi)]
  | succ j=>
   rw [rowOf,List.getElem?_append_right (by show 4 ≤ _;omega),show 4 * (j + 1) + i - y.cells.length=4 * j + i from by show 4 * (j + 1) + i - 4=_;omega]
   exact ih (by simpa using h)
inductive RowIs (w : World) : Value→List It→Option Nat→Prop
 | nil : RowIs w (.slice none 0 0) [] none
 | row (l : List It) (b c : Nat) (zs : List Value) (h : At w b (rowOf l ++ zs) TItem) (hc : l.length ≤ c) (hm : c ≤ maxLen) (hz : zs.length=4 * (c - l.length)) : RowIs w (.slice (some ⟨b,0,none⟩) l.length c) l (some b)
theorem RowIs.tch {w w1 : World} {v : Value} {l : List It} {b : Option Nat} {S : Nat→Prop} (h : RowIs w v l b) (t : Tch S w w1) (hb : ∀ g,b=some g→¬ S g) : RowIs w1 v l b:=by
 cases h with
 | nil=>exact .nil
 | row l b c zs h hc hm hz=>exact .row l b c zs (h.tch t (hb b rfl)) hc hm hz
theorem RowIs.lt {w : World} {v : Value} {l : List It} {g : Nat} (h : RowIs w v l (some g)) : g < w.heap.size:=by
 cases h with
 | row l b c zs h hc hm hz=>exact h.lt
theorem RowIs.own {w : World} {v : Value} {l : List It} {b : Option Nat} (h : RowIs w v l b) : w.ownsRow 0 TItem 4 v l.length (rowOf l)∧v.ownBlock=b:=by
 cases h with
 | nil=>exact ⟨World.ownsRow_nil _ _ _ _,rfl⟩
 | row l b c zs h hc hm hz=>
  refine ⟨⟨by rw [rowOf_length,Nat.mul_comm],.inr ⟨b,c,_,rfl,Nat.zero_le _,h,hc,hm,?_,?_⟩⟩,rfl⟩
  ·rw [List.size_toArray,List.length_append,rowOf_length,hz];omega
  ·rw [show (rowOf l ++ zs).toArray.toList=rowOf l ++ zs from rfl,show l.length * 4=(rowOf l).length from by rw [rowOf_length,Nat.mul_comm],List.take_left]
theorem RowIs.of_own {w : World} {base : Nat} {v : Value} {l : List It} (h : w.ownsRow base TItem 4 v l.length (rowOf l)) : RowIs w v l v.ownBlock:=by
 obtain ⟨hl,⟨rfl,h0⟩ | ⟨g,cap,cur,rfl,_,hh,hc,hm,hs,ht⟩⟩:=h
 ·obtain rfl:=List.length_eq_zero_iff.1 h0
  exact .nil
 ·refine .row l g cap (cur.toList.drop (l.length * 4)) ?_ hc hm ?_
  ·have e : rowOf l ++ cur.toList.drop (l.length * 4)=cur.toList:=by rw [← ht,List.take_append_drop]
   unfold At
   rw [e]
   exact hh
  ·rw [List.length_drop,Array.length_toList,hs];omega
structure TabM (w : World) (tb sb : Nat) (vs : List Value) (bs : List (Option Nat)) (ss : List (List It)) (n : Int) (O : Nat→Prop) : Prop where
 tab : At w tb (tableV true (.slice (some ⟨sb,0,none⟩) ss.length ss.length) n) TTable
 slots : At w sb vs TItems
 lv : vs.length=ss.length
 lb : bs.length=ss.length
 row : ∀ (i : Nat) (v : Value) (l : List It) (b : Option Nat),vs[i]? = some v→ss[i]? = some l→bs[i]? = some b→RowIs w v l b
 nodup : ∀ (i j : Nat) (b : Nat),bs[i]? = some (some b)→bs[j]? = some (some b)→i=j
 ownT : O tb
 ownS : O sb
 ownR : ∀ b,some b ∈ bs→O b
 lt : ∀ k,O k→k < w.heap.size
def slots8 : List (List It):=[[],[],[],[],[],[],[],[]]
def TabI (w : World) (tb : Nat) (ss : List (List It)) (n : Int) (O : Nat→Prop) : Prop:=
 (At w tb (tableV false (.slice none 0 0) 0) TTable∧ss=slots8∧n=0∧O tb∧∀ k,O k→k < w.heap.size) ∨ ∃ sb vs bs,TabM w tb sb vs bs ss n O
def Own (O : Nat→Prop) (w w' : World) : Nat→Prop:=fun k=>O k ∨ w.heap.size ≤ k∧k < w'.heap.size
theorem Own.lt {O : Nat→Prop} {w w' : World} (h : ∀ k,O k→k < w.heap.size) (hs : w.heap.size ≤ w'.heap.size) : ∀ k,Own O w w' k→k < w'.heap.size:=fun k hk=>hk.elim (fun h1=>Nat.lt_of_lt_of_le (h k h1) hs) (fun h1=>h1.2)
theorem TabM.tch {w w1 : World} {tb sb : Nat} {vs : List Value} {bs : List (Option Nat)} {ss : List (List It)} {n : Int} {O S : Nat→Prop} (h : TabM w tb sb vs bs ss n O) (t : Tch S w w1) (hd : ∀ k,O k→¬ S k) : TabM w1 tb sb vs bs ss n O:=
 ⟨h.tab.tch t (hd _ h.ownT),h.slots.tch t (hd _ h.ownS),h.lv,h.lb,fun i v l b h1 h2 h3=>(h.row i v l b h1 h2 h3).tch t (fun g hg=>hd _ (h.ownR g (hg ▸ List.mem_of_getElem? h3))),h.nodup,h.ownT,h.ownS,h.ownR,fun k hk=>t.lt (h.lt k hk)⟩
theorem TabM.mono {w : World} {tb sb : Nat} {vs : List Value} {bs : List (Option Nat)} {ss : List (List It)} {n : Int} {O O' : Nat→Prop} (h : TabM w tb sb vs bs ss n O) (hO : ∀ k,O k→O' k) (hl : ∀ k,O' k→k < w.heap.size) : TabM w tb sb vs bs ss n O':=
 ⟨h.tab,h.slots,h.lv,h.lb,h.row,h.nodup,hO _ h.ownT,hO _ h.ownS,fun b hb=>hO _ (h.ownR b hb),hl⟩
theorem TabI.lt {w : World} {tb : Nat} {ss : List (List It)} {n : Int} {O : Nat→Prop} (h : TabI w tb ss n O) : ∀ k,O k→k < w.heap.size:=by
 rcases h with ⟨_,_,_,_,h⟩ | ⟨_,_,_,h⟩
 ·exact h
 ·exact h.lt
theorem TabI.ownT {w : World} {tb : Nat} {ss : List (List It)} {n : Int} {O : Nat→Prop} (h : TabI w tb ss n O) : O tb:=by
 rcases h with ⟨_,_,_,h,_⟩ | ⟨_,_,_,h⟩
 ·exact h
 ·exact h.ownT
theorem TabI.tch {w w1 : World} {tb : Nat} {ss : List (List It)} {n : Int} {O S : Nat→Prop} (h : TabI w tb ss n O) (t : Tch S w w1) (hd : ∀ k,O k→¬ S k) : TabI w1 tb ss n O:=by
 rcases h with ⟨h1,h2,h3,h4,h5⟩ | ⟨sb,vs,bs,h⟩
 ·exact .inl ⟨h1.tch t (hd _ h4),h2,h3,h4,fun k hk=>t.lt (h5 k hk)⟩
 ·exact .inr ⟨sb,vs,bs,h.tch t hd⟩
theorem TabM.at_ {w : World} {tb sb : Nat} {vs : List Value} {bs : List (Option Nat)} {ss : List (List It)} {n : Int} {O : Nat→Prop} (h : TabM w tb sb vs bs ss n O) {i : Nat} (hi : i < ss.length) : ∃ v l b,vs[i]? = some v∧ss[i]? = some l∧bs[i]? = some b∧RowIs w v l b:=by
 have e1 : vs[i]? = some (vs[i]'(by rw [h.lv];exact hi)):=List.getElem?_eq_getElem _
 have e2 : ss[i]? = some ss[i]:=List.getElem?_eq_getElem _
 have e3 : bs[i]? = some (bs[i]'(by rw [h.lb];exact hi)):=List.getElem?_eq_getElem _
 exact ⟨_,_,_,e1,e2,e3,h.row i _ _ _ e1 e2 e3⟩
end Go.Proofs.YtkekohmkaefdnaaGreatDoor
namespace Go.Proofs.YtkekohmkaefdnaaGreatDoor
open Go.RowKit Go.Maps Go.Shelf
attribute [local go_sem ↓] Go.wp_at_zero Go.wp_at_succ
def idxFrom (key : ByteArray) : List It→Nat→Int
 | [],_=>-1
 | x :: l,j=>if x.k.toList == key.toList then (j : Int) else idxFrom key l (j + 1)
theorem ind_row (b c g : Nat) (key : ByteArray) (l : List It) (zs : List Value) (w : World) (hb : At w b (rowOf l ++ zs) TItem) (hc : l.length ≤ c) (hmx : l.length ≤ 1000000000) (h : w.cell? ⟨g,0,none⟩=some (.string key)) :
  Calls Tryz.prog 165 #[.slice (some ⟨b,0,none⟩) l.length c,.func (.func 166) #[] #[.pointer (some ⟨g,0,none⟩)]] w fun e w'=>e=.returned (.int .i64 (idxFrom key l 0))∧Below w.heap.size w w':=by
 have hlb:=hb.lt
 have hlg:=World.block_lt_of_cell? w _ h
 have HB:=Lib.hid hb
 have HG:=Lib.hid h
 clear h hb
 go_enter Tryz.func165,Tryz.ntmps165
 go_wp2
 go_loopg [5,8] l.length (fun gg s5 s8 wr=>∃ j : Nat,s8=.int .i64 (j : Int)∧j + gg=l.length∧Below w.heap.size w wr∧idxFrom key l 0=idxFrom key (l.drop j) j)
 case atStart=>exact ⟨0,rfl,by omega,Below.refl _ _,rfl⟩
 case round=>
  obtain ⟨j,rfl,hj,hbl,hix⟩:=hrel
  rcases Nat.eq_zero_or_pos gk with hg0 | hg0
  ·have hjl : ¬ (j : Int) < (l.length : Int):=by omega
   have hd : l.drop j=[]:=List.drop_eq_nil_of_le (by omega)
   rw [hd] at hix
   go_wp2
   go_ret
   exact ⟨rfl,hbl⟩
  ·have hjl : (j : Int) < (l.length : Int):=by omega
   obtain ⟨x,hx⟩ : ∃ x,l[j]? = some x:=⟨_,List.getElem?_eq_getElem (by omega)⟩
   have hb:=HB.out.below hbl hlb
   have hq : ∀ (i : Nat) (v : Value),i < 4→x.cells[i]? = some v→wr.cell? ⟨b,j * 4 + i,none⟩=some v:=fun i v hi hv=>hb.cell (j * 4 + i) (by
    have hj4 : j < l.length:=by omega
    rw [Nat.mul_comm,List.getElem?_append_left (by rw [rowOf_length];omega),rowOf_get hx i hi,hv])
   have q0 : wr.cell? ⟨b,j * 4,none⟩=some (.string x.k):=hq 0 _ (by decide) rfl
   have q1:=hq 1 _ (by decide) rfl
   have q2:=hq 2 _ (by decide) rfl
   have q3:=hq 3 _ (by decide) rfl
   have k0 : wr.cell? ⟨g,0,none⟩=some (.string key):=(World.cell?_of_block (hbl.block g hlg)).trans HG.out
   have hp:=place1_any g key x.k x.v x.ver x.unt wr k0
   clear hq hb
   have hd : l.drop j=x :: l.drop (j + 1):=by
    obtain ⟨hlt,rfl⟩:=List.getElem?_eq_some_iff.1 hx
    exact List.drop_eq_getElem_cons hlt
   rw [hd,idxFrom] at hix
   cases hkk : (x.k.toList == key.toList) with
   | false=>
    rw [hkk] at hp hix
    go_wp2_with fail
    refine hp.mono ?_
    rintro e w2 ⟨rfl,hb2⟩
    clear hp
    have hbl2:=hbl.trans (hb2.mono hbl.size)
    clear hbl hb2 q0 q1 q2 q3 k0
    go_wp2
    go_roundg (gk - 1)
    case measure=>omega
    case rel=>exact ⟨j + 1,congrArg (Value.int .i64) (by omega),by omega,hbl2,by simpa using hix⟩
   | true=>
    rw [hkk] at hp hix
    go_wp2_with fail
    refine hp.mono ?_
    rintro e w2 ⟨rfl,hb2⟩
    clear hp
    have hbl2:=hbl.trans (hb2.mono hbl.size)
    clear hbl hb2 q0 q1 q2 q3 k0
    go_wp2
    go_ret
    exact ⟨by first | rfl | (rw [hix];rfl),hbl2⟩
/-! A key's number. -/
theorem hash_l0 (key : ByteArray) (hk : key.size ≤ 1000000) : ∀ (d k i : Nat) (x : Int),i + d=key.size→d < k→0 ≤ x→x < 4294967296→∃ r,0 ≤ r∧r < 4294967296∧Pb.table_Hash.l0 k key x (key.size : Int) (i : Int)=some r:=by
 intro d
 induction d with
 | zero=>
  intro k i x hi hd h0 h1
  obtain ⟨k,rfl⟩ : ∃ m,k=m + 1:=⟨k - 1,by omega⟩
  refine ⟨x,h0,h1,?_⟩
  simp only [Pb.table_Hash.l0]
  rw [if_neg (by omega)]
 | succ d ih=>
  intro k i x hi hd h0 h1
  obtain ⟨k,rfl⟩ : ∃ m,k=m + 1:=⟨k - 1,by omega⟩
  simp only [Pb.table_Hash.l0]
  rw [if_pos (by omega),if_pos (by omega),if_pos (by omega),show wrap64 ((i : Int) + 1)=((i + 1 : Nat) : Int) from by unfold wrap64;omega]
  exact ih k (i + 1) _ (by omega) (by omega) (Int.emod_nonneg _ (by decide)) (Int.emod_lt_of_pos _ (by decide))
def hashOf (key : ByteArray) : Int:=(Pb.table_Hash.f (key.size + 1) key 0).getD 0
theorem hash_some (key : ByteArray) (hk : key.size ≤ 1000000) : Pb.table_Hash.f (key.size + 1) key 0=some (hashOf key)∧0 ≤ hashOf key∧hashOf key < 4294967296:=by
 obtain ⟨r,h0,h1,hr⟩:=hash_l0 key hk key.size (key.size + 1) 0 (Go.bits .xor .u32 0 2166136261) (by omega) (by omega) (by decide +kernel) (by decide +kernel)
 have hf : Pb.table_Hash.f (key.size + 1) key 0=some r:=hr
 unfold hashOf
 rw [hf]
 exact ⟨rfl,h0,h1⟩
def slotOf (m : Nat) (key : ByteArray) : Nat:=(hashOf key).toNat % m
/-! The slots are made. -/
theorem made_gen (tb : Nat) (ss : List (List It)) (n : Int) (O : Nat→Prop) (w : World) (h : TabI w tb ss n O) :
  Calls Tryz.prog 163 #[.pointer (some ⟨tb,0,none⟩)] w fun e w'=>e=.returned (.tuple #[])∧(∃ sb vs bs,TabM w' tb sb vs bs ss n (Own O w w'))∧Tch (fun k=>k=tb) w w':=by
 have hlt:=h.lt
 rcases h with ⟨h1,rfl,rfl,h4,h5⟩ | ⟨sb,vs,bs,h⟩
 ·refine (table_made tb w h1).mono ?_
  rintro e w' ⟨rfl,sb,hs,k1,k2,k3⟩
  refine ⟨rfl,⟨sb,nil8,List.replicate 8 none,k1,k2,rfl,rfl,?_,?_,.inl h4,.inr ⟨hs,k2.lt⟩,?_,Own.lt hlt k3.size⟩,k3⟩
  ·intro i v l b e1 e2 e3
   have hi : i < 8:=(List.getElem?_eq_some_iff.1 e1).1
   have hi' : i=0 ∨ i=1 ∨ i=2 ∨ i=3 ∨ i=4 ∨ i=5 ∨ i=6 ∨ i=7:=by omega
   rcases hi' with rfl | rfl | rfl | rfl | rfl | rfl | rfl | rfl <;> (obtain rfl:=Option.some.inj e1;obtain rfl:=Option.some.inj e2;obtain rfl:=Option.some.inj e3;exact .nil)
  ·intro i j b e1
   have:=List.mem_of_getElem? e1
   simp at this
  ·intro b hb
   simp at hb
 ·refine (made_again tb _ _ w h.tab).mono ?_
  rintro e w' ⟨rfl,hb⟩
  have t:=Tch.of_below (fun _=>False) hb
  exact ⟨rfl,⟨sb,vs,bs,(h.tch t (fun _ _ h=>h)).mono (fun k hk=>.inl hk) (Own.lt hlt t.size)⟩,Tch.of_below _ hb⟩
theorem made_m (tb sb : Nat) (vs : List Value) (bs : List (Option Nat)) (ss : List (List It)) (n : Int) (O : Nat→Prop) (w : World) (h : TabM w tb sb vs bs ss n O) :
  Calls Tryz.prog 163 #[.pointer (some ⟨tb,0,none⟩)] w fun e w'=>e=.returned (.tuple #[])∧Below w.heap.size w w':=made_again tb _ _ w h.tab
end Go.Proofs.YtkekohmkaefdnaaGreatDoor
namespace Go.Proofs.YtkekohmkaefdnaaGreatDoor
open Go.RowKit Go.Maps Go.Shelf
attribute [local go_sem ↓] Go.wp_at_zero Go.wp_at_succ
def Few (ss : List (List It)) : Prop:=0 < ss.length∧ss.length ≤ 1000000∧∀ l ∈ ss,l.length ≤ 1000000
theorem row_ind {w : World} {v : Value} {l : List It} {b : Option Nat} (h : RowIs w v l b) (g : Nat) (key : ByteArray) (hm : l.length ≤ 1000000) (hg : w.cell? ⟨g,0,none⟩=some (.string key)) :
  Calls Tryz.prog 165 #[v,.func (.func 166) #[] #[.pointer (some ⟨g,0,none⟩)]] w fun e w'=>e=.returned (.int .i64 (idxFrom key l 0))∧Below w.heap.size w w':=by
 cases h with
 | nil=>exact (ind_nil _ w).mono (fun e w' h=>⟨h.1,by rw [h.2];exact Below.refl _ _⟩)
 | row l b c zs h hc hm' hz=>exact ind_row b c g key l zs w h hc (by omega) hg
theorem slotOf_lt {m : Nat} (key : ByteArray) (h : 0 < m) : slotOf m key < m:=Nat.mod_lt _ h
theorem rem_slot (m : Nat) (key : ByteArray) (hk : key.size ≤ 1000000) (h : 0 < m) : (IntKind.i64.wrap (hashOf key)).tmod (m : Int)=(slotOf m key : Nat):=by
 obtain ⟨_,h0,h1⟩:=hash_some key hk
 have hw : IntKind.i64.wrap (hashOf key)=hashOf key:=by
  simp [IntKind.wrap,IntKind.bits,IntKind.signed]
  omega
 rw [hw,Int.tmod_eq_emod_of_nonneg h0]
 unfold slotOf
 rw [Int.natCast_emod,Int.toNat_of_nonneg h0]
theorem place_gen (tb : Nat) (key : ByteArray) (ss : List (List It)) (n : Int) (O : Nat→Prop) (w : World) (hT : TabI w tb ss n O) (hk : key.size ≤ 1000000) (hF : Few ss) :
  Calls Tryz.prog 122 #[.pointer (some ⟨tb,0,none⟩),.string key] w fun e w'=>e=.returned (.tuple #[.int .i64 (slotOf ss.length key : Nat),.int .i64 (idxFrom key (ss.getD (slotOf ss.length key) []) 0)])∧(∃ sb vs bs,TabM w' tb sb vs bs ss n (Own O w w'))∧Tch (fun k=>k=tb) w w':=by
 obtain ⟨f0,f1,f2⟩:=hF
 have ta : Tch (fun _=>False) w (w.alloc (.cells #[.string key] 9)):=Tch.alloc _ _ _
 have ca : At (w.alloc (.cells #[.string key] 9)) w.heap.size [.string key] 9:=At.new w _ _
 have hlt:=hT.lt
 have htb:=hlt _ hT.ownT
 have hm1:=made_gen tb ss n O _ (hT.tch ta (fun _ _ h=>h))
 have hh:=hash_some key hk
 have hhash:=fun W=>Pb.table_Hash.calls (key.size + 1) key 0 _ W hh.1
 have HLT:=Lib.hid hlt
 have HA:=Lib.hid ca
 have HT:=Lib.hid ta
 clear hT ca ta hh hlt
 go_enter Tryz.func122,Tryz.ntmps122
 go_wp2_with fail
 refine hm1.mono ?_
 rintro e w1 ⟨rfl,⟨sb,vs,bs,hM⟩,tt⟩
 have hne : w.heap.size ≠ tb:=by omega
 have ca1 : At w1 w.heap.size [.string key] 9:=HA.out.tch tt (fun h=>hne h)
 have t1 : Tch (fun k=>k=tb) w w1:=(HT.out.mono (fun _ _ h=>h.elim)).trans tt (fun _ _ h=>h)
 have hsl:=slotOf_lt key f0
 obtain ⟨v,l,b,e1,e2,e3,hrow⟩:=hM.at_ hsl
 have hll : l.length ≤ 1000000:=f2 l (List.mem_of_getElem? e2)
 have k0:=ca1.cell 0 rfl
 have c0:=hM.tab.cell 0 rfl
 have c4:=hM.tab.cell 4 rfl
 have s4:=hM.slots.cell _ e1
 clear hm1
 have HM:=Lib.hid hM
 have HK1:=Lib.hid ca1
 have H1:=Lib.hid t1
 have HR:=Lib.hid hrow
 have hsb:=hM.slots.lt
 have htb1:=hM.tab.lt
 have hil : ((slotOf ss.length key : Nat) : Int) < (ss.length : Int):=by omega
 have hl0 : ¬ ss=[]:=by rintro rfl;simp at f0
 have hl1 : ¬ ss.length=0:=by omega
 have hl2 : ¬ (ss.length : Int)=0:=by omega
 have E2:=Lib.hid e2
 clear hM ca1 t1 tt hrow e1 e2 e3
 go_wp2
 go_region_held3 (fun w'=>w'.cell? ⟨w.heap.size,0,none⟩=some (.string key)∧w'.cell? ⟨tb,0,none⟩=some (.int .u32 0)∧w'.cell? ⟨tb,4,none⟩=some (.slice (some ⟨sb,0,none⟩) ss.length ss.length)) (go_keep)
  ((go_at_call 164;refine (hhash _).mono ?_;rintro e w3 ⟨rfl,n3,rfl⟩))
 all_goals
  have hd : ss.getD (slotOf ss.length key) []=l:=by rw [List.getD_eq_getElem?_getD,E2.out];rfl
  have hI:=fun m=>row_ind (w:=w1.drewN m) (HR.out.tch (Tch.drewN (fun _=>False) w1 m) (fun _ _ h=>h)) w.heap.size key hll (HK1.out.cell 0 rfl)
  have HD:=Lib.hid hd
  have er:=rem_slot ss.length key hk f0
  rw [er]
  clear er hd
  go_wp2_with (go_at_call 165;refine (hI _).mono ?_;rintro e w4 ⟨rfl,hb4⟩)
  go_ret2
  have t4 : Tch (fun _=>False) w1 w4:=(Tch.drewN (fun _=>False) _ _).trans (Tch.of_below (fun _=>False) hb4) (fun _ _ h=>h.elim)
  have t9:=H1.out.trans t4 (fun _ _ h=>h.elim)
  refine ⟨by rw [HD.out];rfl,⟨sb,vs,bs,(HM.out.tch t4 (fun _ _ h=>h)).mono ?_ (Own.lt HLT.out t9.size)⟩,t9⟩
  rintro k (h | ⟨h,h'⟩)
  ·exact .inl h
  ·have q:=HT.out.size
   exact .inr ⟨Nat.le_trans q h,Nat.lt_of_lt_of_le h' t4.size⟩
end Go.Proofs.YtkekohmkaefdnaaGreatDoor
namespace Go.Proofs.YtkekohmkaefdnaaGreatDoor
open Go.RowKit Go.Maps Go.Shelf
attribute [local go_sem ↓] Go.wp_at_zero Go.wp_at_succ
def findK (l : List It) (key : ByteArray) : Option It:=l.find? fun x=>x.k.toList == key.toList
theorem idxFrom_spec (key : ByteArray) : ∀ (l : List It) (j : Nat),(idxFrom key l j=-1∧findK l key=none) ∨ ∃ (i : Nat) (x : It),l[i]? = some x∧idxFrom key l j=((j + i : Nat) : Int)∧findK l key=some x∧(x.k.toList == key.toList)=true:=by
 intro l
 induction l with
 | nil=>exact fun j=>.inl ⟨rfl,rfl⟩
 | cons y l ih=>
  intro j
  cases hk : (y.k.toList == key.toList) with
  | true=>
   refine .inr ⟨0,y,rfl,?_,?_,hk⟩
   ·unfold idxFrom;rw [hk];rfl
   ·unfold findK;rw [List.find?_cons,hk]
  | false=>
   have e1 : idxFrom key (y :: l) j=idxFrom key l (j + 1):=by
    rw [idxFrom,hk]
    exact if_neg (by simp)
   have e2 : findK (y :: l) key=findK l key:=by
    unfold findK
    rw [List.find?_cons,hk]
   rw [e1,e2]
   rcases ih (j + 1) with h | ⟨i,x,h1,h2,h3,h4⟩
   ·exact .inl h
   ·exact .inr ⟨i + 1,x,h1,by rw [h2];congr 1;omega,h3,h4⟩
def lookS (ss : List (List It)) (key : ByteArray) : Option It:=findK (ss.getD (slotOf ss.length key) []) key
def gotV : Option It→Value
 | some x=>.tuple #[x.val,.bool true]
 | none=>.tuple #[zeroItem,.bool false]
theorem get_gen (tb : Nat) (key : ByteArray) (ss : List (List It)) (n : Int) (O : Nat→Prop) (w : World) (hT : TabI w tb ss n O) (hk : key.size ≤ 1000000) (hF : Few ss) :
  Calls Tryz.prog 87 #[.pointer (some ⟨tb,0,none⟩),.string key] w fun e w'=>e=.returned (gotV (lookS ss key))∧(∃ sb vs bs,TabM w' tb sb vs bs ss n (Own O w w'))∧Tch (fun k=>k=tb) w w':=by
 have hF':=hF
 obtain ⟨f0,f1,f2⟩:=hF
 have ta : Tch (fun _=>False) w (w.alloc (.cells #[.string ⟨#[]⟩,.string ⟨#[]⟩,.int .i64 0,.int .i64 0] TItem)):=Tch.alloc _ _ _
 have ca : At (w.alloc (.cells #[.string ⟨#[]⟩,.string ⟨#[]⟩,.int .i64 0,.int .i64 0] TItem)) w.heap.size [.string ⟨#[]⟩,.string ⟨#[]⟩,.int .i64 0,.int .i64 0] TItem:=At.new w _ _
 have hlt:=hT.lt
 have htb:=hlt _ hT.ownT
 have hp1:=place_gen tb key ss n O _ (hT.tch ta (fun _ _ h=>h)) hk hF'
 have hsl:=slotOf_lt key f0
 have e2 : ss[slotOf ss.length key]? = some (ss.getD (slotOf ss.length key) []):=by rw [List.getD_eq_getElem?_getD,List.getElem?_eq_getElem hsl];rfl
 have hspec:=idxFrom_spec key (ss.getD (slotOf ss.length key) []) 0
 have hll : (ss.getD (slotOf ss.length key) []).length ≤ 1000000:=f2 _ (List.mem_of_getElem? e2)
 change _ ∨ _ at hspec
 generalize hl : ss.getD (slotOf ss.length key) []=l at hp1 hspec e2 hll
 have hlook : lookS ss key=findK l key:=by unfold lookS;rw [hl]
 rw [hlook]
 have HLT:=Lib.hid hlt
 have HA:=Lib.hid ca
 have HT:=Lib.hid ta
 have E2:=Lib.hid e2
 clear hT ta ca hlt hl hlook e2
 have hil : ((slotOf ss.length key : Nat) : Int) < (ss.length : Int):=by omega
 have hend : ∀ (w1 w4 : World) sb vs bs,Tch (fun k=>k=tb) (w.alloc (.cells #[.string ⟨#[]⟩,.string ⟨#[]⟩,.int .i64 0,.int .i64 0] TItem)) w1→TabM w1 tb sb vs bs ss n (Own O (w.alloc (.cells #[.string ⟨#[]⟩,.string ⟨#[]⟩,.int .i64 0,.int .i64 0] TItem)) w1)→Tch (fun k=>k=w.heap.size) w1 w4→(∃ sb vs bs,TabM w4 tb sb vs bs ss n (Own O w w4))∧Tch (fun k=>k=tb) w w4:=by
  intro w1 w4 sb vs bs h1 h2 h3
  have q:=HT.out.size
  have hsz : (w.alloc (.cells #[.string ⟨#[]⟩,.string ⟨#[]⟩,.int .i64 0,.int .i64 0] TItem)).heap.size=w.heap.size + 1:=by simp
  have t9 : Tch (fun k=>k=tb) w w4:=((HT.out.mono (fun _ _ h=>h.elim)).trans h1 (fun _ _ h=>h)).trans h3 (fun k hk h=>by omega)
  refine ⟨⟨sb,vs,bs,(h2.tch h3 ?_).mono ?_ (Own.lt HLT.out t9.size)⟩,t9⟩
  ·rintro k (h | ⟨h,h'⟩) e
   ·have:=HLT.out k h;omega
   ·omega
  ·rintro k (h | ⟨h,h'⟩)
   ·exact .inl h
   ·exact .inr ⟨Nat.le_trans q h,Nat.lt_of_lt_of_le h' h3.size⟩
 go_enter Tryz.func87,Tryz.ntmps87
 rcases hspec with ⟨h1,h2⟩ | ⟨i,x,h1,h2,h3,h4⟩
 ·rw [h1] at hp1
  rw [h2]
  go_wp2_with fail
  refine hp1.mono ?_
  rintro e w1 ⟨rfl,⟨sb,vs,bs,hM⟩,tt⟩
  have hne : w.heap.size ≠ tb:=by omega
  have ca1:=HA.out.tch tt (fun h=>hne h)
  have k0:=ca1.cell 0 rfl
  have k1:=ca1.cell 1 rfl
  have k2:=ca1.cell 2 rfl
  have k3:=ca1.cell 3 rfl
  have g0:=ca1.frozen 0
  have g1:=ca1.frozen 1
  have g2:=ca1.frozen 2
  have g3:=ca1.frozen 3
  have HA1:=Lib.hid ca1
  have HM:=Lib.hid hM
  have TT:=Lib.hid tt
  clear hp1 hM ca1 tt
  go_wp2
  have t4:=tch_set4 w1 w.heap.size (.string ⟨#[]⟩) (.string ⟨#[]⟩) (.int .i64 0) (.int .i64 0)
  have a4:=at_set4 HA1.out (.string ⟨#[]⟩) (.string ⟨#[]⟩) (.int .i64 0) (.int .i64 0)
  obtain ⟨W4,hW4⟩ : ∃ W4,((((w1.setCell ⟨w.heap.size,0,none⟩ (.string ⟨#[]⟩)).setCell ⟨w.heap.size,1,none⟩ (.string ⟨#[]⟩)).setCell ⟨w.heap.size,2,none⟩ (.int .i64 0)).setCell ⟨w.heap.size,3,none⟩ (.int .i64 0))=W4:=⟨_,rfl⟩
  rw [hW4] at t4 a4 ⊢
  have d0:=a4.cell 0 rfl
  have d1:=a4.cell 1 rfl
  have d2:=a4.cell 2 rfl
  have d3:=a4.cell 3 rfl
  clear k0 k1 k2 k3 g0 g1 g2 g3 hW4
  refine bodyPost_ret (v:=.tuple #[zeroItem,.bool false]) q49_ rfl ?_
  exact ⟨rfl,hend w1 W4 sb vs bs TT.out HM.out t4⟩
 ·rw [Nat.zero_add] at h2
  rw [h2] at hp1
  rw [h3]
  have hi : i < l.length:=(List.getElem?_eq_some_iff.1 h1).1
  have hii : (i : Int) < (l.length : Int):=by omega
  have hi0 : ¬ (i : Int) < 0:=by omega
  clear h2 h3
  go_wp2_with fail
  refine hp1.mono ?_
  rintro e w1 ⟨rfl,⟨sb,vs,bs,hM⟩,tt⟩
  obtain ⟨v,l',b,e1,e2',e3,hrow⟩:=hM.at_ hsl
  have hll' : l'=l:=Option.some.inj (e2'.symm.trans E2.out)
  subst hll'
  cases hrow with
  | nil=>cases h1
  | row l b c zs hb hc hm' hz=>
   have hic : (i : Int) < (c : Int):=by omega
   have hq : ∀ (m : Nat) (v : Value),m < 4→x.cells[m]? = some v→w1.cell? ⟨b,i * 4 + m,none⟩=some v:=fun m v hm hv=>hb.cell (i * 4 + m) (by
    rw [Nat.mul_comm,List.getElem?_append_left (by rw [rowOf_length];omega),rowOf_get h1 m hm,hv])
   have q0 : w1.cell? ⟨b,i * 4,none⟩=some (.string x.k):=hq 0 _ (by decide) rfl
   have q1:=hq 1 _ (by decide) rfl
   have q2:=hq 2 _ (by decide) rfl
   have q3:=hq 3 _ (by decide) rfl
   have hne : w.heap.size ≠ tb:=by omega
   have ca1:=HA.out.tch tt (fun h=>hne h)
   have k0:=ca1.cell 0 rfl
   have k1:=ca1.cell 1 rfl
   have k2:=ca1.cell 2 rfl
   have k3:=ca1.cell 3 rfl
   have g0:=ca1.frozen 0
   have g1:=ca1.frozen 1
   have g2:=ca1.frozen 2
   have g3:=ca1.frozen 3
   have c4:=hM.tab.cell 4 rfl
   have s4:=hM.slots.cell _ e1
   have HA1:=Lib.hid ca1
   have HM:=Lib.hid hM
   have TT:=Lib.hid tt
   clear hp1 hM ca1 tt hq hb e1 e2' e3
   go_wp2
   have t4:=tch_set4 w1 w.heap.size (.string x.k) (.string x.v) (.int .i64 x.ver) (.int .i64 x.unt)
   have a4:=at_set4 HA1.out (.string x.k) (.string x.v) (.int .i64 x.ver) (.int .i64 x.unt)
   obtain ⟨W4,hW4⟩ : ∃ W4,((((w1.setCell ⟨w.heap.size,0,none⟩ (.string x.k)).setCell ⟨w.heap.size,1,none⟩ (.string x.v)).setCell ⟨w.heap.size,2,none⟩ (.int .i64 x.ver)).setCell ⟨w.heap.size,3,none⟩ (.int .i64 x.unt))=W4:=⟨_,rfl⟩
   rw [hW4] at t4 a4 ⊢
   have d0:=a4.cell 0 rfl
   have d1:=a4.cell 1 rfl
   have d2:=a4.cell 2 rfl
   have d3:=a4.cell 3 rfl
   clear k0 k1 k2 k3 g0 g1 g2 g3 hW4 c4 s4 q0 q1 q2 q3
   refine bodyPost_ret (v:=.tuple #[x.val,.bool true]) q49_ rfl ?_
   exact ⟨rfl,hend w1 W4 sb vs bs TT.out HM.out t4⟩
end Go.Proofs.YtkekohmkaefdnaaGreatDoor
namespace Go.Proofs.YtkekohmkaefdnaaGreatDoor
open Go.RowKit Go.Maps Go.Shelf
attribute [local go_sem ↓] Go.wp_at_zero Go.wp_at_succ
def layC : List Value→Nat→List Value→List Value
 | cs,_,[]=>cs
 | cs,o,v :: r=>layC (cs.set o v) (o + 1) r
theorem layC_mid : ∀ (C A B : List Value),C.length ≤ B.length→layC (A ++ B) A.length C=A ++ C ++ B.drop C.length
 | [],A,B,_=>by simp [layC]
 | v :: r,A,B,h=>by
  cases B with
  | nil=>simp at h
  | cons y B=>
   rw [layC,List.set_append_right _ _ (Nat.le_refl _),Nat.sub_self,List.set_cons_zero]
   have:=layC_mid r (A ++ [v]) B (by simpa using h)
   rw [List.append_assoc,List.singleton_append,List.length_append,List.length_singleton] at this
   rw [this]
   simp
theorem At.setCells {b t : Nat} : ∀ (vs cs : List Value) (o : Nat) (w : World),At w b cs t→At (w.setCells b o vs) b (layC cs o vs) t
 | [],_,_,_,h=>h
 | v :: r,cs,o,w,h=>At.setCells r (cs.set o v) (o + 1) _ (h.set o v)
def zero4 : List Value:=[.string ⟨#[]⟩,.string ⟨#[]⟩,.int .i64 0,.int .i64 0]
theorem zeroItem_val : ∀ w,(zeroValue 103).run Tryz.prog w=.ok zeroItem w:=fun w=>by
 have h:=info_item
 obtain ⟨i0,hi,hz,_,_⟩:=info_parts h
 simp [zeroValue,typeInfo,hi,hz]
theorem run_clear_item (w : World) (ty : TypeId) (b o c : Nat) (hc : ∀ j,j < 4→(w.cell? ⟨b,o + j,none⟩).isSome=true) (hf : ∀ j,j < 4→w.frozen? ⟨b,o + j,none⟩=false) :
  (Builtin.clear_ #[46] ty #[.slice (some ⟨b,o,none⟩) 1 c]).run Tryz.prog w=.ok (.tuple #[]) (w.setCells b o zero4):=by
 have hzc : (Builtin.zeroCells zeroItem.cells 1).toList=zero4:=by kernel_rfl
 have hst:=run_storeCells_cells (P:=Tryz.prog) b o zero4 0 w (by simpa [zero4] using hc) (by simpa [zero4] using hf) (by intro v hv;simp [zero4] at hv;rcases hv with rfl | rfl <;> rfl)
 simp only [Nat.add_zero] at hst
 simp [Builtin.clear_,run_underlying Tryz.underlying46,zeroItem_val,hzc,hst]
end Go.Proofs.YtkekohmkaefdnaaGreatDoor
namespace Go.Proofs.YtkekohmkaefdnaaGreatDoor
open Go.RowKit Go.Maps Go.Shelf
attribute [local go_sem ↓] Go.wp_at_zero Go.wp_at_succ
theorem delete_row (b c i : Nat) (l : List It) (zs : List Value) (w : World) (hb : At w b (rowOf l ++ zs) TItem) (hc : l.length ≤ c) (hz : zs.length=4 * (c - l.length)) (hi : i < l.length) (hm : c ≤ maxLen) :
  Calls Tryz.prog 280 #[.slice (some ⟨b,0,none⟩) l.length c,.int .i64 (i : Int),.int .i64 ((i : Int) + 1)] w fun e w'=>e=.returned (.slice (some ⟨b,0,none⟩) (l.length - 1) c)∧(∃ zs',At w' b (rowOf (l.eraseIdx i) ++ zs') TItem∧zs'.length=4 * (c - (l.length - 1)))∧Tch (fun k=>k=b) w w':=by
 have hsp : rowOf l=rowOf (l.take i) ++ rowOf (l.drop i):=by rw [← rowOf_append,List.take_append_drop]
 have hsp2 : rowOf l=rowOf (l.take (i + 1)) ++ rowOf (l.drop (i + 1)):=by rw [← rowOf_append,List.take_append_drop]
 have hlt : (rowOf (l.take i)).length=i * 4:=by rw [rowOf_length,List.length_take,Nat.min_eq_left (by omega)];omega
 have hlt2 : (rowOf (l.take (i + 1))).length=(i + 1) * 4:=by rw [rowOf_length,List.length_take,Nat.min_eq_left (by omega)];omega
 obtain ⟨news,hnews⟩ : ∃ news,news=rowOf (l.drop (i + 1)):=⟨_,rfl⟩
 have hlen : news.length=(l.length - (i + 1)) * 4:=by rw [hnews,rowOf_length,List.length_drop];omega
 have hone : ∀ (m : List It),∀ u ∈ rowOf m,u.oneCell'=true:=by
  intro m
  induction m with
  | nil=>intro u hu;cases hu
  | cons x m ih=>
   intro u hu
   rw [rowOf,List.mem_append] at hu
   rcases hu with hu | hu
   ·simp [It.cells] at hu
    rcases hu with rfl | rfl | rfl | rfl <;> rfl
   ·exact ih u hu
 obtain ⟨A,hA,hsrc⟩ : ∃ A : Addr,(if c=i + 1 then (some ⟨b,0,none⟩ : Option Addr) else some ⟨b,(i + 1) * 4,none⟩)=some A∧Hid (∀ t u,news[t]? = some u→w.drew.cell? (A.add t)=some u):=by
  by_cases h : c=i + 1
  ·refine ⟨⟨b,0,none⟩,by rw [if_pos h],fun t u hu=>?_⟩
   have h0 : news.length=0:=by rw [hlen];omega
   rw [List.length_eq_zero_iff.1 h0] at hu
   simp at hu
  ·refine ⟨⟨b,(i + 1) * 4,none⟩,by rw [if_neg h],fun t u hu=>?_⟩
   have ht : t < news.length:=(List.getElem?_eq_some_iff.1 hu).1
   rw [Addr.add_lit]
   refine hb.drew.cell ((i + 1) * 4 + t) ?_
   rw [hsp2,List.append_assoc,List.getElem?_append_right (by rw [hlt2];omega),hlt2,Nat.add_sub_cancel_left,List.getElem?_append_left (by rw [← hnews];exact ht),← hnews]
   exact hu
 have s1 : Hid (news.length=(l.length - (i + 1)) * 4):=hlen
 have s2 : Hid (∀ u ∈ news,u.oneCell'=true):=by rw [hnews];exact hone _
 have s3 : Hid (∀ t,t < news.length→(w.drew.cell? ⟨b,0 + i * 4 + t,none⟩).isSome=true∧w.drew.frozen? ⟨b,0 + i * 4 + t,none⟩=false):=by
  intro t ht
  rw [hlen] at ht
  have hlt3 : 0 + i * 4 + t < (rowOf l ++ zs).length:=by rw [List.length_append,rowOf_length];omega
  exact ⟨by rw [hb.drew.cell _ (List.getElem?_eq_getElem hlt3)];rfl,hb.drew.frozen _⟩
 obtain ⟨W1,hW1⟩ : ∃ W1,W1=w.drew.setCells b (0 + i * 4) news:=⟨_,rfl⟩
 have hb1 : At W1 b (rowOf (l.take i) ++ news ++ (rowOf (l.drop i) ++ zs).drop news.length) TItem:=by
  have h:=At.setCells news _ (0 + i * 4) w.drew hb.drew
  rw [← hW1,hsp,List.append_assoc,show 0 + i * 4=(rowOf (l.take i)).length from by rw [hlt];omega,layC_mid news _ _ (by rw [List.length_append,rowOf_length,List.length_drop,hlen];omega)] at h
  exact h
 have hAl : (rowOf (l.take i) ++ news).length=(l.length - 1) * 4:=by rw [List.length_append,hlt,hlen];omega
 have hBl : ((rowOf (l.drop i) ++ zs).drop news.length).length=4 + zs.length:=by rw [List.length_drop,List.length_append,rowOf_length,List.length_drop,hlen];omega
 have hWl : ∀ j,j < 4→(l.length - 1) * 4 + j < (rowOf (l.take i) ++ news ++ (rowOf (l.drop i) ++ zs).drop news.length).length:=fun j hj=>by rw [List.length_append,hAl,hBl];omega
 have hcl : ∀ ty,(Builtin.clear_ #[46] ty #[.slice (some ⟨b,(l.length - 1) * 4,none⟩) 1 (c - (l.length - 1))]).run Tryz.prog W1=.ok (.tuple #[]) (W1.setCells b ((l.length - 1) * 4) zero4):=
  fun ty=>run_clear_item W1 ty b _ _ (fun j hj=>by rw [hb1.cell _ (List.getElem?_eq_getElem (hWl j hj))];rfl) (fun j hj=>hb1.frozen _)
 have hb2 : At (W1.setCells b ((l.length - 1) * 4) zero4) b (rowOf (l.eraseIdx i) ++ (zero4 ++ ((rowOf (l.drop i) ++ zs).drop news.length).drop 4)) TItem:=by
  have h:=At.setCells zero4 _ ((l.length - 1) * 4) W1 hb1
  rw [← hAl,layC_mid zero4 _ _ (by rw [hBl];show 4 ≤ _;omega)] at h
  rw [hAl] at h
  rw [List.eraseIdx_eq_take_drop_succ,rowOf_append,← hnews,← List.append_assoc]
  exact h
 have hz2 : (zero4 ++ ((rowOf (l.drop i) ++ zs).drop news.length).drop 4).length=4 * (c - (l.length - 1)):=by rw [List.length_append,List.length_drop,hBl,hz,show zero4.length=4 from rfl];omega
 have t2 : Tch (fun k=>k=b) w (W1.setCells b ((l.length - 1) * 4) zero4):=by
  rw [hW1]
  exact ((Tch.drew (fun k=>k=b) w).trans (tch_setCells _ _ _ _) (fun _ _ h=>h)).trans (tch_setCells _ _ _ _) (fun _ _ h=>h)
 obtain ⟨i0,hi0,_,hz1,_⟩:=info_parts info_item
 have HW : Hid (W1=w.drew.setCells b (0 + i * 4) news):=hW1
 have HB2:=Lib.hid hb2
 have HZ2:=Lib.hid hz2
 have HT2:=Lib.hid t2
 have hne : ¬ i=i + 1:=by omega
 have hic : i ≤ c:=by omega
 have hjc : i + 1 ≤ c:=by omega
 have hil : i < c:=by omega
 have h01 : (0 : Int) ≤ (i : Int) + 1:=by omega
 have h02 : (i : Int) + 1 ≤ (l.length : Int):=by omega
 clear hW1 hb1 hAl hBl hWl hb2 hz2 t2 hsp hsp2 hlt hlt2 hone hlen hnews hb
 go_enter Tryz.func280,Tryz.ntmps280
 go_wp2_with fail
 go_region_law (refine step_append_room rfl (.tmp 22) (.tmp 25) 46 rfl 103 i0 4 Tryz.underlying46 hi0 hz1 b 0 i c (by simp [Act.eval,Act.put]) A (l.length - (i + 1)) (c - (i + 1)) news (by simp [Act.eval,Act.put]) s1.out hsrc.out s2.out (by omega) s3.out ?_;rw [← HW.out])
 have e1 : i + (l.length - (i + 1))=l.length - 1:=by omega
 rw [e1]
 have e2 : l.length - (l.length - 1)=1:=by omega
 have h1 : (l.length - 1) ≤ c:=by omega
 go_wp2
 go_ret
 exact ⟨rfl,⟨_,HB2.out,HZ2.out⟩,HT2.out⟩
end Go.Proofs.YtkekohmkaefdnaaGreatDoor
namespace Go.Proofs.YtkekohmkaefdnaaGreatDoor
open Go.RowKit Go.Maps Go.Shelf
attribute [local go_sem ↓] Go.wp_at_zero Go.wp_at_succ
theorem getElem?_set_cases {α : Type} {l : List α} {i j : Nat} {a v : α} (h : (l.set i a)[j]? = some v) : (i=j∧v=a∧i < l.length) ∨ (i ≠ j∧l[j]? = some v):=by
 rw [List.getElem?_set] at h
 split at h
 ·rename_i e
  split at h
  ·injection h with h
   exact .inl ⟨e,h.symm,by assumption⟩
  ·cases h
 ·rename_i e
  exact .inr ⟨e,h⟩
theorem TabM.turned {w w2 : World} {tb sb : Nat} {vs : List Value} {bs : List (Option Nat)} {ss : List (List It)} {n : Int} {O : Nat→Prop} (h : TabM w tb sb vs bs ss n O) {i : Nat} {b : Option Nat} {v' : Value} {l' : List It} {b' : Option Nat} (hi : i < ss.length) (hb : bs[i]? = some b)
  (t : Tch (fun k=>b=some k) w w2) (hr : RowIs w2 v' l' b') (hb' : b'=b ∨ ∃ g,b'=some g∧w.heap.size ≤ g) (hsb : b ≠ some sb) (htb : b ≠ some tb) :
  TabM (w2.setCell ⟨sb,i,none⟩ v') tb sb (vs.set i v') (bs.set i b') (ss.set i l') n (Own O w (w2.setCell ⟨sb,i,none⟩ v'))∧Tch (fun k=>k=sb ∨ b=some k) w (w2.setCell ⟨sb,i,none⟩ v'):=by
 have hts : tb ≠ sb:=at_ne2 h.tab h.slots (by decide)
 have t1 : Tch (fun k=>k=sb ∨ b=some k) w (w2.setCell ⟨sb,i,none⟩ v'):=(t.mono (fun _ _ h=>.inr h)).tset (fun _=>.inl rfl)
 have hsz : w.heap.size ≤ w2.heap.size:=t.size
 have hsz2 : (w2.setCell ⟨sb,i,none⟩ v').heap.size=w2.heap.size:=size_set _ _ _
 have hrow' : RowIs (w2.setCell ⟨sb,i,none⟩ v') v' l' b':=hr.tch (Tch.set w2 ⟨sb,i,none⟩ v') (fun g hg e=>by
  have e' : g=sb:=e
  subst e'
  rcases hb' with h1 | ⟨g',h1,h2⟩
  ·exact hsb (h1 ▸ hg)
  ·have h3 : g'=g:=by
    have:=hg.symm.trans h1
    injection this with this
    exact this.symm
   subst h3
   have:=h.slots.lt
   omega)
 refine ⟨⟨?_,?_,?_,?_,?_,?_,?_,?_,?_,?_⟩,t1⟩
 ·rw [List.length_set]
  exact (h.tab.tch t htb).other _ _ hts
 ·exact (h.slots.tch t hsb).set i v'
 ·rw [List.length_set,List.length_set];exact h.lv
 ·rw [List.length_set,List.length_set];exact h.lb
 ·intro j v l c e1 e2 e3
  rcases getElem?_set_cases e1 with ⟨rfl,rfl,hl1⟩ | ⟨hn,e1'⟩
  ·rw [List.getElem?_set_self hi] at e2
   rw [List.getElem?_set_self (by rw [h.lb];exact hi)] at e3
   injection e2 with e2
   injection e3 with e3
   subst e2 e3
   exact hrow'
  ·rw [List.getElem?_set_ne hn] at e2 e3
   refine (h.row j v l c e1' e2 e3).tch t1 (fun g hg e=>?_)
   subst hg
   rcases e with e | e
   ·subst e
    have h5:=h.row j v l (some g) e1' e2 e3
    cases h5 with
    | row l g c zs h6 _ _ _=>exact at_ne2 h6 h.slots (by decide) rfl
   ·rw [e] at hb
    exact hn (h.nodup i j g hb e3)
 ·intro j k g e1 e2
  rcases getElem?_set_cases e1 with ⟨rfl,h1,hl1⟩ | ⟨hn,e1'⟩ <;> rcases getElem?_set_cases e2 with ⟨rfl,h2,hl2⟩ | ⟨hm,e2'⟩
  ·rfl
  ·exfalso
   rcases hb' with h3 | ⟨g',h3,h4⟩
   ·rw [← h3,← h1] at hb
    exact hm (h.nodup i k g hb e2')
   ·rw [h3] at h1
    injection h1 with h1
    subst h1
    have:=h.lt _ (h.ownR g (List.mem_of_getElem? e2'))
    omega
  ·exfalso
   rcases hb' with h3 | ⟨g',h3,h4⟩
   ·rw [← h3,← h2] at hb
    exact hn (h.nodup i j g hb e1')
   ·rw [h3] at h2
    injection h2 with h2
    subst h2
    have:=h.lt _ (h.ownR g (List.mem_of_getElem? e1'))
    omega
  ·exact h.nodup j k g e1' e2'
 ·exact .inl h.ownT
 ·exact .inl h.ownS
 ·intro g hg
  rcases List.mem_or_eq_of_mem_set hg with hg | hg
  ·exact .inl (h.ownR g hg)
  ·rcases hb' with h3 | ⟨g',h3,h4⟩
   ·rw [h3] at hg
    exact .inl (h.ownR g (hg ▸ List.mem_of_getElem? hb))
   ·rw [h3] at hg
    injection hg with hg
    subst hg
    rw [h3] at hr
    exact .inr ⟨h4,by rw [hsz2];exact hr.lt⟩
 ·exact Own.lt h.lt (by rw [hsz2];exact hsz)
theorem TabM.counted {w : World} {tb sb : Nat} {vs : List Value} {bs : List (Option Nat)} {ss : List (List It)} {n : Int} {O : Nat→Prop} (h : TabM w tb sb vs bs ss n O) (m : Int) : TabM (w.setCell ⟨tb,5,none⟩ (.int .i64 m)) tb sb vs bs ss m O:=by
 have t:=Tch.set w ⟨tb,5,none⟩ (.int .i64 m)
 have hts : tb ≠ sb:=at_ne2 h.tab h.slots (by decide)
 refine ⟨h.tab.set 5 (.int .i64 m),h.slots.tch t (Ne.symm hts),h.lv,h.lb,?_,h.nodup,h.ownT,h.ownS,h.ownR,fun k hk=>by rw [size_set];exact h.lt k hk⟩
 intro i v l b e1 e2 e3
 refine (h.row i v l b e1 e2 e3).tch t (fun g hg e=>?_)
 subst hg
 have e' : g=tb:=e
 subst e'
 have h5:=h.row i v l (some g) e1 e2 e3
 cases h5 with
 | row l g c zs h6 _ _ _=>exact at_ne2 h6 h.tab (by decide) rfl
end Go.Proofs.YtkekohmkaefdnaaGreatDoor
namespace Go.Proofs.YtkekohmkaefdnaaGreatDoor
open Go.RowKit Go.Maps Go.Shelf
attribute [local go_sem ↓] Go.wp_at_zero Go.wp_at_succ
theorem idxFrom_erase (key : ByteArray) : ∀ (l : List It) (j i : Nat),idxFrom key l j=((j + i : Nat) : Int)→l.eraseIdx i=l.eraseP fun x=>x.k.toList == key.toList:=by
 intro l
 induction l with
 | nil=>intro j i h;rfl
 | cons y l ih=>
  intro j i h
  cases hk : (y.k.toList == key.toList) with
  | true=>
   rw [idxFrom,hk] at h
   have : i=0:=by simp at h;omega
   subst this
   rw [List.eraseP_cons,hk]
   rfl
  | false=>
   rw [idxFrom,hk] at h
   have h' : idxFrom key l (j + 1)=((j + i : Nat) : Int):=by simpa using h
   rcases idxFrom_spec key l (j + 1) with ⟨h1,_⟩ | ⟨i',x,h1,h2,_⟩
   ·rw [h1] at h';omega
   ·obtain ⟨m,rfl⟩ : ∃ m,i=m + 1:=⟨i - 1,by rw [h2] at h';omega⟩
    rw [List.eraseP_cons,hk,List.eraseIdx_cons_succ,ih (j + 1) m (by rw [h'];congr 1;omega)]
    rfl
theorem idxFrom_none (key : ByteArray) : ∀ (l : List It),findK l key=none→(l.eraseP fun x=>x.k.toList == key.toList)=l:=by
 intro l h
 refine List.eraseP_of_forall_not fun x hx=>?_
 have:=List.find?_eq_none.1 h x hx
 simpa using this
theorem row_erased {w : World} {b c i : Nat} {l : List It} {zs : List Value} (hi : i < l.length) (hc : l.length ≤ c) (hm : c ≤ maxLen) (hb : At w b (rowOf (l.eraseIdx i) ++ zs) TItem) (hz : zs.length=4 * (c - (l.length - 1))) : RowIs w (.slice (some ⟨b,0,none⟩) (l.length - 1) c) (l.eraseIdx i) (some b):=by
 have hlen : (l.eraseIdx i).length=l.length - 1:=List.length_eraseIdx_of_lt hi
 have h1 : (l.eraseIdx i).length ≤ c:=by rw [hlen];exact Nat.le_trans (Nat.sub_le _ _) hc
 have h2 : zs.length=4 * (c - (l.eraseIdx i).length):=by rw [hlen];exact hz
 have h3:=RowIs.row (l.eraseIdx i) b c zs hb h1 hm h2
 rw [hlen] at h3
 exact h3
theorem wrap_dec (n : Int) (h0 : 0 ≤ n) (h1 : n ≤ 1000000000) : IntKind.i64.wrap (n + -1)=n - 1:=by
 simp [IntKind.wrap,IntKind.bits,IntKind.signed]
 omega
def delS (ss : List (List It)) (key : ByteArray) : List (List It):=ss.set (slotOf ss.length key) ((ss.getD (slotOf ss.length key) []).eraseP fun x=>x.k.toList == key.toList)
theorem tdel_gen (tb : Nat) (key : ByteArray) (ss : List (List It)) (n : Int) (O : Nat→Prop) (w : World) (hT : TabI w tb ss n O) (hk : key.size ≤ 1000000) (hF : Few ss) (hn0 : 0 ≤ n) (hn1 : n ≤ 1000000000) :
  Calls Tryz.prog 219 #[.pointer (some ⟨tb,0,none⟩),.string key] w fun e w'=>e=.returned (.bool (lookS ss key).isSome)∧(∃ sb vs bs,TabM w' tb sb vs bs (delS ss key) (if (lookS ss key).isSome then n - 1 else n) (Own O w w'))∧Tch O w w':=by
 have hF':=hF
 obtain ⟨f0,f1,f2⟩:=hF
 have hlt:=hT.lt
 have hOT:=hT.ownT
 have htb:=hlt _ hOT
 have hp1:=place_gen tb key ss n O _ hT hk hF'
 have hsl:=slotOf_lt key f0
 have e2 : ss[slotOf ss.length key]? = some (ss.getD (slotOf ss.length key) []):=by rw [List.getD_eq_getElem?_getD,List.getElem?_eq_getElem hsl];rfl
 have hspec:=idxFrom_spec key (ss.getD (slotOf ss.length key) []) 0
 have herase:=idxFrom_erase key (ss.getD (slotOf ss.length key) []) 0
 have hnone:=idxFrom_none key (ss.getD (slotOf ss.length key) [])
 unfold lookS delS
 generalize hl : ss.getD (slotOf ss.length key) []=l at hp1 hspec e2 herase hnone ⊢
 have HLT:=Lib.hid hlt
 have E2:=Lib.hid e2
 clear hT hlt hl e2
 have hil : ((slotOf ss.length key : Nat) : Int) < (ss.length : Int):=by omega
 rcases hspec with ⟨h1,h2⟩ | ⟨i,x,h1,h2,h3,h4⟩
 ·rw [h1] at hp1
  rw [h2,hnone h2]
  have hset : ss.set (slotOf ss.length key) l=ss:=by
   obtain ⟨h5,h6⟩:=List.getElem?_eq_some_iff.1 E2.out
   rw [← h6]
   exact List.set_getElem_self h5
  rw [hset]
  clear herase hnone hset
  go_enter Tryz.func219,Tryz.ntmps219
  go_wp2_with fail
  refine hp1.mono ?_
  rintro e w1 ⟨rfl,hM,tt⟩
  have HM:=Lib.hid hM
  have TT:=Lib.hid tt
  clear hp1 hM tt
  go_wp2
  go_ret
  exact ⟨rfl,HM.out,TT.out.mono (fun k _ e=>by subst e;exact hOT)⟩
 ·rw [Nat.zero_add] at h2
  have her:=herase i (by rw [h2,Nat.zero_add])
  rw [h2] at hp1
  rw [h3,← her]
  have hi : i < l.length:=(List.getElem?_eq_some_iff.1 h1).1
  have hii : (i : Int) < (l.length : Int):=by omega
  have hi0 : ¬ (i : Int) < 0:=by omega
  have hll : l.length ≤ 1000000:=f2 _ (List.mem_of_getElem? E2.out)
  clear h2 h3 herase hnone her
  go_enter Tryz.func219,Tryz.ntmps219
  go_wp2_with fail
  refine hp1.mono ?_
  rintro e w1 ⟨rfl,⟨sb,vs,bs,hM⟩,tt⟩
  obtain ⟨v,l',b,e1,e2',e3,hrow⟩:=hM.at_ hsl
  have hll' : l'=l:=Option.some.inj (e2'.symm.trans E2.out)
  subst hll'
  cases hrow with
  | nil=>cases h1
  | row l b c zs hb hc hm hz=>
   have hic : (i : Int) < (c : Int):=by omega
   have hbs : b ≠ sb:=at_ne2 hb hM.slots (by decide)
   have hbt : b ≠ tb:=at_ne2 hb hM.tab (by decide)
   have hts : tb ≠ sb:=at_ne2 hM.tab hM.slots (by decide)
   have hdel:=fun W (t : Tch (fun _=>False) w1 W)=>delete_row b c i l' zs W (hb.tch t (fun h=>h)) hc hz hi hm
   have c4:=hM.tab.cell 4 rfl
   have s4:=hM.slots.cell _ e1
   have HM:=Lib.hid hM
   have TT:=Lib.hid tt
   have hw1 : IntKind.i64.wrap ((i : Int) + 1)=(i : Int) + 1:=q43_
   have hw2 : wrap64 ((i : Int) + 1)=(i : Int) + 1:=by unfold wrap64;omega
   clear hp1 hM tt hb e2'
   go_wp2
   go_region_law (go_simp;go_at_call 280;refine (hdel _ ?_).mono ?_;exact Tch.drew _ _;rintro e w3 ⟨rfl,⟨zs',hb3,hz3⟩,t3⟩;have s5:=(HM.out.slots.drew.tch t3 (Ne.symm hbs)).cell _ e1;have f5:=(HM.out.slots.drew.tch t3 (Ne.symm hbs)).frozen (slotOf ss.length key);have c5:=(HM.out.tab.drew.tch t3 (Ne.symm hbt)).cell 4 rfl)
   all_goals
    have hT3:=(HM.out).turned (w2:=w3) (l':=l'.eraseIdx i) (v':=.slice (some ⟨b,0,none⟩) (l'.length - 1) c) (b':=some b) hsl e3 (((Tch.drew (fun k=>k=b) w1).trans t3 (fun _ _ h=>h)).mono (fun k _ h=>congrArg some h.symm)) (row_erased hi hc hm hb3 hz3) (.inl rfl) (fun e=>hbs (Option.some.inj e)) (fun e=>hbt (Option.some.inj e))
    obtain ⟨W5,hW5⟩ : ∃ W5,w3.setCell ⟨sb,slotOf ss.length key,none⟩ (.slice (some ⟨b,0,none⟩) (l'.length - 1) c)=W5:=⟨_,rfl⟩
    rw [hW5] at hT3 ⊢
    obtain ⟨hM5,t5⟩:=hT3
    have hadd:=i64_add ⟨tb,5,none⟩ n (-1) (n - 1) W5 (hM5.tab.cell 5 rfl) (hM5.tab.frozen 5) (wrap_dec n hn0 hn1)
    have HM5:=Lib.hid hM5
    have T5:=Lib.hid t5
    have HOR:=Lib.hid (HM.out.ownR b (List.mem_of_getElem? e3))
    have HOS:=Lib.hid HM.out.ownS
    clear hM5 t5 hb3 hz3 t3 s5 f5 c5 hdel hW5 c4 s4
    go_wp2_with (go_at_call 55;refine hadd.mono ?_;rintro e w6 ⟨rfl,rfl⟩)
    go_ret
    have hw:=HM5.out
    have hts' : sb ≠ tb:=Ne.symm hts
    have t6 : Tch (fun k=>k=tb) W5 (W5.setCell ⟨tb,5,none⟩ (.int .i64 (n - 1))):=Tch.set W5 ⟨tb,5,none⟩ _
    refine ⟨rfl,⟨sb,vs.set (slotOf ss.length key) (.slice (some ⟨b,0,none⟩) (l'.length - 1) c),bs.set (slotOf ss.length key) (some b),?_⟩,?_⟩
    ·have h6:=hw.counted (n - 1)
     refine h6.mono ?_ (Own.lt HLT.out (Nat.le_trans TT.out.size (Nat.le_trans T5.out.size t6.size)))
     rintro k (h | ⟨h,h'⟩)
     ·rcases h with h | ⟨h,h'⟩
      ·exact .inl h
      ·exact .inr ⟨h,Nat.lt_of_lt_of_le h' (Nat.le_trans T5.out.size t6.size)⟩
     ·exact .inr ⟨Nat.le_trans TT.out.size h,by rw [size_set];exact h'⟩
    ·refine ((TT.out.mono (fun k _ h=>by subst h;exact hOT)).trans T5.out ?_).trans t6 (fun k _ h=>by subst h;exact hOT)
     intro k hk h
     rcases h with h | h
     ·subst h
      rcases HOS.out with h | ⟨h,_⟩
      ·exact h
      ·omega
     ·injection h with h
      subst h
      rcases HOR.out with h | ⟨h,_⟩
      ·exact h
      ·omega
end Go.Proofs.YtkekohmkaefdnaaGreatDoor
namespace Go.Proofs.YtkekohmkaefdnaaGreatDoor
open Go.RowKit Go.Maps Go.Shelf
attribute [local go_sem ↓] Go.wp_at_zero Go.wp_at_succ
def insS (T : List (List It)) (x : It) : List (List It):=T.set (slotOf T.length x.k) (T.getD (slotOf T.length x.k) [] ++ [x])
def insAll (T : List (List It)) (xs : List It) : List (List It):=xs.foldl insS T
theorem insS_length (T : List (List It)) (x : It) : (insS T x).length=T.length:=List.length_set
theorem insAll_snoc (T : List (List It)) (xs : List It) (x : It) : insAll T (xs ++ [x])=insS (insAll T xs) x:=by unfold insAll;rw [List.foldl_append];rfl
theorem insAll_length : ∀ (xs : List It) (T : List (List It)),(insAll T xs).length=T.length
 | [],_=>rfl
 | x :: xs,T=>(insAll_length xs (insS T x)).trans (insS_length T x)
theorem flat_set : ∀ (T : List (List It)) (i : Nat) (l : List It) (x : It),T[i]? = some l→(T.set i (l ++ [x])).flatten.length=T.flatten.length + 1
 | [],i,l,x,h=>by simp at h
 | y :: T,0,l,x,h=>by
  obtain rfl : y=l:=by simpa using h
  simp
  omega
 | y :: T,i + 1,l,x,h=>by
  have:=flat_set T i l x (by simpa using h)
  rw [List.set_cons_succ,List.flatten_cons,List.length_append,this,List.flatten_cons,List.length_append]
  omega
theorem insS_count (T : List (List It)) (x : It) (h : 0 < T.length) : (insS T x).flatten.length=T.flatten.length + 1:=by
 have hs:=slotOf_lt x.k h
 unfold insS
 refine flat_set T _ _ x ?_
 rw [List.getD_eq_getElem?_getD,List.getElem?_eq_getElem hs]
 rfl
theorem insAll_count : ∀ (xs : List It) (T : List (List It)),0 < T.length→(insAll T xs).flatten.length=T.flatten.length + xs.length
 | [],T,_=>rfl
 | x :: xs,T,h=>by
  have:=insAll_count xs (insS T x) (by rw [insS_length];exact h)
  rw [insS_count T x h] at this
  show (insAll (insS T x) xs).flatten.length=_
  rw [this,List.length_cons]
  omega
theorem row_le_flat : ∀ (T : List (List It)) (l : List It),l ∈ T→l.length ≤ T.flatten.length
 | [],l,h=>by cases h
 | y :: T,l,h=>by
  rw [List.flatten_cons,List.length_append]
  rcases List.mem_cons.1 h with rfl | h
  ·omega
  ·have:=row_le_flat T l h;omega
theorem few_of {T : List (List It)} (h0 : 0 < T.length) (h1 : T.length ≤ 1000000) (h2 : T.flatten.length ≤ 1000000) : Few T:=⟨h0,h1,fun l hl=>Nat.le_trans (row_le_flat T l hl) h2⟩
def fresh (m : Nat) : List (List It):=List.replicate m []
theorem fresh_flat (m : Nat) : (fresh m).flatten.length=0:=by
 unfold fresh
 induction m with
 | zero=>rfl
 | succ m ih=>rw [List.replicate_succ,List.flatten_cons,List.nil_append];exact ih
def growS (ss : List (List It)) : List (List It):=insAll (fresh (2 * ss.length)) ss.flatten
theorem madeCells_one (v : Value) (m : Nat) : madeCells #[v] m=(List.replicate m v).toArray:=by
 refine Array.ext ?_ ?_
 ·simp [madeCells]
 ·intro i h1 h2
  simp [madeCells,Nat.mod_one]
theorem make_items (m : Nat) (hm : m ≤ 4000000) (W : World) : (Instr.makeSlice 199 (.int .i64 (m : Int)) (.int .i64 (m : Int))).run Tryz.prog W=.ok (.slice (some ⟨W.heap.size,0,none⟩) m m) (W.alloc (.cells (List.replicate m (Value.slice none 0 0)).toArray 46)):=by
 obtain ⟨i0,hi,hz0,hz1,hz2⟩:=info_parts info_items
 have h:=run_makeSlice (P:=Tryz.prog) W 199 46 i0 _ Tryz.underlying199 hi hz0 .i64 .i64 m m (by omega) (by omega) (by rw [hz1];omega) (by rw [hz2];omega) (by omega)
 rw [hz1,Int.toNat_natCast,Nat.mul_one,show (Value.slice none 0 0).cells=#[.slice none 0 0] from rfl,madeCells_one] at h
 exact h
theorem RowIs.grown {w W w5 : World} {v : Value} {l : List It} {b : Option Nat} (h : RowIs w v l b) (t : Tch (fun _=>False) w W) (hg : W.grownBy w5 v.ownBlock) : Tch (fun k=>b=some k) w w5:=by
 have e:=h.own.2
 rw [e] at hg
 exact (t.mono (S':=fun k=>b=some k) (fun _ _ h=>h.elim)).trans (Tch.of_grown hg) (fun _ _ h=>h)
theorem RowIs.snoc {w : World} {base : Nat} {l : List It} {x : It} {g cap : Nat} (h : w.ownsRow base TItem 4 (.slice (some ⟨g,0,none⟩) (l.length + 1) cap) (l.length + 1) (rowOf l ++ x.cells)) : RowIs w (.slice (some ⟨g,0,none⟩) (l.length + 1) cap) (l ++ [x]) (some g):=by
 have e1 : (l ++ [x]).length=l.length + 1:=by rw [List.length_append];rfl
 have e2 : rowOf (l ++ [x])=rowOf l ++ x.cells:=by rw [rowOf_append];simp [rowOf]
 rw [← e1,← e2] at h
 have:=RowIs.of_own h
 rw [e1] at this
 exact this
theorem RowIs.fresh {w W : World} {v : Value} {l : List It} {b : Option Nat} {g : Nat} (h : RowIs w v l b) (hat : v.ownBlock=some g ∨ g=W.heap.size + 1) (hs : w.heap.size ≤ W.heap.size) : some g=b ∨ ∃ g',some g=some g'∧w.heap.size ≤ g':=by
 rcases hat with h1 | rfl
 ·rw [h.own.2] at h1
  exact .inl h1.symm
 ·exact .inr ⟨_,rfl,by omega⟩
theorem RowIs.ne {w : World} {v : Value} {l : List It} {b : Option Nat} {k t : Nat} {cs : List Value} (h : RowIs w v l b) (hk : At w k cs t) (ht : t ≠ TItem) : b ≠ some k:=by
 intro e
 subst e
 cases h with
 | row l g c zs h6 _ _ _=>exact at_ne2 h6 hk (fun e=>ht e.symm) rfl
theorem Own.comp {P O : Nat→Prop} {w a b c d : World} (h : ∀ k,P k→Own O w a k) (hb : w.heap.size ≤ b.heap.size) (hc : c.heap.size ≤ d.heap.size) (ha : a.heap.size ≤ d.heap.size) : ∀ k,Own P b c k→Own O w d k:=by
 rintro k (h1 | ⟨h1,h2⟩)
 ·rcases h k h1 with h3 | ⟨h3,h4⟩
  ·exact .inl h3
  ·exact .inr ⟨h3,Nat.lt_of_lt_of_le h4 ha⟩
 ·exact .inr ⟨Nat.le_trans hb h1,Nat.lt_of_lt_of_le h2 hc⟩
theorem Own.refl {O : Nat→Prop} {w a : World} : ∀ k,O k→Own O w a k:=fun _ h=>.inl h
theorem Own.old {O : Nat→Prop} {w a : World} {k : Nat} (h : Own O w a k) (hk : k < w.heap.size) : O k:=h.elim (fun h=>h) (fun h=>absurd h.1 (Nat.not_le.2 hk))
end Go.Proofs.YtkekohmkaefdnaaGreatDoor
