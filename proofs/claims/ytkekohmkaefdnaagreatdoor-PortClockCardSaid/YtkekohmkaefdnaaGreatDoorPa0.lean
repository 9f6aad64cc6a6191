import Derived.Test.YtkekohmkaefdnaaGreatDoorProg
import Derived.WalkKit
import Derived.WalkSpells
import Derived.WalkLawsBesides
import Derived.Defers
import Derived.Laws.LoneSync
import Derived.RegionTactic
import Derived.RegionCalls
import Derived.Deep.RegionLawGrows
import Derived.Deep.CutBlock
import Derived.Test.YtkekohmkaefdnaaGreatDoorShelf
import Derived.Lib.Hide
import Derived.Lib.Strings
import Derived.Shelf.Strings.BuilderF
import Derived.Test.YtkekohmkaefdnaaGreatDoorWLast
import Derived.Lib.DecodeN
import Derived.Lib.IndexAny
import Derived.Laws.RangeAny
import Derived.Laws.Runes
import Derived.WalkMore
import Derived.Lib.OthersKept
import Derived.Below
import Derived.Deep.QuietTactic
import Derived.Lib.SplitLaws
import Derived.Test.YtkekohmkaefdnaaGreatDoorWWords
import Derived.Test.YtkekohmkaefdnaaGreatDoorWTab
import Derived.Deep.Draws
import Derived.Deep.AppendLies
import Derived.Maps.AppendAt
import Derived.OwnWalk
import Derived.Laws.BytesArg
import Derived.Laws.MakeOwn
import Derived.Laws.OwnMore
import Derived.Deep.OwnRows
import Derived.Tactics
import Derived.Lib.ConvBytes
import Derived.Laws.Slices
import Derived.KernelRfl
import Derived.RowKit3
import Derived.Deep.LoopGhost
import Derived.BigQuiet
import Derived.WideLaws
import Derived.Deep.DeepCutAuto
import Derived.Deep.RegionHeld3
import Derived.Laws.Rows
import Derived.Lib.AppendStr
import Derived.ArgAppend
import Derived.Laws.IdiomCopy
import Derived.OrdersHeld
import Derived.Laws.BitsLemmas
import Derived.RowKit
import Derived.Test.YtkekohmkaefdnaaGreatDoorWEqStruct
import Derived.Test.YtkekohmkaefdnaaGreatDoorWRepsOne
import Derived.Test.YtkekohmkaefdnaaGreatDoorWGuard
import Derived.Test.YtkekohmkaefdnaaGreatDoorWMore
set_option linter.unusedVariables false
set_option maxHeartbeats 6400000
set_option maxRecDepth 1000000
namespace Go.Proofs.YtkekohmkaefdnaaGreatDoor
open Go.RowKit
theorem disable (w : World) : (callFunc 293 #[]).run Tryz.prog w=.ok (.value (.tuple #[])) w:=run_call_mark0 Tryz.func293 (by kernel_rfl) (by kernel_rfl) (by kernel_rfl) .disable (by kernel_rfl) w
theorem enable (w : World) : (callFunc 295 #[]).run Tryz.prog w=.ok (.value (.tuple #[])) w:=run_call_mark0 Tryz.func295 (by kernel_rfl) (by kernel_rfl) (by kernel_rfl) .enable (by kernel_rfl) w
theorem acquire (a : Addr) (w : World) : (callFunc 296 #[.pointer (some a)]).run Tryz.prog w=.ok (.value (.tuple #[])) w:=run_call_marked Tryz.func296 (by kernel_rfl) (by kernel_rfl) (by kernel_rfl) .acquire (by kernel_rfl) a w
theorem releaseMerge (a : Addr) (w : World) : (callFunc 298 #[.pointer (some a)]).run Tryz.prog w=.ok (.value (.tuple #[])) w:=run_call_marked Tryz.func298 (by kernel_rfl) (by kernel_rfl) (by kernel_rfl) .releaseMerge (by kernel_rfl) a w
theorem store_deferred (a : Addr) (x : Value) (u : FrameMode) (w : World) (hc : w.cell? a=some x) (hz : w.frozen? a=false) :
  CallsD Tryz.prog 181 #[.pointer (some a),.bool true] u w fun e u' w'=>u'=u∧(e=.returned (.tuple #[])∧w'=w.drew.setCell a (.int .u32 1)):=by
 have hc' : w.drew.cell? a=some x:=by go_simp
 have hz' : w.drew.frozen? a=false:=by go_simp
 have hst:=run_call_store (P:=Tryz.prog) Tryz.func247 (by kernel_rfl) (by kernel_rfl) (by kernel_rfl) (by kernel_rfl) (k:=.u32) (y:=1) hc' hz'
 go_enter_d Tryz.func181,Tryz.ntmps181
 go_wp2
 go_region_calls
 all_goals (go_end0;exact ⟨rfl,rfl⟩)
theorem unlock_deferred (a : Addr) (u : FrameMode) (w : World) (hc : w.cell? a=some (.int .i32 1)) (hz : w.frozen? a=false) :
  CallsD Tryz.prog 180 #[.pointer (some a)] u w fun e u' w'=>u'=u∧(e=.returned (.tuple #[])∧w'=w.setCell a (.int .i32 0)):=by
 have hd:=disable
 have he:=enable
 have hr:=releaseMerge
 have hadd:=run_call_add (P:=Tryz.prog) Tryz.func299 (by kernel_rfl) (by kernel_rfl) (by kernel_rfl) .i32 (by kernel_rfl) (y:=-1) (s:=0) hc hz (by simp [go_sem];rfl)
 have hcv:=run_convert_to_unsafe (P:=Tryz.prog) (src:=348) (dst:=336) Tryz.underlying348 Tryz.underlying336 (by kernel_rfl) hc
 go_enter_d Tryz.func180,Tryz.ntmps180
 go_wp2
 go_end0
 go_wp2
 go_end0
 exact ⟨rfl,rfl⟩
theorem lock_free (a : Addr) (w : World) (hc : w.cell? a=some (.int .i32 0)) (hz : w.frozen? a=false) :
  Calls Tryz.prog 179 #[.pointer (some a)] w fun e w'=>e=.returned (.tuple #[])∧w'=w.setCell a (.int .i32 1):=by
 have hd:=disable
 have he:=enable
 have ha:=acquire
 have hcas:=run_call_cas_hit (P:=Tryz.prog) Tryz.func294 (by kernel_rfl) (by kernel_rfl) (by kernel_rfl) .i32 (by kernel_rfl) (y:=1) hc hz
 have hc' : (w.setCell a (.int .i32 1)).cell? a=some (.int .i32 1):=World.cell?_setCell_same w a _ hc
 have hcv:=run_convert_to_unsafe (P:=Tryz.prog) (src:=348) (dst:=336) Tryz.underlying348 Tryz.underlying336 (by kernel_rfl) hc'
 go_enter Tryz.func179,Tryz.ntmps179
 go_wp2
 first | go_end0 | (simp only [Exit.inBlock,Exit.then];refine bodyPost_ret (results_none rfl _ _ _) rfl ?_) | refine bodyPost_ret (results_none rfl _ _ _) rfl ?_
 go_wp2
 go_end0
 exact ⟨rfl,rfl⟩
theorem slow_first (F : Nat) (b off : Nat) (caps : Array Value) (w : World) (R : World→Prop)
  (h0 : w.cell? ⟨b,off,none⟩=some (.int .u32 0)) (h1 : w.cell? ⟨b,off + 1,none⟩=some (.int .i32 0))
  (f1 : w.frozen? ⟨b,off + 1,none⟩=false)
  (hcl : Calls Tryz.prog F caps (w.setCell ⟨b,off + 1,none⟩ (.int .i32 1)) fun e W'=>e=.returned (.tuple #[])∧R W')
  (hR : ∀ W',R W'→W'.cell? ⟨b,off,none⟩=some (.int .u32 0)∧W'.cell? ⟨b,off + 1,none⟩=some (.int .i32 1)∧W'.frozen? ⟨b,off,none⟩=false∧W'.frozen? ⟨b,off + 1,none⟩=false)
  (hen : ∀ args w,(callFunc F args).run Tryz.prog w=.ok (.enter F args) w) :
  Calls Tryz.prog 127 #[.pointer (some ⟨b,off,none⟩),.func (.func F) #[] caps] w fun e w'=>e=.returned (.tuple #[]) ∧
   ∃ W',R W'∧w'=(W'.drew.setCell ⟨b,off,none⟩ (.int .u32 1)).setCell ⟨b,off + 1,none⟩ (.int .i32 0):=by
 have hl:=run_call_load (P:=Tryz.prog) Tryz.func178 (by kernel_rfl) (by kernel_rfl) (by kernel_rfl) .u32 (by kernel_rfl) (w:=w.setCell ⟨b,off + 1,none⟩ (.int .i32 1)) (a:=⟨b,off,none⟩) (x:=0) ((World.cell?_setCell_other _ ⟨b,off + 1,none⟩ ⟨b,off,none⟩ _ (by simp)).trans h0)
 have hnot : ∀ (x : Bool) (w : World),(Op.unary .not (.bool x)).run Tryz.prog w=.ok (.bool (!x)) w:=fun _ _=>rfl
 go_enter_defers Tryz.func127,Tryz.ntmps127
 go_wp2_with (go_at_call 179;refine (lock_free ⟨b,off + 1,none⟩ _ (by go_simp) (by go_simp)).mono ?_;rintro e w' ⟨rfl,rfl⟩)
 go_wp2_with (first | (go_at_call 126;go_in) | fail)
 clear hl
 refine hcl.mono ?_
 rintro e W' ⟨rfl,hr⟩
 obtain ⟨r0,r1,z0,z1⟩:=hR _ hr
 go_wp2
 refine leaves_cons (f:=181) (args:=#[.pointer (some ⟨b,off,none⟩),.bool true]) (by simp) (by simp [go_sem]) ?_
 refine (store_deferred ⟨b,off,none⟩ (.int .u32 0) .returning _ r0 z0).mono ?_
 rintro e u' w'' ⟨rfl,rfl,rfl⟩
 refine leaves_cons (f:=180) (args:=#[.pointer (some ⟨b,off + 1,none⟩)]) (by simp [settle]) (by simp [go_sem]) ?_
 refine (unlock_deferred ⟨b,off + 1,none⟩ _ _ ?_ (by simp [z1])).mono ?_
 ·refine (World.cell?_setCell_other _ ⟨b,off,none⟩ ⟨b,off + 1,none⟩ _ (by simp)).trans ?_
  rw [World.cell?_drew]
  exact r1
 rintro e u' w'' ⟨rfl,rfl,rfl⟩
 exact ⟨_,results_none rfl _ _ _,rfl,W',hr,rfl⟩
theorem once_first (F : Nat) (b off : Nat) (caps : Array Value) (w : World) (R : World→Prop)
  (h0 : w.cell? ⟨b,off,none⟩=some (.int .u32 0)) (h1 : w.cell? ⟨b,off + 1,none⟩=some (.int .i32 0))
  (f1 : w.frozen? ⟨b,off + 1,none⟩=false)
  (hcl : Calls Tryz.prog F caps (w.setCell ⟨b,off + 1,none⟩ (.int .i32 1)) fun e W'=>e=.returned (.tuple #[])∧R W')
  (hR : ∀ W',R W'→W'.cell? ⟨b,off,none⟩=some (.int .u32 0)∧W'.cell? ⟨b,off + 1,none⟩=some (.int .i32 1)∧W'.frozen? ⟨b,off,none⟩=false∧W'.frozen? ⟨b,off + 1,none⟩=false)
  (hen : ∀ args w,(callFunc F args).run Tryz.prog w=.ok (.enter F args) w) :
  Calls Tryz.prog 94 #[.pointer (some ⟨b,off,none⟩),.func (.func F) #[] caps] w fun e w'=>e=.returned (.tuple #[]) ∧
   ∃ W',R W'∧w'=(W'.drew.setCell ⟨b,off,none⟩ (.int .u32 1)).setCell ⟨b,off + 1,none⟩ (.int .i32 0):=by
 have hl:=run_call_load (P:=Tryz.prog) Tryz.func178 (by kernel_rfl) (by kernel_rfl) (by kernel_rfl) .u32 (by kernel_rfl) h0
 have hnot : ∀ (x : Bool) (w : World),(Op.unary .not (.bool x)).run Tryz.prog w=.ok (.bool (!x)) w:=fun _ _=>rfl
 go_enter Tryz.func94,Tryz.ntmps94
 go_wp2_with (first | (go_at_call 127;refine (slow_first F b off caps _ R h0 h1 f1 hcl hR hen).mono ?_;rintro e w' ⟨rfl,W',hr,rfl⟩) | (go_at_call 126;go_in))
 go_end0
 exact ⟨rfl,W',hr,rfl⟩
end Go.Proofs.YtkekohmkaefdnaaGreatDoor
namespace Go.Proofs.YtkekohmkaefdnaaGreatDoor
open Go.RowKit
def LaidT (w : World) : Prop:=Lib.TabIs Tryz.prog w "strings.asciiSpace" .u8 Lib.asciiSpaceTab
theorem LaidT.below {w w' : World} {B : Nat} (h : LaidT w) (hB : B=w.heap.size) (hb : Below B w w') : LaidT w':=by
 have hg : Tryz.prog.globalNamed "strings.asciiSpace"=some 0:=by kernel_rfl
 refine var?_below hb hg ?_ h
 have h' : w.var? Tryz.prog "strings.asciiSpace"=some _:=h
 unfold World.var? at h'
 simp only [hg,Option.bind_some] at h'
 rw [hB]
 by_cases hl : 0 < w.heap.size
 ·exact hl
 ·rw [Array.getElem?_eq_none (by omega)] at h'
  cases h'
def MaxL (w : World) : Prop:=∃ m,w.cell? ⟨1,0,none⟩=some (.int .i64 m)
theorem MaxL.below {w w' : World} {B : Nat} (h : MaxL w) (hB : B=w.heap.size) (hb : Below B w w') : MaxL w':=by
 obtain ⟨m,hm⟩:=h
 exact ⟨m,(hb.cell (p:=⟨1,0,none⟩) (by rw [hB];exact World.block_lt_of_cell? w _ hm)).trans hm⟩
def Laid (w : World) : Prop:=LaidT w∧MaxL w
theorem Laid.below {w w' : World} {B : Nat} (h : Laid w) (hB : B=w.heap.size) (hb : Below B w w') : Laid w':=⟨h.1.below hB hb,h.2.below hB hb⟩
theorem info_str : (Tryz.prog.info? 9).map (fun i=>(i.zero,i.size,i.bytes))=some (some (.string ByteArray.empty),1,16):=by kernel_rfl
def nameText : ByteArray:=⟨#[97,110,121,32,114,101,97,100,32,119,114,105,116,101,32,97,100,109,105,110]⟩
def nameVals : List Value:=(Lib.fields nameText.data.toList).map fun x=>Value.string ⟨x.toArray⟩
theorem nameVals_length : nameVals.length=4:=by decide +kernel
theorem nameFields_length : (Lib.fields nameText.data.toList).length=4:=by decide +kernel
theorem nameVals_ne : nameVals ≠ []:=fun h=>by have:=nameVals_length;rw [h] at this;cases this
theorem nameText_ascii : ∀ (j : Nat) b,nameText.data.toList[j]? = some b→b.toNat < 128:=by
 intro j b h
 exact (by decide +kernel : ∀ x ∈ nameText.data.toList,x.toNat < 128) b (List.mem_of_getElem? h)
theorem fields_names (w : World) (hL : LaidT w) :
  Calls Tryz.prog 142 #[.string nameText] w fun e w'=>e=.returned (.slice (some ⟨w.heap.size,0,none⟩) 4 4)∧w'=w.alloc (.cells nameVals.toArray 9):=by
 have h:=Tryz.strings_Fields nameText w (by decide) nameText_ascii hL
 rw [nameFields_length] at h
 exact h
def MadeR (b : Nat) (w W' : World) : Prop:=
 ∃ v W2,Below w.heap.size w W2∧W2.ownsRow w.heap.size 9 1 v 4 nameVals∧W'=W2.setCell ⟨b,3,none⟩ v
theorem made_end (b : Nat) (w : World) (hb : b < w.heap.size) : MadeR b w ((w.setCell ⟨b,3,none⟩ (.slice (some ⟨w.heap.size,0,none⟩) 4 4)).alloc (.cells nameVals.toArray 9)).drew:=by
 have h:=World.ownsRow_lit (base:=w.heap.size) (e:=9) (size:=1) w nameVals.toArray 4 (Nat.le_refl _) (by unfold maxLen;decide) (by simp [nameVals_length])
 refine ⟨.slice (some ⟨w.heap.size,0,none⟩) 4 4,(w.alloc (.cells nameVals.toArray 9)).drew,((Below.refl _ w).alloc (Nat.le_refl _) _).drew,?_,?_⟩
 ·exact ⟨h.1,h.2⟩
 ·have hs : ∀ o : Obj,(w.setCell ⟨b,3,none⟩ (.slice (some ⟨w.heap.size,0,none⟩) 4 4)).alloc o=(w.alloc o).setCell ⟨b,3,none⟩ (.slice (some ⟨w.heap.size,0,none⟩) 4 4):=by
   intro o
   go_simp
  rw [hs]
  rfl
theorem own_form {w : World} {base e : Nat} {v : Value} {n : Nat} {xs : List Value} (h : w.ownsRow base e 1 v n xs) (hn : xs ≠ []) : ∃ g cap,v=.slice (some ⟨g,0,none⟩) n cap:=by
 obtain ⟨h1,h2⟩:=h
 rcases h2 with ⟨_,h2⟩ | ⟨g,cap,cs,e1,_⟩
 ·subst h2
  exact absurd (List.eq_nil_of_length_eq_zero (by simpa using h1)) hn
 ·exact ⟨g,cap,e1⟩
theorem made_fn (b pl : Nat) (w : World) (old : Value) (hp : w.cell? ⟨pl,0,none⟩=some (.pointer (some ⟨b,0,none⟩)))
  (h3 : w.cell? ⟨b,3,none⟩=some old) (f3 : w.frozen? ⟨b,3,none⟩=false) (hb : b < w.heap.size) (hpl : pl < w.heap.size) (hL : LaidT w) :
  Calls Tryz.prog 141 #[.pointer (some ⟨pl,0,none⟩)] w fun e W'=>e=.returned (.tuple #[])∧MadeR b w W':=by
 obtain ⟨i0,hi,hz0,hz1,hz2⟩:=info_parts info_str
 have hT : Hid (∀ W,Below w.heap.size w W→LaidT W):=Lib.hid fun W hb=>hL.below rfl hb
 have hC : Hid (∀ W,Below w.heap.size w W→W.cell? ⟨b,3,none⟩=some old):=Lib.hid fun W hB=>by rw [hB.cell (p:=⟨b,3,none⟩) hb];exact h3
 have hF : Hid (∀ W,Below w.heap.size w W→W.frozen? ⟨b,3,none⟩=false):=Lib.hid fun W hB=>by rw [hB.frozen (p:=⟨b,3,none⟩) hb];exact f3
 have hP : Hid (∀ W,Below w.heap.size w W→W.cell? ⟨pl,0,none⟩=some (.pointer (some ⟨b,0,none⟩))):=Lib.hid fun W hB=>by rw [hB.cell (p:=⟨pl,0,none⟩) hpl];exact hp
 go_enter Tryz.func141,Tryz.ntmps141
 go_wp2
 go_region_law (go_simp;go_at_call 142;refine (fields_names _ (hT.out _ (by repeat' (first | exact Below.refl _ _ | refine Below.drew ?_ | refine Below.alloc ?_ (by simp) _)))).mono ?_;rintro e w' ⟨rfl,rfl⟩)
 all_goals (go_end0;exact ⟨rfl,made_end b w hb⟩)
theorem ownsRow_block {w w' : World} {base base' e : Nat} {v : Value} {n : Nat} {xs : List Value} (h : w.ownsRow base e 1 v n xs) (hb : base' ≤ base) (hk : ∀ g,base ≤ g→w'.heap[g]? = w.heap[g]?) : w'.ownsRow base' e 1 v n xs:=by
 obtain ⟨h1,h2⟩:=h
 refine ⟨h1,?_⟩
 rcases h2 with h2 | ⟨g,cap,cs,e1,e2,e3,rest⟩
 ·exact .inl h2
 ·exact .inr ⟨g,cap,cs,e1,by omega,by rw [hk g e2];exact e3,rest⟩
def onceEnd (W : World) (b : Nat) : World:=(W.drew.setCell ⟨b,0,none⟩ (.int .u32 1)).setCell ⟨b,1,none⟩ (.int .i32 0)
theorem onceEnd_block (W : World) (b k : Nat) (h : k ≠ b) : (onceEnd W b).heap[k]? = W.heap[k]? := by
 unfold onceEnd
 rw [Below.heap_setCell _ _ _ _ h,Below.heap_setCell _ _ _ _ h]
 rfl
theorem onceEnd_cell (W : World) (b o : Nat) (h0 : o ≠ 0) (h1 : o ≠ 1) : (onceEnd W b).cell? ⟨b,o,none⟩=W.cell? ⟨b,o,none⟩:=by
 unfold onceEnd
 rw [World.cell?_setCell_other _ _ _ _ (fun h=>by injection h;omega),World.cell?_setCell_other _ _ _ _ (fun h=>by injection h;omega),World.cell?_drew]
theorem onceEnd_below (W : World) (b : Nat) : Below b W (onceEnd W b):=
 (((Below.refl b W).drew).setCell (Nat.le_refl _) _).setCell (Nat.le_refl _) _
def MadeE (b : Nat) (w : World) (v : Value) (w' : World) : Prop:=Below b w w'∧w'.ownsRow w.heap.size 9 1 v 4 nameVals∧∀ k,k < w.heap.size→k ≠ b→w'.heap[k]? = w.heap[k]?
theorem made_any (b : Nat) (w : World) (hblk : w.heap[b]? = some (.cells #[.int .u32 0,.int .i32 0,.int .u32 0,.slice none 0 0] 197 (0,0))) (hL : LaidT w) :
  Calls Tryz.prog 110 #[.pointer (some ⟨b,0,none⟩)] w fun e w'=>∃ g cap,e=.returned (.slice (some ⟨g,0,none⟩) 4 cap)∧MadeE b w (.slice (some ⟨g,0,none⟩) 4 cap) w':=by
 have hmf : ∀ (fn : Fn) (first cap : Array Value) (w : World),(Instr.makeFunc fn first cap).run Tryz.prog w=.ok (.func fn first cap) w:=fun _ _ _ _=>rfl
 have hb : b < w.heap.size:=by
  by_cases h : b < w.heap.size
  ·exact h
  ·rw [Array.getElem?_eq_none (by omega)] at hblk
   cases hblk
 obtain ⟨W0,hW0⟩ : ∃ W0,W0=w.alloc (.cells #[.pointer (some ⟨b,0,none⟩)] 233):=⟨_,rfl⟩
 have z0 : W0.heap.size=w.heap.size + 1:=by rw [hW0];simp
 have blk0 : W0.heap[b]? = some (.cells #[.int .u32 0,.int .i32 0,.int .u32 0,.slice none 0 0] 197 (0,0)):=by rw [hW0,Below.heap_alloc _ _ _ hb];exact hblk
 have c0 : W0.cell? ⟨b,0,none⟩=some (.int .u32 0):=by simp [World.cell?,blk0]
 have c1 : W0.cell? ⟨b,0 + 1,none⟩=some (.int .i32 0):=by simp [World.cell?,blk0]
 have c3 : W0.cell? ⟨b,3,none⟩=some (.slice none 0 0):=by simp [World.cell?,blk0]
 have fz : ∀ o,W0.frozen? ⟨b,o,none⟩=false:=fun o=>by simp [World.frozen?,blk0]
 have cp : W0.cell? ⟨w.heap.size,0,none⟩=some (.pointer (some ⟨b,0,none⟩)):=by rw [hW0];simp
 obtain ⟨W1,hW1⟩ : ∃ W1,W1=W0.setCell ⟨b,0 + 1,none⟩ (.int .i32 1):=⟨_,rfl⟩
 have z1 : W1.heap.size=w.heap.size + 1:=by rw [hW1];simp [z0]
 have B1 : Below b w W1:=by rw [hW1,hW0];exact ((Below.refl b w).alloc (by omega) _).setCell (Nat.le_refl _) _
 have L1 : LaidT W1:=by
  have : Below W0.heap.size W0 W0:=Below.refl _ _
  have l0 : LaidT W0:=hL.below rfl (by rw [hW0];exact (Below.refl _ w).alloc (Nat.le_refl _) _)
  have hg : Tryz.prog.globalNamed "strings.asciiSpace"=some 0:=by kernel_rfl
  have hne : 0 ≠ b:=by
   intro h
   have l' : W0.var? Tryz.prog "strings.asciiSpace"=some _:=l0
   unfold World.var? at l'
   simp only [hg,Option.bind_some] at l'
   rw [h,blk0] at l'
   have:=congrArg (fun o=>o.map Array.size) l'
   simp [Lib.asciiSpaceTab_length] at this
  have l' : W0.var? Tryz.prog "strings.asciiSpace"=some _:=l0
  show W1.var? Tryz.prog "strings.asciiSpace"=some _
  unfold World.var? at l' ⊢
  simp only [hg,Option.bind_some] at l' ⊢
  rw [hW1,Below.heap_setCell _ _ _ _ hne]
  exact l'
 have hdo:=once_first 141 b 0 #[.pointer (some ⟨w.heap.size,0,none⟩)] W0 (MadeR b W1) c0 c1 (fz _)
  (by
   rw [← hW1]
   refine made_fn b w.heap.size W1 (.slice none 0 0) ?_ ?_ ?_ (by omega) (by omega) L1
   ·rw [hW1,World.cell?_setCell_other _ _ _ _ (fun h=>by injection h;omega)];exact cp
   ·rw [hW1,World.cell?_setCell_other _ _ _ _ (by simp)];exact c3
   ·rw [hW1];simpa using fz 3)
  (by
   rintro W' ⟨v,W2,hB,ho,rfl⟩
   have e0 : W2.cell? ⟨b,0,none⟩=some (.int .u32 0):=by
    rw [hB.cell (p:=⟨b,0,none⟩) (by simp;omega),hW1,World.cell?_setCell_other _ _ _ _ (by simp)];exact c0
   have e1 : W2.cell? ⟨b,0 + 1,none⟩=some (.int .i32 1):=by
    rw [hB.cell (p:=⟨b,0 + 1,none⟩) (by simp;omega),hW1];exact World.cell?_setCell_same _ _ _ c1
   have e2 : ∀ o,W2.frozen? ⟨b,o,none⟩=false:=fun o=>by
    rw [hB.frozen (p:=⟨b,o,none⟩) (by simp;omega),hW1];simpa using fz o
   refine ⟨?_,?_,by simpa using e2 0,by simpa using e2 (0 + 1)⟩
   ·rw [World.cell?_setCell_other _ _ _ _ (by simp)];exact e0
   ·rw [World.cell?_setCell_other _ _ _ _ (by simp)];exact e1)
  (enters_of Tryz.func141 (by kernel_rfl) rfl)
 have hfin : ∀ W',MadeR b W1 W'→∃ v,(onceEnd W' b).cell? ⟨b,3,none⟩=some v∧v.oneCell'=true∧(onceEnd W' b).cell? ⟨w.heap.size,0,none⟩=some (.pointer (some ⟨b,0,none⟩))∧Below b w (onceEnd W' b)∧((onceEnd W' b).ownsRow w.heap.size 9 1 v 4 nameVals∧∀ k,k < w.heap.size→k ≠ b→(onceEnd W' b).heap[k]? = w.heap[k]?):=by
  rintro W' ⟨v,W2,hB,ho,rfl⟩
  refine ⟨v,?_,?_,?_,?_,?_⟩
  ·rw [onceEnd_cell _ _ _ (by omega) (by omega)]
   refine World.cell?_setCell_same (u:=.slice none 0 0) _ _ _ ?_
   rw [hB.cell (p:=⟨b,3,none⟩) (by simp;omega),hW1,World.cell?_setCell_other _ _ _ _ (by simp)];exact c3
  ·obtain ⟨g,cap,rfl⟩:=own_form ho nameVals_ne
   rfl
  ·have : (onceEnd (W2.setCell ⟨b,3,none⟩ v) b).cell? ⟨w.heap.size,0,none⟩=W2.cell? ⟨w.heap.size,0,none⟩:=
    World.cell?_of_block (by rw [onceEnd_block _ _ _ (by simp;omega),Below.heap_setCell _ _ _ _ (by simp;omega)])
   rw [this,hB.cell (p:=⟨w.heap.size,0,none⟩) (by simp;omega),hW1,World.cell?_setCell_other _ _ _ _ (fun h=>by injection h;omega)]
   exact cp
  ·exact (B1.trans ((hB.mono (show b ≤ W1.heap.size by omega)).setCell (p:=⟨b,3,none⟩) (Nat.le_refl b) _)).trans (onceEnd_below _ _)
  ·refine ⟨ownsRow_block ho (by omega) fun g hg=>?_,fun k hk hne=>?_⟩
   ·rw [onceEnd_block _ _ _ (by omega),Below.heap_setCell _ _ _ _ (by simp;omega)]
   ·rw [onceEnd_block _ _ _ hne,Below.heap_setCell _ _ _ _ hne,hB.block k (by omega),hW1,Below.heap_setCell _ _ _ _ hne,hW0,Below.heap_alloc _ _ _ hk]
 have hd2 : Calls Tryz.prog 94 #[.pointer (some ⟨b,0,none⟩),.func (.func 141) #[] #[.pointer (some ⟨w.heap.size,0,none⟩)]] W0 fun e w'=>e=.returned (.tuple #[])∧∃ g cap,w'.cell? ⟨b,3,none⟩=some (.slice (some ⟨g,0,none⟩) 4 cap)∧w'.cell? ⟨w.heap.size,0,none⟩=some (.pointer (some ⟨b,0,none⟩))∧MadeE b w (.slice (some ⟨g,0,none⟩) 4 cap) w':=by
  refine hdo.mono ?_
  rintro e w' ⟨he,W',hr,hw⟩
  obtain ⟨v,f1,f2,f3,f4,f5⟩:=hfin _ hr
  obtain rfl : w'=onceEnd W' b:=hw
  obtain ⟨g,cap,rfl⟩:=own_form f5.1 nameVals_ne
  exact ⟨he,g,cap,f1,f3,f4,f5⟩
 clear hfin hdo
 clear B1 L1 hW1 z1 blk0 c0 c1 c3 fz cp z0 hL hblk
 subst hW0
 go_enter Tryz.func110,Tryz.ntmps110
 go_wp2_with (go_at_call 94;refine hd2.mono ?_;rintro e w' ⟨rfl,g,cap,f1,f2,f3⟩;have F:=Lib.hid f3;clear f3)
 go_ret
 exact ⟨g,cap,rfl,F.out⟩
def nameOf (op : Int) : ByteArray:=((Lib.fields nameText.data.toList).map fun x=>(⟨x.toArray⟩ : ByteArray)).getD op.toNat ByteArray.empty
theorem nameVals_at (i : Nat) (hi : i < 4) : nameVals[i]? = some (.string (nameOf i)):=by
 have h : ∀ j : Nat,j < 4→nameVals[j]? = some (.string (((Lib.fields nameText.data.toList).map fun x=>(⟨x.toArray⟩ : ByteArray)).getD j ByteArray.empty)):=by
  intro j hj
  have e : nameVals=((Lib.fields nameText.data.toList).map fun x=>(⟨x.toArray⟩ : ByteArray)).map Value.string:=by
   simp [nameVals]
  have hl : ((Lib.fields nameText.data.toList).map fun x=>(⟨x.toArray⟩ : ByteArray)).length=4:=by
   simp [nameFields_length]
  rw [e,List.getElem?_map,List.getD_eq_getElem?_getD,List.getElem?_eq_getElem (by omega)]
  rfl
 exact h i hi
def acl_class.f (op : Int) : Option ByteArray:=some (if 0 ≤ op∧op < 4 then nameOf op else ⟨#[]⟩)
theorem acl_class.calls (op : Int) (r : ByteArray) (w : World) (h : acl_class.f op=some r) (hLd : Laid w) :
  Calls Tryz.prog 146 #[.int .i64 op] w fun e w'=>e=.returned (.string r)∧Below w.heap.size w w':=by
 have hL:=hLd.1
 clear hLd
 have hm : Hid (∀ W,W=w.alloc (.cells #[.int .u32 0,.int .i32 0,.int .u32 0,.slice none 0 0] 197)→Calls Tryz.prog 110 #[.pointer (some ⟨w.heap.size,0,none⟩)] W fun e w'=>∃ g cap,e=.returned (.slice (some ⟨g,0,none⟩) 4 cap)∧MadeE w.heap.size W (.slice (some ⟨g,0,none⟩) 4 cap) w'):=by
  refine Lib.hid fun W hW=>made_any w.heap.size W (by rw [hW];exact heap_alloc_new w _) (hL.below rfl (by rw [hW];exact (Below.refl _ w).alloc (Nat.le_refl _) _))
 unfold acl_class.f at h
 have hr:=Option.some.inj h
 clear h
 by_cases hop : 0 ≤ op∧op < 4
 ·rw [if_pos hop] at hr
  obtain ⟨h0,h1⟩:=hop
  obtain ⟨n,rfl⟩:=Int.eq_ofNat_of_zero_le (show 0 ≤ op by omega)
  have hn:=nameVals_at n (by omega)
  rw [hr] at hn
  have HN:=Lib.hid hn
  clear hn hr
  go_enter Tryz.func146,Tryz.ntmps146
  go_wp2_with (go_at_call 110;refine (hm.out _ rfl).mono ?_;rintro e w' ⟨g,cap,rfl,f⟩;have F:=Lib.hid f;clear f;have hc:=(F.out.2.1.cellAt n (by omega)).trans HN.out)
  go_ret
  exact ⟨rfl,((Below.refl _ w).alloc (Nat.le_refl _) _).trans F.out.1⟩
 ·rw [if_neg hop] at hr
  have HR:=Lib.hid hr
  clear hr
  by_cases h0 : 0 ≤ op
  ·have h1 : 4 ≤ op:=by omega
   clear hop
   go_enter Tryz.func146,Tryz.ntmps146
   go_wp2_with (go_at_call 110;refine (hm.out _ rfl).mono ?_;rintro e w' ⟨g,cap,rfl,f⟩;have F:=Lib.hid f;clear f)
   go_ret
   exact ⟨by rw [← HR.out];rfl,((Below.refl _ w).alloc (Nat.le_refl _) _).trans F.out.1⟩
  ·have h1 : op < 0:=by omega
   clear hop
   go_enter Tryz.func146,Tryz.ntmps146
   go_wp2_with (go_at_call 110;refine (hm.out _ rfl).mono ?_;rintro e w' ⟨g,cap,rfl,f⟩;have F:=Lib.hid f;clear f)
   go_ret
   exact ⟨by rw [← HR.out];rfl,((Below.refl _ w).alloc (Nat.le_refl _) _).trans F.out.1⟩
end Go.Proofs.YtkekohmkaefdnaaGreatDoor
namespace Go.Proofs.YtkekohmkaefdnaaGreatDoor
open Go.RowKit
theorem bx : Builder.Extra Tryz.prog Tryz.lays169_ren:=Tryz.Builder_Extra_169
theorem cc_used (b : Nat) (w : World) (h0 : w.cell? ⟨b,0,none⟩=some (.pointer (some ⟨b,0,none⟩))) :
  Calls Tryz.prog 225 #[.pointer (some ⟨b,0,none⟩)] w fun e w'=>e=.returned (.tuple #[])∧w'=w:=by
 obtain ⟨j,hj,_⟩:=Option.map_eq_some_iff.1 bx.sizeBuilder
 go_enter Tryz.func225,Tryz.ntmps225
 go_wp2
 rw [Lib.run_neq_ptr_same w _ Tryz.underlying239 hj]
 go_wp2
 go_end0
 exact ⟨rfl,rfl⟩
theorem cc_fresh (b : Nat) (w : World) (h0 : w.cell? ⟨b,0,none⟩=some (.pointer none)) (hsh : w.shape? b=some (241,2)) (hfz : w.frozen? ⟨b,0,none⟩=false) :
  Calls Tryz.prog 225 #[.pointer (some ⟨b,0,none⟩)] w fun e w'=>e=.returned (.tuple #[])∧w'=w.setCell ⟨b,0,none⟩ (.pointer (some ⟨b,0,none⟩)):=by
 obtain ⟨j,hj,hjs⟩:=Option.map_eq_some_iff.1 bx.sizeBuilder
 go_enter Tryz.func225,Tryz.ntmps225
 go_wp2
 rw [Lib.run_to_unsafe w ⟨b,0,none⟩ Tryz.underlying239 Tryz.underlying336 hj (by rw [hjs];decide) hsh (Nat.zero_lt_succ 1)]
 simp only [Result.andThen]
 rw [Oper.upon_value]
 go_wp2
 rw [run_callFunc_extern Tryz.func284 (by kernel_rfl) (by kernel_rfl) (by kernel_rfl) (e:=Extern.AbiNoEscape.same) (by kernel_rfl)]
 rw [Lib.run_noEscape]
 simp only [Result.andThen]
 rw [Oper.upon_value]
 go_wp2
 rw [Lib.run_from_unsafe w ⟨b,0,none⟩ Tryz.underlying336 Tryz.underlying239 hj hsh bx.liesBuilder]
 simp only [Result.andThen]
 rw [Oper.upon_value]
 go_wp2
 go_end0
 exact ⟨rfl,rfl⟩
theorem cc_any (B b : Nat) (bs : List Value) (w : World) (h : Lib.IsBuilderF 241 5 B b bs w) :
  Calls Tryz.prog 225 #[.pointer (some ⟨b,0,none⟩)] w fun e w'=>e=.returned (.tuple #[])∧(Lib.BuilderAtF 241 5 B b (.pointer (some ⟨b,0,none⟩)) bs w'∧Below B w w'):=by
 rcases h with h | h
 ·refine (cc_fresh b w h.cell0 h.shape h.frozen0).mono ?_
  rintro e w' ⟨rfl,rfl⟩
  exact ⟨rfl,h.used _,(Below.refl B w).setCell (p:=⟨b,0,none⟩) h.1 _⟩
 ·refine (cc_used b w h.cell0).mono ?_
  rintro e w' ⟨rfl,rfl⟩
  exact ⟨rfl,h,Below.refl B _⟩
theorem ws_any (B b : Nat) (bs : List Value) (s : ByteArray) (w : World) (h : Lib.IsBuilderF 241 5 B b bs w) (hlen : bs.length + s.size ≤ 140737488355328) (hBw : B ≤ w.heap.size) :
  Calls Tryz.prog 156 #[.pointer (some ⟨b,0,none⟩),.string s] w fun e w'=>e=.returned (.tuple #[.int .i64 s.size,.nilIface])∧(Lib.BuilderAtF 241 5 B b (.pointer (some ⟨b,0,none⟩)) (bs ++ Lib.strCells s) w'∧Below B w w'):=by
 obtain ⟨i0,hi,hz0,hz1,hz2⟩:=info_parts bx.infoByte
 go_enter Tryz.func156,Tryz.ntmps156
 go_wp2_with fail
 refine (cc_any B b bs _ h).mono ?_
 rintro e w1 ⟨rfl,h1,hb1⟩
 obtain ⟨hB,v,hbk,hown,hne⟩:=h1
 have c0 : w1.cell? ⟨b,0,none⟩=some (.pointer (some ⟨b,0,none⟩)):=by rw [Lib.cell_of_heap hbk];rfl
 have c1 : w1.cell? ⟨b,1,none⟩=some v:=by rw [Lib.cell_of_heap hbk];rfl
 go_wp2_with (at_builtin;refine Lib.wpList_append_own_stringF _ rfl _ _ 150 9 rfl B 5 i0 Tryz.underlying150 Tryz.underlying9 hi hz0 hz1 hz2 _ _ _ rfl hown s rfl ?c3 ?c4 ?c5 ?_)
 case c3=>unfold maxLen;omega
 case c4=>omega
 case c5=>have:=hb1.size;omega
 intro v' w2 hown' hgrow _
 have hlt : b < w1.heap.size:=by
  rcases Nat.lt_or_ge b w1.heap.size with h' | h'
  ·exact h'
  ·simp [Array.getElem?_eq_none h'] at hbk
 have hb2 : w2.heap[b]? = some (.cells #[.pointer (some ⟨b,0,none⟩),v] 241 (0,0)):=by
  rw [hgrow.block b hlt (fun e=>hne e.symm)]
  exact hbk
 have d0 : w2.cell? ⟨b,0,none⟩=some (.pointer (some ⟨b,0,none⟩)):=by rw [Lib.cell_of_heap hb2];rfl
 have d1 : w2.cell? ⟨b,1,none⟩=some v:=by rw [Lib.cell_of_heap hb2];rfl
 have f1 : w2.frozen? ⟨b,1,none⟩=false:=Lib.frozen_of_heap hb2 1
 obtain ⟨ao,n',cap,rfl⟩ : ∃ ao n' cap,v'=.slice ao n' cap:=by
  rcases hown'.2 with ⟨hv,_⟩ | ⟨g,cap,cur,fz,hv,_⟩
  ·exact ⟨_,_,_,hv⟩
  ·exact ⟨_,_,_,hv⟩
 go_wp2
 go_ret2
 refine ⟨rfl,?_,?_⟩
 ·exact Lib.BuilderAtF.put (T:=241) (e:=5) hB hb2 (bs':=bs ++ Lib.strCells s) (by simpa [Lib.strCells_length] using hown') bx.neB5
 ·exact (hb1.grown hgrow (by have:=hb1.size;omega) (fun k hk=>(hown.lt k hk).1)).setCell (p:=⟨b,1,none⟩) hB _
end Go.Proofs.YtkekohmkaefdnaaGreatDoor
namespace Go.Proofs.YtkekohmkaefdnaaGreatDoor
open Go.RowKit
section
variable {P : Program} {ops : Array Oper} {Q : Exit→Act→World→Prop}
def lowB (ops : Array Oper) : Bool:=(List.range ops.size).all fun i=>((ops[i]?).map fun o=>o.after.all fun e=>!Region.binds .any e || decide (e.on < i)).getD true
theorem ready_nil_all (hlow : lowB ops=true) {listed : Array Bool} (h : Region.ready .any ops listed=[]) : ∀ i,i < ops.size→listed.getD i true=true:=by
 intro i
 induction i using Nat.strongRecOn with
 | ind i ih=>
  intro hi
  cases hl : listed.getD i true with
  | true=>rfl
  | false=>
   exfalso
   have hmem : i ∈ Region.ready .any ops listed:=by
    unfold Region.ready
    simp only [List.mem_filter,List.mem_range,hl,Bool.not_false,Bool.true_and]
    refine ⟨hi,?_⟩
    obtain ⟨o,ho⟩ : ∃ o,ops[i]? = some o:=⟨ops[i],by simp [hi]⟩
    rw [ho]
    simp only [Option.map_some,Option.getD_some]
    have hlo:=List.all_eq_true.1 hlow i (List.mem_range.2 hi)
    rw [ho] at hlo
    simp only [Option.map_some,Option.getD_some] at hlo
    rw [Array.all_eq_true] at hlo ⊢
    intro x hx
    have h1:=hlo x hx
    simp only [Bool.or_eq_true,decide_eq_true_eq] at h1 ⊢
    rcases h1 with h1 | h1
    ·exact .inl h1
    ·right
     have h2:=ih _ h1 (by omega)
     have hl2:=hl
     by_cases hsz : (o.after[x].on) < listed.size
     ·simp [Array.getD,hsz] at h2 ⊢;exact h2
     ·by_cases hsi : i < listed.size
      ·omega
      ·simp [Array.getD,hsi] at hl2
   rw [h] at hmem
   cases hmem
theorem wpAny_inv (hlow : lowB ops=true) (I : (Nat→Bool)→Act→World→Prop)
  (hstep : ∀ i o L a w,ops[i]? = some o→L i=false→o.after.all (fun e=>!Region.binds .any e || L e.on)=true→I L a w →
   if Region.wanted o (yielded ops a.tmps)=true then Oper.wp P o a w (fun a' w'=>I (fun j=>j == i || L j) a' w') Q else I (fun j=>j == i || L j) (a.put o.dst undef) w)
  (hdone : ∀ L a w,(∀ i,i < ops.size→L i=true)→I L a w→Q .normal a w) :
  ∀ (fuel : Nat) (listed : Array Bool) (L : Nat→Bool) (a : Act) (w : World),listed.size=ops.size→(∀ i,i < ops.size→L i=listed.getD i false)→(listed.toList.filter (fun b=>!b)).length ≤ fuel→I L a w→wpAny P .any ops Q fuel listed a w:=by
 have hend : ∀ (listed : Array Bool) (L : Nat→Bool) (a : Act) (w : World),listed.size=ops.size→(∀ i,i < ops.size→L i=listed.getD i false)→Region.ready .any ops listed=[]→I L a w→Q .normal a w:=by
  intro listed L a w hs hL hr hI
  refine hdone L a w (fun i hi=>?_) hI
  have:=ready_nil_all hlow hr i hi
  rw [hL i hi]
  simp [Array.getD,hs,hi] at this ⊢
  exact this
 intro fuel
 induction fuel with
 | zero=>
  intro listed L a w hs hL hf hI
  have hr : Region.ready .any ops listed=[]:=by
   unfold Region.ready
   rw [List.filter_eq_nil_iff]
   intro i hi
   have hi':=List.mem_range.1 hi
   have : listed.getD i true=true:=by
    have h0 : listed.toList.filter (fun b=>!b)=[]:=List.length_eq_zero_iff.1 (by omega)
    rw [List.filter_eq_nil_iff] at h0
    have h1:=h0 (listed[i]'(by omega)) (by simp)
    simp [Array.getD,hs,hi'] at h1 ⊢
    exact h1
   simp [this]
  exact ⟨hr,hend listed L a w hs hL hr hI⟩
 | succ fuel ih=>
  intro listed L a w hs hL hf hI
  refine ⟨fun hr=>hend listed L a w hs hL hr hI,fun i hi=>?_⟩
  unfold Region.ready at hi
  simp only [List.mem_filter,List.mem_range,Bool.and_eq_true,Bool.not_eq_true'] at hi
  obtain ⟨hi',hun,haft⟩:=hi
  obtain ⟨o,ho⟩ : ∃ o,ops[i]? = some o:=⟨ops[i],by simp [hi']⟩
  rw [ho] at haft
  simp only [Option.map_some,Option.getD_some] at haft
  have hLi : L i=false:=by
   rw [hL i hi']
   simp [Array.getD,hs,hi'] at hun ⊢
   exact hun
  have hlo:=List.all_eq_true.1 hlow i (List.mem_range.2 hi')
  rw [ho] at hlo
  simp only [Option.map_some,Option.getD_some] at hlo
  have haft' : o.after.all (fun e=>!Region.binds .any e || L e.on)=true:=by
   rw [Array.all_eq_true] at haft hlo ⊢
   intro x hx
   have h1:=haft x hx
   have h2:=hlo x hx
   simp only [Bool.or_eq_true,decide_eq_true_eq] at h1 h2 ⊢
   rcases h1 with h1 | h1
   ·exact .inl h1
   ·rcases h2 with h2 | h2
    ·exact .inl h2
    ·right;rw [hL _ (by omega)];exact h1
  have hst:=hstep i o L a w ho hLi haft' hI
  have hlen : ((listed.setIfInBounds i true).toList.filter (fun b=>!b)).length ≤ fuel:=by
   have hget : listed.toList[i]? = some false:=by
    simp [Array.getD,hs,hi'] at hun
    simp [hs,hi',hun]
   rw [Array.toList_setIfInBounds]
   have key : ∀ (l : List Bool) (i : Nat),l[i]? = some false→((l.set i true).filter (fun b=>!b)).length + 1=(l.filter (fun b=>!b)).length:=by
    intro l
    induction l with
    | nil=>intro i h;simp at h
    | cons x xs ihl=>
     intro i h
     cases i with
     | zero=>simp at h;subst h;simp
     | succ i=>
      simp only [List.getElem?_cons_succ] at h
      have:=ihl i h
      cases x <;> simp [List.set_cons_succ] at this ⊢ <;> omega
   have:=key listed.toList i hget
   omega
  have hmono : ∀ (a' : Act) (w' : World),I (fun j=>j == i || L j) a' w'→wpAny P .any ops Q fuel (listed.setIfInBounds i true) a' w':=by
   intro a' w' hI'
   refine ih _ _ a' w' (by simp [hs]) (fun j hj=>?_) hlen hI'
   by_cases hji : j=i
   ·subst hji
    simp [Array.getD,hs,hj]
   ·have hb : (j == i)=false:=by simp [hji]
    rw [hb,Bool.false_or,hL j hj]
    simp only [Array.getD,Array.size_setIfInBounds]
    split
    ·rw [Array.getInternal_eq_getElem,Array.getInternal_eq_getElem,Array.getElem_setIfInBounds_ne _ (by omega)]
    ·rfl
  refine wpOp_mono hmono ?_
  unfold wpOp
  rw [ho]
  show if Region.wanted o (yielded ops a.tmps)=true then _ else _
  split
  ·rename_i hw;rw [if_pos hw] at hst;exact .inl hst
  ·rename_i hw;rw [if_neg hw] at hst;exact hst
theorem wp_region_inv {id : Nat} {a : Act} {w : World} (hm : P.follows .mixedOrders=true) (hlow : lowB ops=true) (I : (Nat→Bool)→Act→World→Prop)
  (h0 : I (fun _=>false) a w.drew)
  (hstep : ∀ i o L a w,ops[i]? = some o→L i=false→o.after.all (fun e=>!Region.binds .any e || L e.on)=true→I L a w →
   if Region.wanted o (yielded ops a.tmps)=true then Oper.wp P o a w (fun a' w'=>I (fun j=>j == i || L j) a' w') Q else I (fun j=>j == i || L j) (a.put o.dst undef) w)
  (hdone : ∀ L a w,(∀ i,i < ops.size→L i=true)→I L a w→Q .normal a w) : (Code.region id ops true).wp P Q a w:=by
 refine wp_region_any hm ?_
 refine wpAny_inv hlow I hstep hdone ops.size _ (fun _=>false) a _ (by simp) (fun i hi=>by simp [Array.getD,hi]) ?_ h0
 refine Nat.le_trans (List.length_filter_le _ _) ?_
 simp
def ClosedL (ops : Array Oper) (L : Nat→Bool) : Prop:=∀ j o,ops[j]? = some o→L j=true→o.after.all (fun e=>!Region.binds .any e || L e.on)=true
theorem dep_ {A : Array Edge} {L : Nat→Bool} (h : A.all (fun e=>!Region.binds .any e || L e.on)=true) (k : Nat) {j : Nat} (hk : (A[k]?).map (fun e=>(Region.binds .any e,e.on))=some (true,j)) : L j=true:=by
 obtain ⟨e,he,hp⟩:=Option.map_eq_some_iff.1 hk
 rw [Array.all_eq_true] at h
 obtain ⟨hlt,rfl⟩:=Array.getElem?_eq_some_iff.1 he
 have:=h k hlt
 simp only [Prod.mk.injEq] at hp
 obtain ⟨h1,rfl⟩:=hp
 rw [h1] at this
 simpa using this
theorem wp_region_inv2 {id : Nat} {a : Act} {w : World} (hm : P.follows .mixedOrders=true) (hlow : lowB ops=true) (I : (Nat→Bool)→Act→World→Prop)
  (h0 : I (fun _=>false) a w.drew)
  (hstep : ∀ i o L a w,ops[i]? = some o→L i=false→o.after.all (fun e=>!Region.binds .any e || L e.on)=true→ClosedL ops L→I L a w →
   if Region.wanted o (yielded ops a.tmps)=true then Oper.wp P o a w (fun a' w'=>I (fun j=>j == i || L j) a' w') Q else I (fun j=>j == i || L j) (a.put o.dst undef) w)
  (hdone : ∀ L a w,(∀ i,i < ops.size→L i=true)→I L a w→Q .normal a w) : (Code.region id ops true).wp P Q a w:=by
 refine wp_region_inv hm hlow (fun L a w=>ClosedL ops L∧I L a w) ⟨fun j o _ h=>by simp at h,h0⟩ ?_ (fun L a w h hI=>hdone L a w h hI.2)
 intro i o L a w ho hL haft ⟨hc,hI⟩
 have hc' : ClosedL ops (fun j=>j == i || L j):=by
  intro j oj hj hLj
  have key : oj.after.all (fun e=>!Region.binds .any e || L e.on)=true:=by
   simp only [Bool.or_eq_true,beq_iff_eq] at hLj
   rcases hLj with rfl | hLj
   ·rw [ho] at hj
    obtain rfl:=Option.some.inj hj
    exact haft
   ·exact hc j oj hj hLj
  rw [Array.all_eq_true] at key ⊢
  intro x hx
  have:=key x hx
  simp only [Bool.or_eq_true] at this ⊢
  rcases this with h | h
  ·exact .inl h
  ·exact .inr (.inr h)
 have hs:=hstep i o L a w ho hL haft hc hI
 by_cases hw : Region.wanted o (yielded ops a.tmps)=true
 ·rw [if_pos hw] at hs ⊢
  exact Oper.wp_mono (fun a' w' h=>⟨hc',h⟩) hs
 ·rw [if_neg hw] at hs ⊢
  exact ⟨hc',hs⟩
end
end Go.Proofs.YtkekohmkaefdnaaGreatDoor
namespace Go.Proofs.YtkekohmkaefdnaaGreatDoor
open Go.RowKit
def blankB : ByteArray:=⟨#[32,10]⟩
theorem encode_hi (r : Int) (h0 : 128 ≤ r) (hv : Utf8.valid r=true) : ∃ n : Nat,(Utf8.encode r).size=n + 2∧n ≤ 2∧∀ h : n + 1 < (Utf8.encode r).size,128 ≤ ((Utf8.encode r)[n + 1]'h).toNat:=by
 have hn : ¬ r.toNat < 128:=by omega
 have hb : ∀ m : Nat,m < 64→128 ≤ (UInt8.ofNat (128 + m)).toNat:=fun m hm=>by
  rw [UInt8.toNat_ofNat']
  omega
 unfold Utf8.encode
 simp only [hv,if_true,hn,if_false]
 split
 ·exact ⟨0,rfl,by omega,fun h=>hb _ (Nat.mod_lt _ (by omega))⟩
 ·split
  ·exact ⟨1,rfl,by omega,fun h=>hb _ (Nat.mod_lt _ (by omega))⟩
  ·exact ⟨2,rfl,by omega,fun h=>hb _ (Nat.mod_lt _ (by omega))⟩
theorem idxRune_valid (r : Int) (w : World) (h0 : 128 ≤ r) (h1 : r ≤ 1114111) (hne : r ≠ 65533) (hv : Lib.validRune r=true) (hu : Utf8.valid r=true) :
  Calls Tryz.prog 274 #[.string blankB,.int .i32 r] w fun e w'=>e=.returned (.int .i64 (-1))∧Below w.heap.size w w':=by
 obtain ⟨n,hn,hn2,hlast⟩:=encode_hi r h0 hu
 obtain ⟨rs,hrs⟩ : ∃ rs,rs=Utf8.encode r:=⟨_,rfl⟩
 rw [← hrs] at hn hlast
 have hl:=hlast (by omega)
 obtain ⟨b,hb⟩ : ∃ b,b=rs[n + 1]'(by omega):=⟨_,rfl⟩
 rw [← hb] at hl
 have HRS:=Lib.hid hrs
 clear hlast hu hrs
 have hr1 : decide (r < 128)=false:=decide_eq_false (by omega)
 have hr2 : (r == 65533)=false:=beq_eq_false_iff_ne.2 hne
 go_enter Tryz.func274,Tryz.ntmps274
 go_wp2_with (first | (go_at_call 321;refine (Tryz.utf8_ValidRune r _).mono ?_;rintro e w' ⟨rfl,hw⟩;rw [hw,hv]) | fail)
 subst hw
 have hcv : (convert 21 9 (.int .i32 r)).run Tryz.prog w'=.ok (.string rs) w':=by
  rw [HRS.out]
  exact run_convert_int_string w' 21 9 .i32 r (by rw [Tryz.underlying21];rfl) Tryz.underlying9
 go_step3
 go_wp2_with fail
 clear hcv
 have hbs : blankB.size=2:=rfl
 have hb1 : blankB[1]'(by decide)=10:=rfl
 by_cases hz : n=0
 ·subst hz
  have hs2 : rs.size=2:=hn
  have hb2 : rs[1]'(by rw [hs2];decide)=b:=hb.symm
  clear hb hn
  have hbne : ((10 : Int) != (b.toNat : Int))=true:=by
   have : ((10 : Int) == (b.toNat : Int))=false:=beq_eq_false_iff_ne.2 (by omega)
   simp [bne,this]
  have hw2 : IntKind.i64.wrap 2=2:=by decide
  have hix : Lib.indexByte ByteArray.empty.data.toList ((b.toNat : Int)).toNat.toUInt8=-1:=rfl
  go_loop [9] (fun i=>i=.int .i64 1) (fun _=>0)
  case atStart=>first | rfl | (simp;done) | (simp;omega)
  case round=>
   obtain rfl:=hrel
   go_wp2_with fail
   go_step3
   go_wp2_with fail
   go_quiet (fail)
   go_wp2
   go_quiet (first | (go_at_call 320;refine (Tryz.strings_IndexByte _ _ _).mono ?_;rintro e w2 ⟨rfl,rfl⟩;exact ⟨rfl,_,rfl⟩) | fail)
   go_wp2_with fail
   rw [Exit.noGoto_ret]
   go_simp
   simp (config:={ zetaDelta:=true }) only [Exit.then,Exit.inBlock,Exit.noGoto_ret]
   first | go_ret | trace_state
   exact ⟨rfl,rfl,rfl,rfl,Nat.le_refl _,fun _ _=>rfl⟩
 ·have hlt : ¬ ((n : Int) + 1 < 2):=by omega
  go_loop [9] (fun i=>i=.int .i64 ((n : Int) + 1)) (fun _=>0)
  case atStart=>first | rfl | (simp;done) | (simp;omega)
  case round=>
   obtain rfl:=hrel
   go_wp2
   go_ret
   exact ⟨rfl,Below.refl _ _⟩
theorem idxRune_err (w : World) : Calls Tryz.prog 274 #[.string blankB,.int .i32 65533] w fun e w'=>e=.returned (.int .i64 (-1))∧Below w.heap.size w w':=by
 have n0:=fun ty=>run_next_ascii (P:=Tryz.prog) w blankB 0 ty (by decide) (by decide)
 have n1:=fun ty=>run_next_ascii (P:=Tryz.prog) w blankB 1 ty (by decide) (by decide)
 have n2:=fun ty=>run_next_end (P:=Tryz.prog) w blankB 2 ty (by decide)
 go_enter Tryz.func274,Tryz.ntmps274
 go_wp2
 go_loopg [5,6] 2 (fun g _ _ wx=>∃ i : Nat,i + g=2∧wx=w.iter blankB i)
 case atStart=>exact ⟨0,by omega,rfl⟩
 case round=>
  obtain ⟨i,hig,rfl⟩:=hrel
  cases gk with
  | zero=>
   obtain rfl : i=2:=by omega
   go_wp2
   go_ret
   exact ⟨rfl,(Below.refl _ w).alloc (Nat.le_refl _) _⟩
  | succ g=>
   have hi : i=0 ∨ i=1:=by omega
   rcases hi with rfl | rfl
   ·go_wp2
    go_roundg g
    case measure=>omega
    case rel=>exact ⟨1,by omega,rfl⟩
   ·go_wp2
    go_roundg g
    case measure=>omega
    case rel=>exact ⟨2,by omega,rfl⟩
theorem decN_hi (n b0 b1 b2 b3 : Nat) (hn : 1 ≤ n) (h : 128 ≤ b0) : 128 ≤ (Lib.decodeN n b0 b1 b2 b3).1∧(Lib.decodeN n b0 b1 b2 b3).1 ≤ 1114111∧((Lib.decodeN n b0 b1 b2 b3).1 < 55296 ∨ 57343 < (Lib.decodeN n b0 b1 b2 b3).1) ∧
  1 ≤ (Lib.decodeN n b0 b1 b2 b3).2∧(Lib.decodeN n b0 b1 b2 b3).2 ≤ n∧(Lib.decodeN n b0 b1 b2 b3).2 ≤ 4∧(2 ≤ (Lib.decodeN n b0 b1 b2 b3).2→128 ≤ b1)∧(3 ≤ (Lib.decodeN n b0 b1 b2 b3).2→128 ≤ b2)∧(4 ≤ (Lib.decodeN n b0 b1 b2 b3).2→128 ≤ b3):=by
 unfold Lib.decodeN
 rw [if_neg (by omega)]
 repeat' split
 all_goals (simp only;omega)
def hasBlank (s : ByteArray) : Bool:=s.data.toList.any fun b=>b == 32 || b == 10
def noBl (s : ByteArray) (i : Nat) : Prop:=∀ q,q < i→s.data.toList.getD q 0 ≠ 32∧s.data.toList.getD q 0 ≠ 10
theorem getD_of (s : ByteArray) (i : Nat) (h : i < s.size) : s.data.toList.getD i 0=s[i]'h:=by
 have hl : i < s.data.toList.length:=by rw [← Lib.size_eq];exact h
 rw [List.getD_eq_getElem?_getD,List.getElem?_eq_getElem hl]
 rfl
theorem get!_of (s : ByteArray) (i : Nat) (h : i < s.size) : s.get! i=s[i]'h:=by
 simp [ByteArray.get!,getElem!_pos,h]
 rfl
theorem hasBlank_no {s : ByteArray} (h : noBl s s.size) : hasBlank s=false:=by
 unfold hasBlank
 rw [List.any_eq_false]
 intro x hx
 obtain ⟨j,hj,rfl⟩:=List.getElem_of_mem hx
 have hs : j < s.size:=by rw [Lib.size_eq];exact hj
 have h1:=h j hs
 rw [List.getD_eq_getElem?_getD,List.getElem?_eq_getElem hj] at h1
 simp only [Option.getD_some] at h1
 intro hh
 simp only [Bool.or_eq_true,beq_iff_eq] at hh
 rcases hh with hh | hh
 ·exact h1.1 hh
 ·exact h1.2 hh
theorem hasBlank_yes {s : ByteArray} {i : Nat} (hi : i < s.size) (h : s[i]'hi=32 ∨ s[i]'hi=10) : hasBlank s=true:=by
 have hl : i < s.data.toList.length:=by rw [← Lib.size_eq];exact hi
 unfold hasBlank
 rw [List.any_eq_true]
 refine ⟨s.data.toList[i],List.getElem_mem hl,?_⟩
 have e : s.data.toList[i]=s[i]'hi:=rfl
 rw [e]
 rcases h with h | h <;> simp [h]
theorem noBl_succ {s : ByteArray} {i : Nat} (h : noBl s i) (hi : i < s.size) (h1 : s[i]'hi ≠ 32) (h2 : s[i]'hi ≠ 10) : noBl s (i + 1):=by
 intro q hq
 by_cases e : q=i
 ·subst e
  rw [getD_of s q hi]
  exact ⟨h1,h2⟩
 ·exact h q (by omega)
theorem ix_blank (b : UInt8) : Lib.indexByte blankB.data.toList b=if b=32 then 0 else if b=10 then 1 else -1:=by
 show Lib.indexByte [32,10] b=_
 by_cases h1 : b=32
 ·subst h1;rfl
 ·by_cases h2 : b=10
  ·subst h2;rfl
  ·simp [Lib.indexByte,h1,h2,Ne.symm h1,Ne.symm h2]
theorem dec_bytes (s : ByteArray) (i : Nat) (hi : i < s.size) (hb : 128 ≤ (s[i]'hi).toNat) (hn : noBl s i) :
  128 ≤ (Utf8.decode s i).1∧(Utf8.decode s i).1 ≤ 1114111∧((Utf8.decode s i).1 < 55296 ∨ 57343 < (Utf8.decode s i).1)∧1 ≤ (Utf8.decode s i).2∧i + (Utf8.decode s i).2 ≤ s.size∧noBl s (i + (Utf8.decode s i).2):=by
 have hd:=Lib.decode_at s i
 have hg:=get!_of s i hi
 have H:=decN_hi (s.size - i) (s.get! i).toNat (s.get! (i + 1)).toNat (s.get! (i + 2)).toNat (s.get! (i + 3)).toNat (by omega) (by rw [hg];exact hb)
 rw [← hd] at H
 obtain ⟨a1,a2,a3,a4,a5,a6,a7,a8,a9⟩:=H
 refine ⟨a1,a2,a3,a4,by omega,fun q hq=>?_⟩
 have hi_ : ∀ j,j < s.size→128 ≤ (s.get! j).toNat→s.data.toList.getD j 0 ≠ 32∧s.data.toList.getD j 0 ≠ 10:=fun j hj h=>by
  rw [getD_of s j hj,← get!_of s j hj]
  constructor <;> (intro e;rw [e] at h;exact absurd h (by decide))
 by_cases e : q < i
 ·exact hn q e
 ·by_cases e0 : q=i
  ·subst e0;exact hi_ q (by omega) (by rw [hg];exact hb)
  ·by_cases e1 : q=i + 1
   ·subst e1;exact hi_ (i + 1) (by omega) (a7 (by omega))
   ·by_cases e2 : q=i + 2
    ·subst e2;exact hi_ (i + 2) (by omega) (a8 (by omega))
    ·obtain rfl : q=i + 3:=by omega
     exact hi_ (i + 3) (by omega) (a9 (by omega))
theorem below_iterAt {B : Nat} {w w' : World} (h : Below B w w') (k : Nat) (hk : B ≤ k) (s : ByteArray) (p : Nat) : Below B w (w'.iterAt k s p):=by
 obtain ⟨h1,h2,h3,h4,h5⟩:=h
 refine ⟨h1,h2,h3,by simpa [World.iterAt] using h4,fun j hj=>?_⟩
 have hne : k ≠ j:=by omega
 have : (w'.iterAt k s p).heap[j]? = w'.heap[j]? := by simp [World.iterAt,hne]
 rw [this]
 exact h5 j hj
theorem idxAny_short (s : ByteArray) (w : World) (h8 : s.size ≤ 8) :
  Calls Tryz.prog 214 #[.string s,.string blankB] w fun e w'=>(∃ r : Int,e=.returned (.int .i64 r)∧decide (0 ≤ r)=hasBlank s)∧Below w.heap.size w w':=by
 have hemp : blankB.toList.isEmpty=false:=by rw [Lib.toList_data];rfl
 have hbs : blankB.size=2:=rfl
 have h8z : decide ((8 : Int) < (s.size : Int))=false:=decide_eq_false (by omega)
 go_enter Tryz.func214,Tryz.ntmps214
 go_wp2_with (go_at_call 275;refine (Tryz.strings_shouldUseASCIISet _ _).mono ?_;rintro e w' ⟨rfl,hw⟩;rw [hw,h8z])
 go_loopg [9,10] s.size (fun g _ _ wx=>∃ i : Nat,i ≤ s.size∧s.size - i ≤ g∧Aside (wx.heap[w.heap.size]? = some (.stringIter s i))∧Aside (Below w.heap.size w wx)∧Aside (noBl s i))
 case atStart=>exact ⟨0,Nat.zero_le _,by omega,(by show (w.iter s 0).heap[w.heap.size]? = _;simp [World.iter_heap]),(Below.refl _ w).alloc (Nat.le_refl _) _,fun q hq=>absurd hq (Nat.not_lt_zero q)⟩
 case round=>
  obtain ⟨i,hi,hg,hk,hB,hno⟩:=hrel
  by_cases hlt : i < s.size
  ·obtain ⟨gk,rfl⟩ : ∃ g,gk=g + 1:=⟨gk - 1,by omega⟩
   obtain ⟨b,hb⟩ : ∃ b,b=s[i]'hlt:=⟨_,rfl⟩
   have hnx:=fun ty=>Lib.run_next_any_at (P:=Tryz.prog) wr w.heap.size s i ty hk.out hlt
   by_cases hhi : 128 ≤ b.toNat
   ·obtain ⟨a1,a2,a3,a4,a5,a6⟩:=dec_bytes s i hlt (by rw [← hb];exact hhi) hno.out
    generalize (Utf8.decode s i).1=rn at hnx a1 a2 a3
    generalize (Utf8.decode s i).2=wd at hnx a4 a5 a6
    have hx : Hid (∀ W,Calls Tryz.prog 274 #[.string blankB,.int .i32 (rn : Int)] W fun e w'=>e=.returned (.int .i64 (-1))∧Below W.heap.size W w'):=Lib.hid fun W=>by
     by_cases e : rn=65533
     ·subst e;exact idxRune_err W
     ·exact idxRune_valid rn W (by omega) (by omega) (by omega) (by unfold Lib.validRune;exact decide_eq_true (by omega)) (by unfold Utf8.valid;simp;omega)
    have hB2:=Lib.hid (below_iterAt hB.out w.heap.size (Nat.le_refl _) s (i + wd))
    have hk2:=Lib.hid (Lib.iterAt_heap wr w.heap.size s i (i + wd) hk.out)
    have A6:=Lib.hid a6
    clear a6 a3 a1 a2 hno hhi hb
    go_wp2_with (go_at_call 274;refine (hx.out _).mono ?_;rintro e w2 ⟨rfl,hb2⟩;have HB3:=Lib.hid (hB2.out.trans (hb2.mono (by have:=hB2.out.size;omega)));have HK3:=Lib.hid ((hb2.block w.heap.size (Array.getElem?_eq_some_iff.1 hk2.out).1).trans hk2.out);clear hb2)
    go_roundg gk
    case measure=>omega
    case rel=>exact ⟨i + wd,a5,by omega,HK3.out,HB3.out,A6.out⟩
   ·have hnx2:=fun ty=>Lib.run_next_ascii_at (P:=Tryz.prog) wr w.heap.size s i ty hk.out hlt (by rw [← hb];omega)
    clear hnx
    simp only [← hb] at hnx2
    have hB2:=Lib.hid (below_iterAt hB.out w.heap.size (Nat.le_refl _) s (i + 1))
    have hk2:=Lib.hid (Lib.iterAt_heap wr w.heap.size s i (i + 1) hk.out)
    have hx : Hid (∀ W,Calls Tryz.prog 274 #[.string blankB,.int .i32 (b.toNat : Int)] W fun e w'=>e=.returned (.int .i64 (if b=32 then 0 else if b=10 then 1 else -1))∧w'=W):=Lib.hid fun W=>by
     have h:=Tryz.strings_IndexRune_ascii blankB (b.toNat : Int) W (by omega) (by omega)
     rw [show ((b.toNat : Int)).toNat.toUInt8=b by simp,ix_blank] at h
     exact h
    have HN:=Lib.hid hno.out
    clear hno
    by_cases h1 : b=32
    ·have hy:=Lib.hid (hasBlank_yes hlt (.inl (by rw [← hb];exact h1)))
     rw [if_pos h1] at hx
     clear hb h1 hhi
     go_wp2_with (go_at_call 274;refine (hx.out _).mono ?_;rintro e w2 ⟨rfl,rfl⟩)
     go_ret
     exact ⟨⟨(i : Int),rfl,by rw [hy.out];exact decide_eq_true (by omega)⟩,hB2.out⟩
    ·rw [if_neg h1] at hx
     by_cases h2 : b=10
     ·have hy:=Lib.hid (hasBlank_yes hlt (.inr (by rw [← hb];exact h2)))
      rw [if_pos h2] at hx
      clear hb h1 h2 hhi
      go_wp2_with (go_at_call 274;refine (hx.out _).mono ?_;rintro e w2 ⟨rfl,rfl⟩)
      go_ret
      exact ⟨⟨(i : Int),rfl,by rw [hy.out];exact decide_eq_true (by omega)⟩,hB2.out⟩
     ·rw [if_neg h2] at hx
      have hs:=Lib.hid (noBl_succ HN.out hlt (by rw [← hb];exact h1) (by rw [← hb];exact h2))
      clear hb h1 h2 hhi
      go_wp2_with (go_at_call 274;refine (hx.out _).mono ?_;rintro e w2 ⟨rfl,rfl⟩)
      go_roundg gk
      case measure=>omega
      case rel=>exact ⟨i + 1,by omega,by omega,hk2.out,hB2.out,hs.out⟩
  ·obtain rfl : i=s.size:=by omega
   have hnx:=fun ty=>Lib.run_next_end_at (P:=Tryz.prog) wr w.heap.size s s.size ty hk.out (Nat.lt_irrefl _)
   go_wp2
   go_ret
   exact ⟨⟨-1,rfl,by rw [hasBlank_no hno.out];rfl⟩,hB.out⟩
theorem idxAny_long (s : ByteArray) (w : World) (h8 : 8 < s.size) (hs : s.size ≤ 9223372036854775807) :
  Calls Tryz.prog 214 #[.string s,.string blankB] w fun e w'=>(∃ r : Int,e=.returned (.int .i64 r)∧decide (0 ≤ r)=hasBlank s)∧Below w.heap.size w w':=by
 have hz:=zero_of_info (P:=Tryz.prog) (t:=330) (v:=.agg (Array.replicate 256 (.bool false))) (n:=256) (by kernel_rfl)
 have hasc : ∀ (j : Nat) b,blankB.data.toList[j]? = some b→b.toNat < 128:=fun j b hb=>(by decide +kernel : ∀ x ∈ blankB.data.toList,x.toNat < 128) b (List.mem_of_getElem? hb)
 have hM:=Lib.hid fun W=>Tryz.strings_makeASCIISet hz.1 blankB W (by decide) hasc
 have hemp : blankB.toList.isEmpty=false:=by rw [Lib.toList_data];rfl
 have hbs : blankB.size=2:=rfl
 have h8z : decide ((8 : Int) < (s.size : Int))=true:=decide_eq_true (by omega)
 have hsc : ∀ W : World,(storeCells ⟨W.heap.size,0,none⟩ (Lib.setCells blankB.data.toList).toList 0).run Tryz.prog (W.alloc (.cells (Array.replicate 256 (.bool false)) 330))=.ok () (W.alloc (.cells (Lib.setCells blankB.data.toList) 330)):=fun W=>by
  have:=run_storeCells_new (P:=Tryz.prog) W 330 (Array.replicate 256 (.bool false)) (Lib.setCells blankB.data.toList) (by rw [Lib.setCells_size];exact hz.2) (by rw [Lib.setCells_size,Array.size_replicate]) (Lib.setCells_one _)
  simpa using this
 go_enter Tryz.func214,Tryz.ntmps214
 go_wp2_with (first | (go_at_call 275;refine (Tryz.strings_shouldUseASCIISet _ _).mono ?_;rintro e w' ⟨rfl,hw⟩;rw [hw,h8z]) | (go_at_call 276;refine (hM.out _).mono ?_;rintro e w' ⟨rfl,hw⟩;rw [hw]))
 have h2:=hsc (w.alloc (.cells (Lib.setCells blankB.data.toList) 330))
 rw [show (w.alloc (.cells (Lib.setCells blankB.data.toList) 330)).heap.size=w.heap.size + 1 by simp] at h2
 simp only [Result.andThen,h2]
 rw [Oper.upon_skip]
 clear hsc h2 hM hz hasc
 have HC : Hid (∀ x : UInt8,((w.alloc (.cells (Lib.setCells blankB.data.toList) 330)).alloc (.cells (Lib.setCells blankB.data.toList) 330)).cell? ⟨w.heap.size + 1,x.toNat,none⟩=some (.bool (blankB.data.toList.contains x))):=Lib.hid fun x=>by
  rw [World.cell?_alloc_at _ _ _ _ (by simp),Lib.setCells_at]
 have hB:=Lib.hid (((Below.refl w.heap.size w).alloc (Nat.le_refl _) (.cells (Lib.setCells blankB.data.toList) 330)).alloc (by simp) (.cells (Lib.setCells blankB.data.toList) 330))
 generalize (w.alloc (.cells (Lib.setCells blankB.data.toList) 330)).alloc (.cells (Lib.setCells blankB.data.toList) 330)=W at HC hB ⊢
 go_wp2_with fail
 go_loop [8] (fun v=>∃ i : Nat,i ≤ s.size∧v=.int .i64 i∧noBl s i) (fun v=>s.size - (intOf v).toNat)
 case atStart=>exact ⟨0,Nat.zero_le _,rfl,fun q hq=>absurd hq (Nat.not_lt_zero q)⟩
 case round=>
  obtain ⟨i,hi,rfl,hno⟩:=hrel
  have HN:=Lib.hid hno
  clear hno
  by_cases hlt : i < s.size
  ·obtain ⟨b,hb⟩ : ∃ b,s[i]'hlt=b:=⟨_,rfl⟩
   have hcx:=HC.out b
   by_cases hin : b=32 ∨ b=10
   ·have hc : blankB.data.toList.contains b=true:=by rcases hin with rfl | rfl <;> decide
    have hy:=Lib.hid (hasBlank_yes hlt (by rw [hb];exact hin))
    rw [hc] at hcx
    have hcon:=Lib.hid (fun W2 (h : W2=W)=>Tryz.asciiSet_contains (w.heap.size + 1) b true W2 (by rw [h];exact hcx))
    clear hcx hin hc
    go_wp2_with (go_at_call 277;refine (hcon.out _ rfl).mono ?_;rintro e w2 ⟨rfl,rfl⟩)
    go_ret
    exact ⟨⟨(i : Int),rfl,by rw [hy.out];exact decide_eq_true (by omega)⟩,hB.out⟩
   ·have hc : blankB.data.toList.contains b=false:=by
     show [32,10].contains b=false
     have h1 : b ≠ 32:=fun h=>hin (.inl h)
     have h2 : b ≠ 10:=fun h=>hin (.inr h)
     simp [h1,h2]
    have hs:=Lib.hid (noBl_succ HN.out hlt (by rw [hb];exact fun h=>hin (.inl h)) (by rw [hb];exact fun h=>hin (.inr h)))
    rw [hc] at hcx
    have hcon:=Lib.hid (fun W2 (h : W2=W)=>Tryz.asciiSet_contains (w.heap.size + 1) b false W2 (by rw [h];exact hcx))
    clear hcx hin hc
    go_wp2_with (go_at_call 277;refine (hcon.out _ rfl).mono ?_;rintro e w2 ⟨rfl,rfl⟩)
    go_round
    case rel=>exact ⟨i + 1,by omega,by go_num,hs.out⟩
    case measure=>simp [intOf];omega
  ·obtain rfl : i=s.size:=by omega
   go_wp2
   go_ret
   exact ⟨⟨-1,rfl,by rw [hasBlank_no HN.out];rfl⟩,hB.out⟩
theorem containsAny_any (s : ByteArray) (w : World) (hs : s.size ≤ 9223372036854775807) :
  Calls Tryz.prog 143 #[.string s,.string blankB] w fun e w'=>e=.returned (.bool (hasBlank s))∧Below w.heap.size w w':=by
 have h : Hid (∀ W,Calls Tryz.prog 214 #[.string s,.string blankB] W fun e w'=>(∃ r : Int,e=.returned (.int .i64 r)∧decide (0 ≤ r)=hasBlank s)∧Below W.heap.size W w'):=Lib.hid fun W=>by
  by_cases h8 : s.size ≤ 8
  ·exact idxAny_short s W h8
  ·exact idxAny_long s W (by omega) hs
 go_enter Tryz.func143,Tryz.ntmps143
 go_wp2_with (go_at_call 214;refine (h.out _).mono ?_;rintro e w' ⟨⟨r,rfl,hr⟩,hb⟩)
 go_ret
 exact ⟨by rw [← hr];rfl,hb⟩
end Go.Proofs.YtkekohmkaefdnaaGreatDoor
namespace Go.Proofs.YtkekohmkaefdnaaGreatDoor
open Go Go.Lib
theorem ba_of {a : ByteArray} {l : List UInt8} (h : a.data.toList=l) : a=⟨l.toArray⟩:=by
 subst h
 rfl
end Go.Proofs.YtkekohmkaefdnaaGreatDoor
namespace Go.Proofs.YtkekohmkaefdnaaGreatDoor
open Go.RowKit Go.Proofs.YtkekohmkaefdnaaGreatDoorW.PrintWords Go.Proofs.YtkekohmkaefdnaaGreatDoorW.PrintLast
def strings_Join.f (l0 : List ByteArray) (a1 : ByteArray) : Option ByteArray:=if 0 < l0.length∧l0.length ≤ 140737488355328∧(Lib.join (l0.map (·.data.toList)) a1.data.toList).length ≤ 140737488355328 then some ⟨(Lib.join (l0.map (·.data.toList)) a1.data.toList).toArray⟩ else none
theorem addr_of_C {w : World} {A : Option Addr} {n : Nat} {xs : List ByteArray} (hC : Kd.C Kd.string w A n xs) (h0 : 0 < n) : ∃ b o,A=some ⟨b,o,none⟩∧b < w.heap.size∧∀ (j : Nat) x,xs[j]? = some x→w.cell? ⟨b,o + j,none⟩=some (.string x):=by
 have hl : xs.length=n:=hC.1
 obtain ⟨ad,e,hx⟩:=Kd.at_string hC 0 (Int.le_refl 0) (by omega)
 obtain ⟨b,o,s⟩:=ad
 have hs : s=none:=by
  cases s with
  | none=>rfl
  | some q=>
   exfalso
   simp only [World.cell?,Addr.add] at hx
   split at hx <;> simp at hx
 subst hs
 refine ⟨b,o,e,World.block_lt_of_cell? w _ hx,fun j x hj=>?_⟩
 obtain ⟨hlt,hjx⟩:=List.getElem?_eq_some_iff.1 hj
 obtain ⟨ad',e',hx'⟩:=Kd.at_string hC (j : Int) (by omega) (by omega)
 have e2:=e.symm.trans e'
 injection e2 with e2
 subst e2
 have hr : rdOf ByteArray.empty xs (j : Int)=x:=by simp [rdOf,List.getD,hlt,hjx]
 rw [hr] at hx'
 cases j with
 | zero=>simpa [Addr.add] using hx'
 | succ j=>simpa [Addr.add] using hx'
theorem strings_Join.calls (A0 : Option Addr) (c0 : Nat) (l0 : List ByteArray) (a1 : ByteArray) (r : ByteArray) (w : World) (hr0 : Kd.C Kd.string w A0 l0.length l0) (hc0 : l0.length ≤ c0) (h : strings_Join.f l0 a1=some r) :
  Calls Tryz.prog 145 #[.slice A0 l0.length c0,.string a1] w fun e w'=>e=.returned (.string r)∧Below w.heap.size w w':=by
 unfold strings_Join.f at h
 split at h
 ·rename_i hc
  obtain rfl:=Option.some.inj h
  obtain ⟨b,o,rfl,hb,hx⟩:=addr_of_C hr0 hc.1
  exact Tryz.strings_Join b o c0 l0 a1 w hx hb hc.2.1 hc0 hc.2.2
 ·cases h
def strings_ContainsAny.f (a0 a1 : ByteArray) : Option Bool:=if a0.size ≤ 9223372036854775807∧a1=⟨#[32,10]⟩ then some (hasBlank a0) else none
theorem strings_ContainsAny.calls (a0 a1 : ByteArray) (r : Bool) (w : World) (h : strings_ContainsAny.f a0 a1=some r) :
  Calls Tryz.prog 143 #[.string a0,.string a1] w fun e w'=>e=.returned (.bool r)∧Below w.heap.size w w':=by
 unfold strings_ContainsAny.f at h
 split at h
 ·rename_i hc
  obtain rfl:=Option.some.inj h
  rw [hc.2]
  exact containsAny_any a0 w hc.1
 ·cases h
def strings_Split.f (a0 a1 : ByteArray) : Option (List ByteArray):=if a0.size < 4294967281∧1 ≤ a1.size then some (Lib.splitB a1 0 (Lib.countB a0 a1) a0) else none
theorem strings_Split.calls (a0 a1 : ByteArray) (r : List ByteArray) (w : World) (h : strings_Split.f a0 a1=some r) (hLd : Laid w) :
  Calls Tryz.prog 76 #[.string a0,.string a1] w fun e w'=>∃ v0_ : Value,e=.returned v0_∧Kd.R Kd.string 9 w' w.heap.size (fun _=>True) v0_ r∧Below w.heap.size w w':=by
 unfold strings_Split.f at h
 split at h
 ·rename_i hc
  obtain rfl:=Option.some.inj h
  obtain ⟨m,hm⟩:=hLd.2
  have hlen:=Lib.splitB_all a1 hc.2 0 _ a0 rfl
  refine (Tryz.strings_Split a0 a1 m w hc.1 hm hc.2).mono ?_
  rintro e w' ⟨rfl,rfl⟩
  refine ⟨_,rfl,?_,(Below.refl _ w).alloc (Nat.le_refl _) _⟩
  have hle:=Lib.countB_le a1 hc.2 a0.size a0 (Nat.le_refl _)
  have ho:=World.ownsRow_lit (base:=w.heap.size) (e:=9) (size:=1) w ((Lib.splitB a1 0 (Lib.countB a0 a1) a0).map Value.string).toArray (Lib.countB a0 a1 + 1) (Nat.le_refl _) (by unfold maxLen;omega) (by simp [hlen])
  refine Kd.R_of_own ?_ (fun _ _=>trivial)
  rw [hlen]
  exact ho
 ·cases h
end Go.Proofs.YtkekohmkaefdnaaGreatDoor
namespace Go.Proofs.YtkekohmkaefdnaaGreatDoor.Pa
open Go.RowKit Go.Proofs.YtkekohmkaefdnaaGreatDoorW.PrintWords Go.Proofs.YtkekohmkaefdnaaGreatDoorW.PrintLast Go.Proofs.YtkekohmkaefdnaaGreatDoorW.PrintMore
attribute [local go_sem] max2_int min2_int max_two min_two max_three min_three max_four min_four
set_option linter.unusedSimpArgs false
def errW : Option Int→Value
 | none=>.nilIface
 | some c=>.iface 0 (.int .i64 c)
theorem errW_none : errW none=.nilIface:=rfl
theorem errW_some (c : Int) : errW (some c)=.iface 0 (.int .i64 c):=rfl
theorem info4 : (Tryz.prog.info? 4).map (fun i=>(i.zero,i.size,i.bytes))=some (some (.bool false),1,1):=by kernel_rfl
theorem info294 : (Tryz.prog.info? 294).map (fun i=>(i.zero,i.size,i.bytes))=some (some (.agg #[(.int .u8 0),(.int .u8 0)]),2,2):=by kernel_rfl
/-! #### struct type 294 -/
structure S294 where
 f0 : Int
 f1 : Int
def z294 : S294:=⟨(0 : Int),(0 : Int)⟩
def k294 : Kd S294:=Kd.iso (Kd.pair (Kd.int .u8) (Kd.int .u8)) (fun x : S294=>(x.f0,x.f1))
theorem k294_open {w : World} {x : S294} {cs : List Value} (h : k294.K w x cs) : cs=[.int .u8 x.f0,.int .u8 x.f1]:=by
 obtain ⟨_,_,rfl,rfl,rfl⟩:=h
 exact rfl
theorem k294_mkM (w : World) (base : Nat) (ok : Nat→Prop) (x : S294)  : k294.M w base ok x [.int .u8 x.f0,.int .u8 x.f1]:=⟨[.int .u8 x.f0],[.int .u8 x.f1],rfl,rfl,rfl⟩
def rd_T294 (xs : List S294) (i : Int) : S294:=xs.getD i.toNat z294
theorem at_T294 {w : World} {A : Option Addr} {n : Nat} {xs : List S294} (h : Kd.C k294 w A n xs) (i : Int) (h0 : 0 ≤ i) (h1 : i < n) : ∃ ad ,A=some ad∧w.cell? (ad.add (i.toNat * 2))=some (.int .u8 (rd_T294 xs i).f0)∧w.cell? ⟨(ad.add (i.toNat * 2)).block,(ad.add (i.toNat * 2)).off + 1,none⟩=some (.int .u8 (rd_T294 xs i).f1):=by
 obtain ⟨ad,c,e,_,hK,hc0⟩:=Kd.C_get h z294 i h0 h1
 have hc : ∀ j u,c[j]? = some u→w.cell? (ad.add (i.toNat * 2 + j))=some u:=hc0
 obtain rfl:=k294_open hK
 exact ⟨ad,e,hc 0 _ rfl,by rw [← add_field _ _ 1 (by omega)];exact hc 1 _ rfl⟩
/-! #### struct type 145 -/
structure S145 where
 f0 : Bool
 f1 : ByteArray
 f2 : Int
 f3 : ByteArray
def z145 : S145:=⟨false,(⟨#[]⟩ : ByteArray),(0 : Int),(⟨#[]⟩ : ByteArray)⟩
def k145 : Kd S145:=Kd.iso (Kd.pair Kd.bool (Kd.pair Kd.string (Kd.pair (Kd.int .i64) Kd.string))) (fun x : S145=>(x.f0,x.f1,x.f2,x.f3))
theorem k145_open {w : World} {x : S145} {cs : List Value} (h : k145.K w x cs) : cs=[.bool x.f0,.string x.f1,.int .i64 x.f2,.string x.f3]:=by
 obtain ⟨_,_,rfl,rfl,⟨_,_,rfl,rfl,⟨_,_,rfl,rfl,rfl⟩⟩⟩:=h
 exact rfl
theorem k145_mkM (w : World) (base : Nat) (ok : Nat→Prop) (x : S145)  : k145.M w base ok x [.bool x.f0,.string x.f1,.int .i64 x.f2,.string x.f3]:=⟨[.bool x.f0],[.string x.f1,.int .i64 x.f2,.string x.f3],rfl,rfl,⟨[.string x.f1],[.int .i64 x.f2,.string x.f3],rfl,rfl,⟨[.int .i64 x.f2],[.string x.f3],rfl,rfl,rfl⟩⟩⟩
def rd_T145 (xs : List S145) (i : Int) : S145:=xs.getD i.toNat z145
theorem at_T145 {w : World} {A : Option Addr} {n : Nat} {xs : List S145} (h : Kd.C k145 w A n xs) (i : Int) (h0 : 0 ≤ i) (h1 : i < n) : ∃ ad ,A=some ad∧w.cell? (ad.add (i.toNat * 4))=some (.bool (rd_T145 xs i).f0)∧w.cell? ⟨(ad.add (i.toNat * 4)).block,(ad.add (i.toNat * 4)).off + 1,none⟩=some (.string (rd_T145 xs i).f1)∧w.cell? ⟨(ad.add (i.toNat * 4)).block,(ad.add (i.toNat * 4)).off + 2,none⟩=some (.int .i64 (rd_T145 xs i).f2)∧w.cell? ⟨(ad.add (i.toNat * 4)).block,(ad.add (i.toNat * 4)).off + 3,none⟩=some (.string (rd_T145 xs i).f3):=by
 obtain ⟨ad,c,e,_,hK,hc0⟩:=Kd.C_get h z145 i h0 h1
 have hc : ∀ j u,c[j]? = some u→w.cell? (ad.add (i.toNat * 4 + j))=some u:=hc0
 obtain rfl:=k145_open hK
 exact ⟨ad,e,hc 0 _ rfl,by rw [← add_field _ _ 1 (by omega)];exact hc 1 _ rfl,by rw [← add_field _ _ 2 (by omega)];exact hc 2 _ rfl,by rw [← add_field _ _ 3 (by omega)];exact hc 3 _ rfl⟩
end Go.Proofs.YtkekohmkaefdnaaGreatDoor.Pa
