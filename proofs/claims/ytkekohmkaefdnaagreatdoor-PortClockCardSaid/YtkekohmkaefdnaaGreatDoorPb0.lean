import Derived.Test.YtkekohmkaefdnaaGreatDoorPa0
import Derived.Test.YtkekohmkaefdnaaGreatDoorRight
import Derived.Test.YtkekohmkaefdnaaGreatDoorShelf
import Derived.WalkKit
import Derived.WalkSpells
import Derived.WalkLawsBesides
import Derived.Laws.BytesArg
import Derived.Laws.MakeOwn
import Derived.Laws.Rows
import Derived.Lib.ConvBytes
import Derived.OneCell
import Derived.Test.YtkekohmkaefdnaaGreatDoorProg
import Derived.Below
import Derived.Deep.Draws
import Derived.Deep.AppendLies
import Derived.Maps.AppendAt
import Derived.OwnWalk
import Derived.Laws.OwnMore
import Derived.Deep.OwnRows
import Derived.Tactics
import Derived.Laws.Slices
import Derived.KernelRfl
import Derived.RowKit3
import Derived.Deep.LoopGhost
import Derived.Deep.QuietTactic
import Derived.BigQuiet
import Derived.WideLaws
import Derived.Deep.DeepCutAuto
import Derived.Deep.CutBlock
import Derived.Deep.RegionHeld3
import Derived.Lib.AppendStr
import Derived.ArgAppend
import Derived.Laws.IdiomCopy
import Derived.OrdersHeld
import Derived.Laws.BitsLemmas
import Derived.RowKit
import Derived.Test.YtkekohmkaefdnaaGreatDoorWWords
import Derived.Test.YtkekohmkaefdnaaGreatDoorWLast
import Derived.Test.YtkekohmkaefdnaaGreatDoorWTab
import Derived.Test.YtkekohmkaefdnaaGreatDoorWEqStruct
import Derived.Test.YtkekohmkaefdnaaGreatDoorWRepsOne
import Derived.Test.YtkekohmkaefdnaaGreatDoorWGuard
import Derived.Test.YtkekohmkaefdnaaGreatDoorWMore
set_option linter.unusedSimpArgs false
set_option linter.unusedVariables false
set_option maxHeartbeats 1600000
set_option maxRecDepth 100000
namespace Go.Proofs.YtkekohmkaefdnaaGreatDoor
open Go.RowKit Go.Proofs.YtkekohmkaefdnaaGreatDoorW.PrintWords Go.Proofs.YtkekohmkaefdnaaGreatDoorW.PrintLast
def clsL : List ByteArray:=(Lib.fields nameText.data.toList).map fun x=>(⟨x.toArray⟩ : ByteArray)
theorem nameVals_cls : nameVals=clsL.map Value.string:=by simp [nameVals,clsL]
theorem clsL_length : clsL.length=4:=by simp [clsL,nameFields_length]
theorem index_cls {W : World} {b g cap : Nat} (ho : W.ownsRow b 9 1 (.slice (some ⟨g,0,none⟩) 4 cap) 4 nameVals) (x : ByteArray) :
  Calls Tryz.prog 109 #[.slice (some ⟨g,0,none⟩) 4 cap,.string x] W fun e w'=>e=.returned (.int .i64 (Lib.idxOfS clsL x))∧w'=W:=by
 have h:=Tryz.slices_Index_string g 0 4 cap clsL x W (by rw [clsL_length];exact Nat.le_refl _) (by decide) (by
  intro j hj
  rw [clsL_length] at hj
  have hc:=ho.cellAt j (by omega)
  rw [Nat.zero_add,hc,nameVals_cls,List.getElem?_map,List.getElem?_eq_getElem (by rw [clsL_length];exact hj),List.getD_eq_getElem?_getD,List.getElem?_eq_getElem (by rw [clsL_length];exact hj)]
  rfl)
 have e : clsL.take 4=clsL:=List.take_of_length_le (by rw [clsL_length];exact Nat.le_refl _)
 rw [e] at h
 exact h
theorem r_below {W W1 : World} {x : Value} {B : Nat} (h : ∃ g cap,x=.slice (some ⟨g,0,none⟩) 4 cap∧W.ownsRow B 9 1 (.slice (some ⟨g,0,none⟩) 4 cap) 4 nameVals) (hb : Below W.heap.size W W1) : ∃ g cap,x=.slice (some ⟨g,0,none⟩) 4 cap∧W1.ownsRow B 9 1 (.slice (some ⟨g,0,none⟩) 4 cap) 4 nameVals:=by
 obtain ⟨g,cap,h1,h2⟩:=h
 refine ⟨g,cap,h1,h2.1,?_⟩
 rcases h2.2 with h3 | ⟨g',cap',cur,e1,e2,e3,rest⟩
 ·exact .inl h3
 ·exact .inr ⟨g',cap',cur,e1,e2,blk_below e3 hb,rest⟩
def freshC : Obj:=.cells #[.int .u32 0,.int .i32 0,.int .u32 0,.slice none 0 0] 197 (0,0)
def zeroR : Obj:=.cells #[.bool false,.string ⟨#[]⟩,.int .i64 0,.string ⟨#[]⟩] 145 (0,0)
def ruleR (b : Bool) (u : ByteArray) (c : Int) (p : ByteArray) : Obj:=.cells #[.bool b,.string u,.int .i64 c,.string p] 145 (0,0)
def set4 (W : World) (g : Nat) (a b c d : Value) : World:=(((W.setCell ⟨g,0,none⟩ a).setCell ⟨g,1,none⟩ b).setCell ⟨g,2,none⟩ c).setCell ⟨g,3,none⟩ d
theorem set4_other {W : World} {g k : Nat} (a b c d : Value) (h : k ≠ g) : (set4 W g a b c d).heap[k]? = W.heap[k]? := by
 unfold set4
 repeat rw [Below.heap_setCell _ _ _ _ h]
theorem set4_same {W : World} {g T : Nat} {z0 z1 z2 z3 : Value} (a b c d : Value) (h : W.heap[g]? = some (.cells #[z0,z1,z2,z3] T (0,0))) : (set4 W g a b c d).heap[g]? = some (.cells #[a,b,c,d] T (0,0)):=by
 unfold set4
 have h0:=heap_setCell_same W g 0 _ T a h
 have h1:=heap_setCell_same _ g 1 _ T b h0
 have h2:=heap_setCell_same _ g 2 _ T c h1
 exact heap_setCell_same _ g 3 _ T d h2
theorem set4_below {w W : World} {g : Nat} (hb : Below w.heap.size w W) (h : w.heap.size ≤ g) (a b c d : Value) : Below w.heap.size w (set4 W g a b c d):=by
 unfold set4
 exact (((hb.setCell h _).setCell h _).setCell h _).setCell h _
theorem blk4_ {W : World} {g : Nat} {T : TypeId} {a b c d : Value} (h : W.heap[g]? = some (.cells #[a,b,c,d] T (0,0))) : W.cell? ⟨g,0,none⟩=some a∧W.cell? ⟨g,1,none⟩=some b∧W.cell? ⟨g,2,none⟩=some c∧W.cell? ⟨g,3,none⟩=some d∧∀ i,W.frozen? ⟨g,i,none⟩=false:=
 ⟨(blk_cell h 0).trans rfl,(blk_cell h 1).trans rfl,(blk_cell h 2).trans rfl,(blk_cell h 3).trans rfl,blk_frozen h⟩
theorem six_below {W W1 : World} {x : Value} {n0 g5 : Nat} {o : Obj} (h5 : g5 < n0) (h : ∃ g,x=.pointer (some ⟨g,0,none⟩)∧n0 ≤ g∧W.heap[g]? = some o) (hk : ∀ k,k < W.heap.size→k ≠ g5→W1.heap[k]? = W.heap[k]?) : ∃ g,x=.pointer (some ⟨g,0,none⟩)∧n0 ≤ g∧W1.heap[g]? = some o:=by
 obtain ⟨g,h1,h2,h4⟩:=h
 exact ⟨g,h1,h2,(hk g (blk_lt h4) (by omega)).trans h4⟩
theorem set4_size (W : World) (g : Nat) (a b c d : Value) : (set4 W g a b c d).heap.size=W.heap.size:=by simp [set4]
theorem no_ {c : Bool} {A B : Prop} (h : c=false) (hb : B) : if c=true then A else B:=by
 subst h
 exact hb
def I5 (s s0 s1 s2 s3 : ByteArray) (gl cl g2 g5 n0 : Nat) (cur : Array Value) (w : World) (p1 p7 p8 p9 p10 p11 p12 p29 p30 p31 p32 p33 p34 p35 p36 p37 : Value) (L : Nat→Bool) (a : Act) (W : World) : Prop:=
 ∃ x6 x13 x14 x15 x16 x17 x18 x19 x20 x21 x22 x23 x24 x25 x26 x27 x28 : Value,a=⟨#[(.string s),p1,(.pointer (some ⟨g2,0,none⟩)),(.bool false),(.slice (some ⟨gl,0,none⟩) 4 cl),(.pointer (some ⟨g5,0,none⟩)),x6,p7,p8,p9,p10,p11,p12,x13,x14,x15,x16,x17,x18,x19,x20,x21,x22,x23,x24,x25,x26,x27,x28,p29,p30,p31,p32,p33,p34,p35,p36,p37],[]⟩∧(L 0=true→x13=.slice (some ⟨gl,0,none⟩) 4 cl)∧(L 1=true→x14=.pointer (some ⟨gl,0,none⟩))∧(L 2=true→x15=.string s0)∧(L 3=true→x16=.bool (s0.toList == [97,108,108,111,119]))∧(L 4=true→x17=.slice (some ⟨gl,0,none⟩) 4 cl)∧(L 5=true→x18=.pointer (some ⟨gl,1,none⟩))∧(L 6=true→x19=.string s1)∧(L 7=true→(L 11=false→∃ g cap,x20=.slice (some ⟨g,0,none⟩) 4 cap∧W.ownsRow w.heap.size 9 1 (.slice (some ⟨g,0,none⟩) 4 cap) 4 nameVals))∧(L 8=true→x21=.slice (some ⟨gl,0,none⟩) 4 cl)∧(L 9=true→x22=.pointer (some ⟨gl,2,none⟩))∧(L 10=true→x23=.string s2)∧(L 11=true→x24=.int .i64 (Lib.idxOfS clsL s2))∧(L 12=true→x25=.slice (some ⟨gl,0,none⟩) 4 cl)∧(L 13=true→x26=.pointer (some ⟨gl,3,none⟩))∧(L 14=true→x27=.string s3)∧(L 15=true→x28=.agg #[.bool (s0.toList == [97,108,108,111,119]),.string s1,.int .i64 (Lib.idxOfS clsL s2),.string s3])∧(L 16=true→(L 17=false→∃ g,x6=.pointer (some ⟨g,0,none⟩)∧n0 ≤ g∧W.heap[g]? = some zeroR))∧(L 17=true→∃ g,x6=.pointer (some ⟨g,0,none⟩)∧n0 ≤ g∧W.heap[g]? = some (ruleR (s0.toList == [97,108,108,111,119]) s1 (Lib.idxOfS clsL s2) s3))∧(W.heap[gl]? = some (.cells cur 9 (0,0)))∧(W.heap[g2]? = some zeroR)∧(L 7=false→W.heap[g5]? = some freshC)∧(Below w.heap.size w W)∧(n0 ≤ W.heap.size)
theorem I5.step (s s0 s1 s2 s3 : ByteArray) (gl cl g2 g5 n0 : Nat) (cur : Array Value) (w : World) (p1 p7 p8 p9 p10 p11 p12 p29 p30 p31 p32 p33 p34 p35 p36 p37 : Value) (c0 : cur[0]? = some (.string s0)) (c1 : cur[1]? = some (.string s1)) (c2 : cur[2]? = some (.string s2)) (c3 : cur[3]? = some (.string s3)) (hl5 : gl ≠ g5) (h25 : g2 ≠ g5) (hw5 : w.heap.size ≤ g5) (hwn : w.heap.size ≤ n0) (hln : gl < n0) (h2n : g2 < n0) (h5n : g5 < n0) (hLd : LaidT w) {Q : Exit→Act→World→Prop} : ∀ i o L a W,(opsOf Tryz.f77 5)[i]? = some o→L i=false→o.after.all (fun e=>!Region.binds .any e || L e.on)=true→ClosedL (opsOf Tryz.f77 5) L→I5 s s0 s1 s2 s3 gl cl g2 g5 n0 cur w p1 p7 p8 p9 p10 p11 p12 p29 p30 p31 p32 p33 p34 p35 p36 p37 L a W →
  if Region.wanted o (yielded (opsOf Tryz.f77 5) a.tmps)=true then Oper.wp Tryz.prog o a W (fun a' w'=>I5 s s0 s1 s2 s3 gl cl g2 g5 n0 cur w p1 p7 p8 p9 p10 p11 p12 p29 p30 p31 p32 p33 p34 p35 p36 p37 (fun j=>j == i || L j) a' w') Q else I5 s s0 s1 s2 s3 gl cl g2 g5 n0 cur w p1 p7 p8 p9 p10 p11 p12 p29 p30 p31 p32 p33 p34 p35 p36 p37 (fun j=>j == i || L j) (a.put o.dst undef) W:=by
 intro i o L a W ho hLi haft hcl hI
 obtain ⟨x6,x13,x14,x15,x16,x17,x18,x19,x20,x21,x22,x23,x24,x25,x26,x27,x28,rfl,h0,h1,h2,h3,h4,h5,h6,h7,h8,h9,h10,h11,h12,h13,h14,h15,h16,h17,kl,k2,k5,kb,ks⟩:=hI
 rcases i with _|_|_|_|_|_|_|_|_|_|_|_|_|_|_|_|_|_|_
 ·obtain rfl : ({ dst:=some 13,op:=Go.Op.move (Go.Operand.tmp 4),type:=36,pos := "acl.go:80",after:=#[],guard:=none } : Oper)=o:=Option.some.inj ho
  refine value_ (v:=.slice (some ⟨gl,0,none⟩) 4 cl) (w1:=W) (by rfl) rfl ?_ ?_
  ·go_simp;try rfl
  exact ⟨x6,.slice (some ⟨gl,0,none⟩) 4 cl,x14,x15,x16,x17,x18,x19,x20,x21,x22,x23,x24,x25,x26,x27,x28,rfl,fun _=>rfl,h1,h2,h3,h4,h5,h6,h7,h8,h9,h10,h11,h12,h13,h14,h15,h16,h17,kl,k2,k5,kb,ks⟩
 ·obtain rfl : ({ dst:=some 14,op:=Go.Op.indexAddr 36 (Go.Operand.tmp 13) (Go.Operand.const (Go.Value.int Go.IntKind.i64 0)),type:=0,pos := "acl.go:80",after:=#[{ on:=0,ground:=Go.Ground.data }],guard:=none } : Oper)=o:=Option.some.inj ho
  obtain rfl:=h0 (dep_ haft 0 rfl)
  refine value_ (v:=.pointer (some ⟨gl,0,none⟩)) (w1:=W) (by rfl) rfl ?_ ?_
  ·go_simp;try rfl
  exact ⟨x6,.slice (some ⟨gl,0,none⟩) 4 cl,.pointer (some ⟨gl,0,none⟩),x15,x16,x17,x18,x19,x20,x21,x22,x23,x24,x25,x26,x27,x28,rfl,fun _=>rfl,fun _=>rfl,h2,h3,h4,h5,h6,h7,h8,h9,h10,h11,h12,h13,h14,h15,h16,h17,kl,k2,k5,kb,ks⟩
 ·obtain rfl : ({ dst:=some 15,op:=Go.Op.load 9 (Go.Operand.tmp 14),type:=9,pos := "acl.go:80",after:=#[{ on:=1,ground:=Go.Ground.data }],guard:=none } : Oper)=o:=Option.some.inj ho
  obtain rfl:=h1 (dep_ haft 0 rfl)
  have hc : W.cell? ⟨gl,0,none⟩=some (.string s0):=(blk_cell kl 0).trans c0
  refine value_ (v:=.string s0) (w1:=W) (by rfl) rfl ?_ ?_
  ·go_simp;try rfl
  exact ⟨x6,x13,.pointer (some ⟨gl,0,none⟩),.string s0,x16,x17,x18,x19,x20,x21,x22,x23,x24,x25,x26,x27,x28,rfl,h0,fun _=>rfl,fun _=>rfl,h3,h4,h5,h6,h7,h8,h9,h10,h11,h12,h13,h14,h15,h16,h17,kl,k2,k5,kb,ks⟩
 ·obtain rfl : ({ dst:=some 16,op:=Go.Op.binOp Go.BinOp.eql 9 (Go.Operand.tmp 15) (Go.Operand.const (Go.Value.string { data:=#[97,108,108,111,119] })) 9,type:=4,pos := "acl.go:80",after:=#[{ on:=2,ground:=Go.Ground.data }],guard:=none } : Oper)=o:=Option.some.inj ho
  obtain rfl:=h2 (dep_ haft 0 rfl)
  refine value_ (v:=.bool (s0.toList == [97,108,108,111,119])) (w1:=W) (by rfl) rfl ?_ ?_
  ·go_simp;try rfl
  exact ⟨x6,x13,x14,.string s0,.bool (s0.toList == [97,108,108,111,119]),x17,x18,x19,x20,x21,x22,x23,x24,x25,x26,x27,x28,rfl,h0,h1,fun _=>rfl,fun _=>rfl,h4,h5,h6,h7,h8,h9,h10,h11,h12,h13,h14,h15,h16,h17,kl,k2,k5,kb,ks⟩
 ·obtain rfl : ({ dst:=some 17,op:=Go.Op.move (Go.Operand.tmp 4),type:=36,pos := "acl.go:80",after:=#[],guard:=none } : Oper)=o:=Option.some.inj ho
  refine value_ (v:=.slice (some ⟨gl,0,none⟩) 4 cl) (w1:=W) (by rfl) rfl ?_ ?_
  ·go_simp;try rfl
  exact ⟨x6,x13,x14,x15,x16,.slice (some ⟨gl,0,none⟩) 4 cl,x18,x19,x20,x21,x22,x23,x24,x25,x26,x27,x28,rfl,h0,h1,h2,h3,fun _=>rfl,h5,h6,h7,h8,h9,h10,h11,h12,h13,h14,h15,h16,h17,kl,k2,k5,kb,ks⟩
 ·obtain rfl : ({ dst:=some 18,op:=Go.Op.indexAddr 36 (Go.Operand.tmp 17) (Go.Operand.const (Go.Value.int Go.IntKind.i64 1)),type:=0,pos := "acl.go:80",after:=#[{ on:=4,ground:=Go.Ground.data }],guard:=none } : Oper)=o:=Option.some.inj ho
  obtain rfl:=h4 (dep_ haft 0 rfl)
  refine value_ (v:=.pointer (some ⟨gl,1,none⟩)) (w1:=W) (by rfl) rfl ?_ ?_
  ·go_simp;try rfl
  exact ⟨x6,x13,x14,x15,x16,.slice (some ⟨gl,0,none⟩) 4 cl,.pointer (some ⟨gl,1,none⟩),x19,x20,x21,x22,x23,x24,x25,x26,x27,x28,rfl,h0,h1,h2,h3,fun _=>rfl,fun _=>rfl,h6,h7,h8,h9,h10,h11,h12,h13,h14,h15,h16,h17,kl,k2,k5,kb,ks⟩
 ·obtain rfl : ({ dst:=some 19,op:=Go.Op.load 9 (Go.Operand.tmp 18),type:=9,pos := "acl.go:80",after:=#[{ on:=5,ground:=Go.Ground.data }],guard:=none } : Oper)=o:=Option.some.inj ho
  obtain rfl:=h5 (dep_ haft 0 rfl)
  have hc : W.cell? ⟨gl,1,none⟩=some (.string s1):=(blk_cell kl 1).trans c1
  refine value_ (v:=.string s1) (w1:=W) (by rfl) rfl ?_ ?_
  ·go_simp;try rfl
  exact ⟨x6,x13,x14,x15,x16,x17,.pointer (some ⟨gl,1,none⟩),.string s1,x20,x21,x22,x23,x24,x25,x26,x27,x28,rfl,h0,h1,h2,h3,h4,fun _=>rfl,fun _=>rfl,h7,h8,h9,h10,h11,h12,h13,h14,h15,h16,h17,kl,k2,k5,kb,ks⟩
 ·obtain rfl : ({ dst:=some 20,op:=Go.Op.call { callee:=Go.Callee.value (Go.Operand.func 110),args:=#[Go.Operand.tmp 5],argTypes:=#[197] },type:=36,pos := "acl.go:80",after:=#[],guard:=none } : Oper)=o:=Option.some.inj ho
  have hf:=k5 hLi
  refine goes_ Tryz.func110 (by kernel_rfl) rfl #[.pointer (some ⟨g5,0,none⟩)] (by rfl) rfl rfl q27_ ?_
  refine Calls.mono (made_any g5 W hf (hLd.below rfl kb)) ?_
  rintro e W1 ⟨g,cap,rfl,hm1,hm2,hm3⟩
  refine ⟨_,rfl,?_⟩
  have hsz : w.heap.size ≤ W.heap.size:=kb.size
  exact ⟨x6,x13,x14,x15,x16,x17,x18,x19,.slice (some ⟨g,0,none⟩) 4 cap,x21,x22,x23,x24,x25,x26,x27,x28,rfl,h0,h1,h2,h3,h4,h5,h6,fun _=>fun _=>⟨g,cap,rfl,ownsRow_block hm2 hsz (fun g _=>rfl)⟩,h8,h9,h10,h11,h12,h13,h14,h15,fun hL h=>six_below h5n (h16 hL h) hm3,fun hL=>six_below h5n (h17 hL) hm3,(hm3 gl (blk_lt kl) hl5).trans kl,(hm3 g2 (blk_lt k2) h25).trans k2,fun h=>Bool.noConfusion h,kb.trans (hm1.mono hw5),Nat.le_trans ks hm1.size⟩
 ·obtain rfl : ({ dst:=some 21,op:=Go.Op.move (Go.Operand.tmp 4),type:=36,pos := "acl.go:80",after:=#[],guard:=none } : Oper)=o:=Option.some.inj ho
  refine value_ (v:=.slice (some ⟨gl,0,none⟩) 4 cl) (w1:=W) (by rfl) rfl ?_ ?_
  ·go_simp;try rfl
  exact ⟨x6,x13,x14,x15,x16,x17,x18,x19,x20,.slice (some ⟨gl,0,none⟩) 4 cl,x22,x23,x24,x25,x26,x27,x28,rfl,h0,h1,h2,h3,h4,h5,h6,h7,fun _=>rfl,h9,h10,h11,h12,h13,h14,h15,h16,h17,kl,k2,k5,kb,ks⟩
 ·obtain rfl : ({ dst:=some 22,op:=Go.Op.indexAddr 36 (Go.Operand.tmp 21) (Go.Operand.const (Go.Value.int Go.IntKind.i64 2)),type:=0,pos := "acl.go:80",after:=#[{ on:=8,ground:=Go.Ground.data }],guard:=none } : Oper)=o:=Option.some.inj ho
  obtain rfl:=h8 (dep_ haft 0 rfl)
  refine value_ (v:=.pointer (some ⟨gl,2,none⟩)) (w1:=W) (by rfl) rfl ?_ ?_
  ·go_simp;try rfl
  exact ⟨x6,x13,x14,x15,x16,x17,x18,x19,x20,.slice (some ⟨gl,0,none⟩) 4 cl,.pointer (some ⟨gl,2,none⟩),x23,x24,x25,x26,x27,x28,rfl,h0,h1,h2,h3,h4,h5,h6,h7,fun _=>rfl,fun _=>rfl,h10,h11,h12,h13,h14,h15,h16,h17,kl,k2,k5,kb,ks⟩
 ·obtain rfl : ({ dst:=some 23,op:=Go.Op.load 9 (Go.Operand.tmp 22),type:=9,pos := "acl.go:80",after:=#[{ on:=9,ground:=Go.Ground.data }],guard:=none } : Oper)=o:=Option.some.inj ho
  obtain rfl:=h9 (dep_ haft 0 rfl)
  have hc : W.cell? ⟨gl,2,none⟩=some (.string s2):=(blk_cell kl 2).trans c2
  refine value_ (v:=.string s2) (w1:=W) (by rfl) rfl ?_ ?_
  ·go_simp;try rfl
  exact ⟨x6,x13,x14,x15,x16,x17,x18,x19,x20,x21,.pointer (some ⟨gl,2,none⟩),.string s2,x24,x25,x26,x27,x28,rfl,h0,h1,h2,h3,h4,h5,h6,h7,h8,fun _=>rfl,fun _=>rfl,h11,h12,h13,h14,h15,h16,h17,kl,k2,k5,kb,ks⟩
 ·obtain rfl : ({ dst:=some 24,op:=Go.Op.call { callee:=Go.Callee.value (Go.Operand.func 109),args:=#[Go.Operand.tmp 20,Go.Operand.tmp 23],argTypes:=#[36,9] },type:=3,pos := "acl.go:80",after:=#[{ on:=7,ground:=Go.Ground.data },{ on:=10,ground:=Go.Ground.data },{ on:=7,ground:=Go.Ground.chain }],guard:=none } : Oper)=o:=Option.some.inj ho
  obtain rfl:=h10 (dep_ haft 1 rfl)
  obtain ⟨g,cap,rfl,hro⟩:=h7 (dep_ haft 0 rfl) hLi
  refine goes_ Tryz.func109 (by kernel_rfl) rfl #[.slice (some ⟨g,0,none⟩) 4 cap,.string s2] (by rfl) rfl rfl q27_ ?_
  refine Calls.mono (index_cls hro s2) ?_
  rintro e W1 ⟨rfl,rfl⟩
  refine ⟨_,rfl,?_⟩
  exact ⟨x6,x13,x14,x15,x16,x17,x18,x19,.slice (some ⟨g,0,none⟩) 4 cap,x21,x22,.string s2,.int .i64 (Lib.idxOfS clsL s2),x25,x26,x27,x28,rfl,h0,h1,h2,h3,h4,h5,h6,fun _ h=>Bool.noConfusion h,h8,h9,fun _=>rfl,fun _=>rfl,h12,h13,h14,h15,h16,h17,kl,k2,k5,kb,ks⟩
 ·obtain rfl : ({ dst:=some 25,op:=Go.Op.move (Go.Operand.tmp 4),type:=36,pos := "acl.go:80",after:=#[],guard:=none } : Oper)=o:=Option.some.inj ho
  refine value_ (v:=.slice (some ⟨gl,0,none⟩) 4 cl) (w1:=W) (by rfl) rfl ?_ ?_
  ·go_simp;try rfl
  exact ⟨x6,x13,x14,x15,x16,x17,x18,x19,x20,x21,x22,x23,x24,.slice (some ⟨gl,0,none⟩) 4 cl,x26,x27,x28,rfl,h0,h1,h2,h3,h4,h5,h6,h7,h8,h9,h10,h11,fun _=>rfl,h13,h14,h15,h16,h17,kl,k2,k5,kb,ks⟩
 ·obtain rfl : ({ dst:=some 26,op:=Go.Op.indexAddr 36 (Go.Operand.tmp 25) (Go.Operand.const (Go.Value.int Go.IntKind.i64 3)),type:=0,pos := "acl.go:80",after:=#[{ on:=12,ground:=Go.Ground.data }],guard:=none } : Oper)=o:=Option.some.inj ho
  obtain rfl:=h12 (dep_ haft 0 rfl)
  refine value_ (v:=.pointer (some ⟨gl,3,none⟩)) (w1:=W) (by rfl) rfl ?_ ?_
  ·go_simp;try rfl
  exact ⟨x6,x13,x14,x15,x16,x17,x18,x19,x20,x21,x22,x23,x24,.slice (some ⟨gl,0,none⟩) 4 cl,.pointer (some ⟨gl,3,none⟩),x27,x28,rfl,h0,h1,h2,h3,h4,h5,h6,h7,h8,h9,h10,h11,fun _=>rfl,fun _=>rfl,h14,h15,h16,h17,kl,k2,k5,kb,ks⟩
 ·obtain rfl : ({ dst:=some 27,op:=Go.Op.load 9 (Go.Operand.tmp 26),type:=9,pos := "acl.go:80",after:=#[{ on:=13,ground:=Go.Ground.data }],guard:=none } : Oper)=o:=Option.some.inj ho
  obtain rfl:=h13 (dep_ haft 0 rfl)
  have hc : W.cell? ⟨gl,3,none⟩=some (.string s3):=(blk_cell kl 3).trans c3
  refine value_ (v:=.string s3) (w1:=W) (by rfl) rfl ?_ ?_
  ·go_simp;try rfl
  exact ⟨x6,x13,x14,x15,x16,x17,x18,x19,x20,x21,x22,x23,x24,x25,.pointer (some ⟨gl,3,none⟩),.string s3,x28,rfl,h0,h1,h2,h3,h4,h5,h6,h7,h8,h9,h10,h11,h12,fun _=>rfl,fun _=>rfl,h15,h16,h17,kl,k2,k5,kb,ks⟩
 ·obtain rfl : ({ dst:=some 28,op:=Go.Op.build 145 #[(0,Go.Operand.tmp 16),(1,Go.Operand.tmp 19),(2,Go.Operand.tmp 24),(3,Go.Operand.tmp 27)],type:=145,pos := "acl.go:80",after:=#[{ on:=3,ground:=Go.Ground.data },{ on:=6,ground:=Go.Ground.data },{ on:=11,ground:=Go.Ground.data },{ on:=14,ground:=Go.Ground.data }],guard:=none } : Oper)=o:=Option.some.inj ho
  obtain rfl:=h3 (dep_ haft 0 rfl)
  obtain rfl:=h6 (dep_ haft 1 rfl)
  obtain rfl:=h11 (dep_ haft 2 rfl)
  obtain rfl:=h14 (dep_ haft 3 rfl)
  refine value_ (v:=.agg #[.bool (s0.toList == [97,108,108,111,119]),.string s1,.int .i64 (Lib.idxOfS clsL s2),.string s3]) (w1:=W) (by rfl) rfl ?_ ?_
  ·go_simp;try rfl
  exact ⟨x6,x13,x14,x15,.bool (s0.toList == [97,108,108,111,119]),x17,x18,.string s1,x20,x21,x22,x23,.int .i64 (Lib.idxOfS clsL s2),x25,x26,.string s3,.agg #[.bool (s0.toList == [97,108,108,111,119]),.string s1,.int .i64 (Lib.idxOfS clsL s2),.string s3],rfl,h0,h1,h2,fun _=>rfl,h4,h5,fun _=>rfl,h7,h8,h9,h10,fun _=>rfl,h12,h13,fun _=>rfl,fun _=>rfl,h16,h17,kl,k2,k5,kb,ks⟩
 ·obtain rfl : ({ dst:=some 6,op:=Go.Op.alloc 145,type:=0,pos := "acl.go:80",after:=#[],guard:=none } : Oper)=o:=Option.some.inj ho
  have hn5 : L 17=false:=by
   cases e : L 17 with
   | false=>rfl
   | true=>
    have h : L 16=true:=dep_ (hcl 17 _ rfl e) 0 rfl
    have hLi2 : L 16=false:=hLi
    rw [hLi2] at h
    cases h
  refine value_ (v:=.pointer (some ⟨W.heap.size,0,none⟩)) (w1:=W.alloc (.cells #[.bool false,.string ⟨#[]⟩,.int .i64 0,.string ⟨#[]⟩] 145)) (by rfl) rfl ?_ ?_
  ·go_simp;try rfl
  exact ⟨.pointer (some ⟨W.heap.size,0,none⟩),x13,x14,x15,x16,x17,x18,x19,x20,x21,x22,x23,x24,x25,x26,x27,x28,rfl,h0,h1,h2,h3,h4,h5,h6,fun hL h=>r_below (h7 hL h) ((Below.refl W.heap.size W).alloc (Nat.le_refl _) _),h8,h9,h10,h11,h12,h13,h14,h15,fun _=>fun _=>⟨_,rfl,ks,heap_alloc_new W _⟩,fun h=>Bool.noConfusion (hn5.symm.trans h),blk_below kl ((Below.refl W.heap.size W).alloc (Nat.le_refl _) _),blk_below k2 ((Below.refl W.heap.size W).alloc (Nat.le_refl _) _),fun hL=>blk_below (k5 hL) ((Below.refl W.heap.size W).alloc (Nat.le_refl _) _),below_step kb ((Below.refl W.heap.size W).alloc (Nat.le_refl _) _),Nat.le_trans ks (Below.size ((Below.refl W.heap.size W).alloc (Nat.le_refl _) _))⟩
 ·obtain rfl : ({ dst:=none,op:=Go.Op.store 145 (Go.Operand.tmp 6) (Go.Operand.tmp 28),type:=0,pos := "acl.go:80",after:=#[{ on:=16,ground:=Go.Ground.data },{ on:=15,ground:=Go.Ground.data },{ on:=11,ground:=Go.Ground.chain },{ on:=0,ground:=Go.Ground.phase },{ on:=1,ground:=Go.Ground.phase },{ on:=2,ground:=Go.Ground.phase },{ on:=3,ground:=Go.Ground.phase },{ on:=4,ground:=Go.Ground.phase },{ on:=5,ground:=Go.Ground.phase },{ on:=6,ground:=Go.Ground.phase },{ on:=7,ground:=Go.Ground.phase },{ on:=8,ground:=Go.Ground.phase },{ on:=9,ground:=Go.Ground.phase },{ on:=10,ground:=Go.Ground.phase },{ on:=11,ground:=Go.Ground.phase },{ on:=12,ground:=Go.Ground.phase },{ on:=13,ground:=Go.Ground.phase },{ on:=14,ground:=Go.Ground.phase },{ on:=15,ground:=Go.Ground.phase },{ on:=16,ground:=Go.Ground.phase }],guard:=none } : Oper)=o:=Option.some.inj ho
  obtain rfl:=h15 (dep_ haft 1 rfl)
  obtain ⟨g,rfl,hg0,hg2⟩:=h16 (dep_ haft 0 rfl) hLi
  have d11 : L 11=true:=dep_ haft 2 rfl
  obtain ⟨q0,q1,q2,q3,qf⟩:=blk4_ hg2
  have qf0:=qf 0
  have qf1:=qf 1
  have qf2:=qf 2
  have qf3:=qf 3
  refine skip_ (w1:=set4 W g (.bool (s0.toList == [97,108,108,111,119])) (.string s1) (.int .i64 (Lib.idxOfS clsL s2)) (.string s3)) (by rfl) rfl ?_ ?_
  ·unfold set4;go_simp
  exact ⟨.pointer (some ⟨g,0,none⟩),x13,x14,x15,x16,x17,x18,x19,x20,x21,x22,x23,x24,x25,x26,x27,.agg #[.bool (s0.toList == [97,108,108,111,119]),.string s1,.int .i64 (Lib.idxOfS clsL s2),.string s3],rfl,h0,h1,h2,h3,h4,h5,h6,fun _ h=>Bool.noConfusion (d11.symm.trans h),h8,h9,h10,h11,h12,h13,h14,fun _=>rfl,fun _ h=>Bool.noConfusion h,fun _=>⟨g,rfl,hg0,set4_same _ _ _ _ hg2⟩,(set4_other _ _ _ _ (by omega)).trans kl,(set4_other _ _ _ _ (by omega)).trans k2,fun h=>(set4_other _ _ _ _ (by omega)).trans (k5 h),set4_below kb (by omega) _ _ _ _,Nat.le_trans ks (Nat.le_of_eq (set4_size _ _ _ _ _ _).symm)⟩
 ·cases ho
def I6t (s : ByteArray) (b : Bool) (u : ByteArray) (c : Int) (p ln : ByteArray) (g2 g6 : Nat) (w : World) (p1 p4 p5 p7 p8 p9 p10 p11 p12 p13 p14 p15 p16 p17 p18 p19 p20 p21 p22 p23 p24 p25 p26 p27 p28 : Value) (L : Nat→Bool) (a : Act) (W : World) : Prop:=
 ∃ x3 x29 x30 x31 x32 x33 x34 x35 x36 x37 : Value,a=⟨#[(.string s),p1,(.pointer (some ⟨g2,0,none⟩)),x3,p4,p5,(.pointer (some ⟨g6,0,none⟩)),p7,p8,p9,p10,p11,p12,p13,p14,p15,p16,p17,p18,p19,p20,p21,p22,p23,p24,p25,p26,p27,p28,x29,x30,x31,x32,x33,x34,x35,x36,x37],[]⟩∧(L 0=true→x29=.agg #[.bool b,.string u,.int .i64 c,.string p])∧(L 1=true→x30=.agg #[.bool b,.string u,.int .i64 c,.string p])∧(L 2=true→x31=.bool true)∧(L 3=true→x32=.bool true)∧(L 4=true→x33=.agg #[.bool b,.string u,.int .i64 c,.string p])∧(L 5=true→x34=.string ln)∧(L 6=true→x35=.string s)∧(L 7=true→x36=.bool (ln.toList == s.toList))∧(L 8=true→x37=.bool (ln.toList == s.toList))∧(L 9=true→W.heap[g2]? = some (ruleR b u c p))∧(L 10=true→x3=.bool (ln.toList == s.toList))∧(W.heap[g6]? = some (ruleR b u c p))∧(L 9=false→W.heap[g2]? = some zeroR)∧(Below w.heap.size w W)
theorem I6t.step (s : ByteArray) (b : Bool) (u : ByteArray) (c : Int) (p ln : ByteArray) (g2 g6 : Nat) (w : World) (p1 p4 p5 p7 p8 p9 p10 p11 p12 p13 p14 p15 p16 p17 p18 p19 p20 p21 p22 p23 p24 p25 p26 p27 p28 : Value) (h26 : g2 ≠ g6) (hw2 : w.heap.size ≤ g2) (k : Nat) (hR : acl_Right.f k b u c p=some true) (hLn : Pa.acl_line.f b u c p=some ln) (hLd : Laid w) {Q : Exit→Act→World→Prop} : ∀ i o L a W,(opsOf Tryz.f77 6)[i]? = some o→L i=false→o.after.all (fun e=>!Region.binds .any e || L e.on)=true→ClosedL (opsOf Tryz.f77 6) L→I6t s b u c p ln g2 g6 w p1 p4 p5 p7 p8 p9 p10 p11 p12 p13 p14 p15 p16 p17 p18 p19 p20 p21 p22 p23 p24 p25 p26 p27 p28 L a W →
  if Region.wanted o (yielded (opsOf Tryz.f77 6) a.tmps)=true then Oper.wp Tryz.prog o a W (fun a' w'=>I6t s b u c p ln g2 g6 w p1 p4 p5 p7 p8 p9 p10 p11 p12 p13 p14 p15 p16 p17 p18 p19 p20 p21 p22 p23 p24 p25 p26 p27 p28 (fun j=>j == i || L j) a' w') Q else I6t s b u c p ln g2 g6 w p1 p4 p5 p7 p8 p9 p10 p11 p12 p13 p14 p15 p16 p17 p18 p19 p20 p21 p22 p23 p24 p25 p26 p27 p28 (fun j=>j == i || L j) (a.put o.dst undef) W:=by
 intro i o L a W ho hLi haft hcl hI
 obtain ⟨x3,x29,x30,x31,x32,x33,x34,x35,x36,x37,rfl,h0,h1,h2,h3,h4,h5,h6,h7,h8,h9,h10,k6,k2,kb⟩:=hI
 rcases i with _|_|_|_|_|_|_|_|_|_|_|_
 ·obtain rfl : ({ dst:=some 29,op:=Go.Op.load 145 (Go.Operand.tmp 6),type:=145,pos := "acl.go:81",after:=#[],guard:=none } : Oper)=o:=Option.some.inj ho
  obtain ⟨q0,q1,q2,q3,qf⟩:=blk4_ k6
  refine value_ (v:=.agg #[.bool b,.string u,.int .i64 c,.string p]) (w1:=W) (by rfl) rfl ?_ ?_
  ·go_simp;try rfl
  exact ⟨x3,.agg #[.bool b,.string u,.int .i64 c,.string p],x30,x31,x32,x33,x34,x35,x36,x37,rfl,fun _=>rfl,h1,h2,h3,h4,h5,h6,h7,h8,h9,h10,k6,k2,kb⟩
 ·obtain rfl : ({ dst:=some 30,op:=Go.Op.load 145 (Go.Operand.tmp 6),type:=145,pos := "acl.go:81",after:=#[],guard:=none } : Oper)=o:=Option.some.inj ho
  obtain ⟨q0,q1,q2,q3,qf⟩:=blk4_ k6
  refine value_ (v:=.agg #[.bool b,.string u,.int .i64 c,.string p]) (w1:=W) (by rfl) rfl ?_ ?_
  ·go_simp;try rfl
  exact ⟨x3,x29,.agg #[.bool b,.string u,.int .i64 c,.string p],x31,x32,x33,x34,x35,x36,x37,rfl,h0,fun _=>rfl,h2,h3,h4,h5,h6,h7,h8,h9,h10,k6,k2,kb⟩
 ·obtain rfl : ({ dst:=some 31,op:=Go.Op.call { callee:=Go.Callee.value (Go.Operand.func 111),args:=#[Go.Operand.tmp 30],argTypes:=#[145] },type:=4,pos := "acl.go:81",after:=#[{ on:=1,ground:=Go.Ground.data }],guard:=none } : Oper)=o:=Option.some.inj ho
  obtain rfl:=h1 (dep_ haft 0 rfl)
  refine goes_ Tryz.func111 (by kernel_rfl) rfl #[.agg #[.bool b,.string u,.int .i64 c,.string p]] (by rfl) rfl rfl q27_ ?_
  refine Calls.mono (acl_Right.calls k b u c p true W hR) ?_
  rintro e W1 ⟨rfl,hb1⟩
  refine ⟨_,rfl,?_⟩
  exact ⟨x3,x29,.agg #[.bool b,.string u,.int .i64 c,.string p],.bool true,x32,x33,x34,x35,x36,x37,rfl,h0,fun _=>rfl,fun _=>rfl,h3,h4,h5,h6,h7,h8,fun hL=>blk_below (h9 hL) hb1,h10,blk_below k6 hb1,fun hL=>blk_below (k2 hL) hb1,below_step kb hb1⟩
 ·obtain rfl : ({ dst:=some 32,op:=Go.Op.move (Go.Operand.tmp 31),type:=4,pos := "acl.go:81",after:=#[{ on:=2,ground:=Go.Ground.data },{ on:=2,ground:=Go.Ground.chain }],guard:=none } : Oper)=o:=Option.some.inj ho
  obtain rfl:=h2 (dep_ haft 0 rfl)
  refine value_ (v:=.bool true) (w1:=W) (by rfl) rfl ?_ ?_
  ·go_simp;try rfl
  exact ⟨x3,x29,x30,.bool true,.bool true,x33,x34,x35,x36,x37,rfl,h0,h1,fun _=>rfl,fun _=>rfl,h4,h5,h6,h7,h8,h9,h10,k6,k2,kb⟩
 ·obtain rfl : ({ dst:=some 33,op:=Go.Op.load 145 (Go.Operand.tmp 6),type:=145,pos := "acl.go:81",after:=#[{ on:=3,ground:=Go.Ground.guard }],guard:=some (3,true) } : Oper)=o:=Option.some.inj ho
  obtain rfl:=h3 (dep_ haft 0 rfl)
  obtain ⟨q0,q1,q2,q3,qf⟩:=blk4_ k6
  refine value_ (v:=.agg #[.bool b,.string u,.int .i64 c,.string p]) (w1:=W) (by rfl) rfl ?_ ?_
  ·go_simp;try rfl
  exact ⟨x3,x29,x30,x31,.bool true,.agg #[.bool b,.string u,.int .i64 c,.string p],x34,x35,x36,x37,rfl,h0,h1,h2,fun _=>rfl,fun _=>rfl,h5,h6,h7,h8,h9,h10,k6,k2,kb⟩
 ·obtain rfl : ({ dst:=some 34,op:=Go.Op.call { callee:=Go.Callee.value (Go.Operand.func 112),args:=#[Go.Operand.tmp 33],argTypes:=#[145] },type:=9,pos := "acl.go:81",after:=#[{ on:=4,ground:=Go.Ground.data },{ on:=3,ground:=Go.Ground.chain },{ on:=3,ground:=Go.Ground.guard }],guard:=some (3,true) } : Oper)=o:=Option.some.inj ho
  obtain rfl:=h4 (dep_ haft 0 rfl)
  obtain rfl:=h3 (dep_ haft 2 rfl)
  refine goes_ Tryz.func112 (by kernel_rfl) rfl #[.agg #[.bool b,.string u,.int .i64 c,.string p]] (by rfl) rfl rfl q27_ ?_
  refine Calls.mono (Pa.acl_line.calls b u c p ln W hLn (hLd.below rfl kb)) ?_
  rintro e W1 ⟨rfl,hb1⟩
  refine ⟨_,rfl,?_⟩
  exact ⟨x3,x29,x30,x31,.bool true,.agg #[.bool b,.string u,.int .i64 c,.string p],.string ln,x35,x36,x37,rfl,h0,h1,h2,fun _=>rfl,fun _=>rfl,fun _=>rfl,h6,h7,h8,fun hL=>blk_below (h9 hL) hb1,h10,blk_below k6 hb1,fun hL=>blk_below (k2 hL) hb1,below_step kb hb1⟩
 ·obtain rfl : ({ dst:=some 35,op:=Go.Op.move (Go.Operand.tmp 0),type:=9,pos := "acl.go:81",after:=#[{ on:=3,ground:=Go.Ground.guard },{ on:=9,ground:=Go.Ground.gcOnly Go.Departure.lateStores }],guard:=some (3,true) } : Oper)=o:=Option.some.inj ho
  obtain rfl:=h3 (dep_ haft 0 rfl)
  refine value_ (v:=.string s) (w1:=W) (by rfl) rfl ?_ ?_
  ·go_simp;try rfl
  exact ⟨x3,x29,x30,x31,.bool true,x33,x34,.string s,x36,x37,rfl,h0,h1,h2,fun _=>rfl,h4,h5,fun _=>rfl,h7,h8,h9,h10,k6,k2,kb⟩
 ·obtain rfl : ({ dst:=some 36,op:=Go.Op.binOp Go.BinOp.eql 9 (Go.Operand.tmp 34) (Go.Operand.tmp 35) 9,type:=4,pos := "acl.go:81",after:=#[{ on:=5,ground:=Go.Ground.data },{ on:=6,ground:=Go.Ground.data },{ on:=3,ground:=Go.Ground.guard },{ on:=9,ground:=Go.Ground.gcOnly Go.Departure.lateStores }],guard:=some (3,true) } : Oper)=o:=Option.some.inj ho
  obtain rfl:=h5 (dep_ haft 0 rfl)
  obtain rfl:=h6 (dep_ haft 1 rfl)
  obtain rfl:=h3 (dep_ haft 2 rfl)
  refine value_ (v:=.bool (ln.toList == s.toList)) (w1:=W) (by rfl) rfl ?_ ?_
  ·go_simp;try rfl
  exact ⟨x3,x29,x30,x31,.bool true,x33,.string ln,.string s,.bool (ln.toList == s.toList),x37,rfl,h0,h1,h2,fun _=>rfl,h4,fun _=>rfl,fun _=>rfl,fun _=>rfl,h8,h9,h10,k6,k2,kb⟩
 ·obtain rfl : ({ dst:=some 37,op:=Go.Op.pick (Go.Operand.tmp 32) (Go.Operand.tmp 36) (Go.Operand.const (Go.Value.bool false)),type:=4,pos := "acl.go:81",after:=#[{ on:=3,ground:=Go.Ground.data },{ on:=7,ground:=Go.Ground.data },{ on:=9,ground:=Go.Ground.gcOnly Go.Departure.lateStores }],guard:=none } : Oper)=o:=Option.some.inj ho
  obtain rfl:=h3 (dep_ haft 0 rfl)
  obtain rfl:=h7 (dep_ haft 1 rfl)
  refine value_ (v:=.bool (ln.toList == s.toList)) (w1:=W) (by rfl) rfl ?_ ?_
  ·go_simp;try rfl
  exact ⟨x3,x29,x30,x31,.bool true,x33,x34,x35,.bool (ln.toList == s.toList),.bool (ln.toList == s.toList),rfl,h0,h1,h2,fun _=>rfl,h4,h5,h6,fun _=>rfl,fun _=>rfl,h9,h10,k6,k2,kb⟩
 ·obtain rfl : ({ dst:=none,op:=Go.Op.store 145 (Go.Operand.tmp 2) (Go.Operand.tmp 29),type:=0,pos := "acl.go:81",after:=#[{ on:=0,ground:=Go.Ground.data },{ on:=5,ground:=Go.Ground.chain },{ on:=0,ground:=Go.Ground.phase },{ on:=1,ground:=Go.Ground.textOnly Go.Departure.lateStores },{ on:=2,ground:=Go.Ground.textOnly Go.Departure.lateStoresUnsure },{ on:=3,ground:=Go.Ground.textOnly Go.Departure.lateStores },{ on:=4,ground:=Go.Ground.textOnly Go.Departure.lateStores },{ on:=5,ground:=Go.Ground.textOnly Go.Departure.lateStoresUnsure },{ on:=6,ground:=Go.Ground.textOnly Go.Departure.lateStores },{ on:=7,ground:=Go.Ground.textOnly Go.Departure.lateStores },{ on:=8,ground:=Go.Ground.textOnly Go.Departure.lateStores }],guard:=none } : Oper)=o:=Option.some.inj ho
  obtain rfl:=h0 (dep_ haft 0 rfl)
  have hz:=k2 hLi
  obtain ⟨q0,q1,q2,q3,qf⟩:=blk4_ hz
  have qf0:=qf 0
  have qf1:=qf 1
  have qf2:=qf 2
  have qf3:=qf 3
  refine skip_ (w1:=set4 W g2 (.bool b) (.string u) (.int .i64 c) (.string p)) (by rfl) rfl ?_ ?_
  ·unfold set4;go_simp
  exact ⟨x3,.agg #[.bool b,.string u,.int .i64 c,.string p],x30,x31,x32,x33,x34,x35,x36,x37,rfl,fun _=>rfl,h1,h2,h3,h4,h5,h6,h7,h8,fun _=>set4_same _ _ _ _ hz,h10,(set4_other _ _ _ _ (Ne.symm h26)).trans k6,fun h=>Bool.noConfusion h,set4_below kb hw2 _ _ _ _⟩
 ·obtain rfl : ({ dst:=some 3,op:=Go.Op.assign (Go.Operand.tmp 37),type:=4,pos := "acl.go:81",after:=#[{ on:=8,ground:=Go.Ground.data },{ on:=9,ground:=Go.Ground.chain },{ on:=0,ground:=Go.Ground.phase },{ on:=1,ground:=Go.Ground.phase },{ on:=2,ground:=Go.Ground.phase },{ on:=3,ground:=Go.Ground.phase },{ on:=4,ground:=Go.Ground.phase },{ on:=5,ground:=Go.Ground.phase },{ on:=6,ground:=Go.Ground.phase },{ on:=7,ground:=Go.Ground.phase },{ on:=8,ground:=Go.Ground.phase },{ on:=9,ground:=Go.Ground.phase }],guard:=none } : Oper)=o:=Option.some.inj ho
  obtain rfl:=h8 (dep_ haft 0 rfl)
  refine value_ (v:=.bool (ln.toList == s.toList)) (w1:=W) (by rfl) rfl ?_ ?_
  ·go_simp;try rfl
  exact ⟨.bool (ln.toList == s.toList),x29,x30,x31,x32,x33,x34,x35,x36,.bool (ln.toList == s.toList),rfl,h0,h1,h2,h3,h4,h5,h6,h7,fun _=>rfl,h9,fun _=>rfl,k6,k2,kb⟩
 ·cases ho
def I6f (s : ByteArray) (b : Bool) (u : ByteArray) (c : Int) (p : ByteArray) (g2 g6 : Nat) (w : World) (p1 p4 p5 p7 p8 p9 p10 p11 p12 p13 p14 p15 p16 p17 p18 p19 p20 p21 p22 p23 p24 p25 p26 p27 p28 : Value) (L : Nat→Bool) (a : Act) (W : World) : Prop:=
 ∃ x3 x29 x30 x31 x32 x33 x34 x35 x36 x37 : Value,a=⟨#[(.string s),p1,(.pointer (some ⟨g2,0,none⟩)),x3,p4,p5,(.pointer (some ⟨g6,0,none⟩)),p7,p8,p9,p10,p11,p12,p13,p14,p15,p16,p17,p18,p19,p20,p21,p22,p23,p24,p25,p26,p27,p28,x29,x30,x31,x32,x33,x34,x35,x36,x37],[]⟩∧(L 0=true→x29=.agg #[.bool b,.string u,.int .i64 c,.string p])∧(L 1=true→x30=.agg #[.bool b,.string u,.int .i64 c,.string p])∧(L 2=true→x31=.bool false)∧(L 3=true→x32=.bool false)∧(L 4=true→x33=undef)∧(L 5=true→x34=undef)∧(L 6=true→x35=undef)∧(L 7=true→x36=undef)∧(L 8=true→x37=.bool false)∧(L 9=true→W.heap[g2]? = some (ruleR b u c p))∧(L 10=true→x3=.bool false)∧(W.heap[g6]? = some (ruleR b u c p))∧(L 9=false→W.heap[g2]? = some zeroR)∧(Below w.heap.size w W)
theorem I6f.step (s : ByteArray) (b : Bool) (u : ByteArray) (c : Int) (p : ByteArray) (g2 g6 : Nat) (w : World) (p1 p4 p5 p7 p8 p9 p10 p11 p12 p13 p14 p15 p16 p17 p18 p19 p20 p21 p22 p23 p24 p25 p26 p27 p28 : Value) (h26 : g2 ≠ g6) (hw2 : w.heap.size ≤ g2) (k : Nat) (hR : acl_Right.f k b u c p=some false) {Q : Exit→Act→World→Prop} : ∀ i o L a W,(opsOf Tryz.f77 6)[i]? = some o→L i=false→o.after.all (fun e=>!Region.binds .any e || L e.on)=true→ClosedL (opsOf Tryz.f77 6) L→I6f s b u c p g2 g6 w p1 p4 p5 p7 p8 p9 p10 p11 p12 p13 p14 p15 p16 p17 p18 p19 p20 p21 p22 p23 p24 p25 p26 p27 p28 L a W →
  if Region.wanted o (yielded (opsOf Tryz.f77 6) a.tmps)=true then Oper.wp Tryz.prog o a W (fun a' w'=>I6f s b u c p g2 g6 w p1 p4 p5 p7 p8 p9 p10 p11 p12 p13 p14 p15 p16 p17 p18 p19 p20 p21 p22 p23 p24 p25 p26 p27 p28 (fun j=>j == i || L j) a' w') Q else I6f s b u c p g2 g6 w p1 p4 p5 p7 p8 p9 p10 p11 p12 p13 p14 p15 p16 p17 p18 p19 p20 p21 p22 p23 p24 p25 p26 p27 p28 (fun j=>j == i || L j) (a.put o.dst undef) W:=by
 intro i o L a W ho hLi haft hcl hI
 obtain ⟨x3,x29,x30,x31,x32,x33,x34,x35,x36,x37,rfl,h0,h1,h2,h3,h4,h5,h6,h7,h8,h9,h10,k6,k2,kb⟩:=hI
 rcases i with _|_|_|_|_|_|_|_|_|_|_|_
 ·obtain rfl : ({ dst:=some 29,op:=Go.Op.load 145 (Go.Operand.tmp 6),type:=145,pos := "acl.go:81",after:=#[],guard:=none } : Oper)=o:=Option.some.inj ho
  obtain ⟨q0,q1,q2,q3,qf⟩:=blk4_ k6
  refine value_ (v:=.agg #[.bool b,.string u,.int .i64 c,.string p]) (w1:=W) (by rfl) rfl ?_ ?_
  ·go_simp;try rfl
  exact ⟨x3,.agg #[.bool b,.string u,.int .i64 c,.string p],x30,x31,x32,x33,x34,x35,x36,x37,rfl,fun _=>rfl,h1,h2,h3,h4,h5,h6,h7,h8,h9,h10,k6,k2,kb⟩
 ·obtain rfl : ({ dst:=some 30,op:=Go.Op.load 145 (Go.Operand.tmp 6),type:=145,pos := "acl.go:81",after:=#[],guard:=none } : Oper)=o:=Option.some.inj ho
  obtain ⟨q0,q1,q2,q3,qf⟩:=blk4_ k6
  refine value_ (v:=.agg #[.bool b,.string u,.int .i64 c,.string p]) (w1:=W) (by rfl) rfl ?_ ?_
  ·go_simp;try rfl
  exact ⟨x3,x29,.agg #[.bool b,.string u,.int .i64 c,.string p],x31,x32,x33,x34,x35,x36,x37,rfl,h0,fun _=>rfl,h2,h3,h4,h5,h6,h7,h8,h9,h10,k6,k2,kb⟩
 ·obtain rfl : ({ dst:=some 31,op:=Go.Op.call { callee:=Go.Callee.value (Go.Operand.func 111),args:=#[Go.Operand.tmp 30],argTypes:=#[145] },type:=4,pos := "acl.go:81",after:=#[{ on:=1,ground:=Go.Ground.data }],guard:=none } : Oper)=o:=Option.some.inj ho
  obtain rfl:=h1 (dep_ haft 0 rfl)
  refine goes_ Tryz.func111 (by kernel_rfl) rfl #[.agg #[.bool b,.string u,.int .i64 c,.string p]] (by rfl) rfl rfl q27_ ?_
  refine Calls.mono (acl_Right.calls k b u c p false W hR) ?_
  rintro e W1 ⟨rfl,hb1⟩
  refine ⟨_,rfl,?_⟩
  exact ⟨x3,x29,.agg #[.bool b,.string u,.int .i64 c,.string p],.bool false,x32,x33,x34,x35,x36,x37,rfl,h0,fun _=>rfl,fun _=>rfl,h3,h4,h5,h6,h7,h8,fun hL=>blk_below (h9 hL) hb1,h10,blk_below k6 hb1,fun hL=>blk_below (k2 hL) hb1,below_step kb hb1⟩
 ·obtain rfl : ({ dst:=some 32,op:=Go.Op.move (Go.Operand.tmp 31),type:=4,pos := "acl.go:81",after:=#[{ on:=2,ground:=Go.Ground.data },{ on:=2,ground:=Go.Ground.chain }],guard:=none } : Oper)=o:=Option.some.inj ho
  obtain rfl:=h2 (dep_ haft 0 rfl)
  refine value_ (v:=.bool false) (w1:=W) (by rfl) rfl ?_ ?_
  ·go_simp;try rfl
  exact ⟨x3,x29,x30,.bool false,.bool false,x33,x34,x35,x36,x37,rfl,h0,h1,fun _=>rfl,fun _=>rfl,h4,h5,h6,h7,h8,h9,h10,k6,k2,kb⟩
 ·obtain rfl : ({ dst:=some 33,op:=Go.Op.load 145 (Go.Operand.tmp 6),type:=145,pos := "acl.go:81",after:=#[{ on:=3,ground:=Go.Ground.guard }],guard:=some (3,true) } : Oper)=o:=Option.some.inj ho
  obtain rfl:=h3 (dep_ haft 0 rfl)
  refine no_ (by rfl) ?_
  exact ⟨x3,x29,x30,x31,.bool false,undef,x34,x35,x36,x37,rfl,h0,h1,h2,fun _=>rfl,fun _=>rfl,h5,h6,h7,h8,h9,h10,k6,k2,kb⟩
 ·obtain rfl : ({ dst:=some 34,op:=Go.Op.call { callee:=Go.Callee.value (Go.Operand.func 112),args:=#[Go.Operand.tmp 33],argTypes:=#[145] },type:=9,pos := "acl.go:81",after:=#[{ on:=4,ground:=Go.Ground.data },{ on:=3,ground:=Go.Ground.chain },{ on:=3,ground:=Go.Ground.guard }],guard:=some (3,true) } : Oper)=o:=Option.some.inj ho
  obtain rfl:=h3 (dep_ haft 2 rfl)
  refine no_ (by rfl) ?_
  exact ⟨x3,x29,x30,x31,.bool false,x33,undef,x35,x36,x37,rfl,h0,h1,h2,fun _=>rfl,h4,fun _=>rfl,h6,h7,h8,h9,h10,k6,k2,kb⟩
 ·obtain rfl : ({ dst:=some 35,op:=Go.Op.move (Go.Operand.tmp 0),type:=9,pos := "acl.go:81",after:=#[{ on:=3,ground:=Go.Ground.guard },{ on:=9,ground:=Go.Ground.gcOnly Go.Departure.lateStores }],guard:=some (3,true) } : Oper)=o:=Option.some.inj ho
  obtain rfl:=h3 (dep_ haft 0 rfl)
  refine no_ (by rfl) ?_
  exact ⟨x3,x29,x30,x31,.bool false,x33,x34,undef,x36,x37,rfl,h0,h1,h2,fun _=>rfl,h4,h5,fun _=>rfl,h7,h8,h9,h10,k6,k2,kb⟩
 ·obtain rfl : ({ dst:=some 36,op:=Go.Op.binOp Go.BinOp.eql 9 (Go.Operand.tmp 34) (Go.Operand.tmp 35) 9,type:=4,pos := "acl.go:81",after:=#[{ on:=5,ground:=Go.Ground.data },{ on:=6,ground:=Go.Ground.data },{ on:=3,ground:=Go.Ground.guard },{ on:=9,ground:=Go.Ground.gcOnly Go.Departure.lateStores }],guard:=some (3,true) } : Oper)=o:=Option.some.inj ho
  obtain rfl:=h3 (dep_ haft 2 rfl)
  refine no_ (by rfl) ?_
  exact ⟨x3,x29,x30,x31,.bool false,x33,x34,x35,undef,x37,rfl,h0,h1,h2,fun _=>rfl,h4,h5,h6,fun _=>rfl,h8,h9,h10,k6,k2,kb⟩
 ·obtain rfl : ({ dst:=some 37,op:=Go.Op.pick (Go.Operand.tmp 32) (Go.Operand.tmp 36) (Go.Operand.const (Go.Value.bool false)),type:=4,pos := "acl.go:81",after:=#[{ on:=3,ground:=Go.Ground.data },{ on:=7,ground:=Go.Ground.data },{ on:=9,ground:=Go.Ground.gcOnly Go.Departure.lateStores }],guard:=none } : Oper)=o:=Option.some.inj ho
  obtain rfl:=h3 (dep_ haft 0 rfl)
  obtain rfl:=h7 (dep_ haft 1 rfl)
  refine value_ (v:=.bool false) (w1:=W) (by rfl) rfl ?_ ?_
  ·go_simp;try rfl
  exact ⟨x3,x29,x30,x31,.bool false,x33,x34,x35,undef,.bool false,rfl,h0,h1,h2,fun _=>rfl,h4,h5,h6,fun _=>rfl,fun _=>rfl,h9,h10,k6,k2,kb⟩
 ·obtain rfl : ({ dst:=none,op:=Go.Op.store 145 (Go.Operand.tmp 2) (Go.Operand.tmp 29),type:=0,pos := "acl.go:81",after:=#[{ on:=0,ground:=Go.Ground.data },{ on:=5,ground:=Go.Ground.chain },{ on:=0,ground:=Go.Ground.phase },{ on:=1,ground:=Go.Ground.textOnly Go.Departure.lateStores },{ on:=2,ground:=Go.Ground.textOnly Go.Departure.lateStoresUnsure },{ on:=3,ground:=Go.Ground.textOnly Go.Departure.lateStores },{ on:=4,ground:=Go.Ground.textOnly Go.Departure.lateStores },{ on:=5,ground:=Go.Ground.textOnly Go.Departure.lateStoresUnsure },{ on:=6,ground:=Go.Ground.textOnly Go.Departure.lateStores },{ on:=7,ground:=Go.Ground.textOnly Go.Departure.lateStores },{ on:=8,ground:=Go.Ground.textOnly Go.Departure.lateStores }],guard:=none } : Oper)=o:=Option.some.inj ho
  obtain rfl:=h0 (dep_ haft 0 rfl)
  have hz:=k2 hLi
  obtain ⟨q0,q1,q2,q3,qf⟩:=blk4_ hz
  have qf0:=qf 0
  have qf1:=qf 1
  have qf2:=qf 2
  have qf3:=qf 3
  refine skip_ (w1:=set4 W g2 (.bool b) (.string u) (.int .i64 c) (.string p)) (by rfl) rfl ?_ ?_
  ·unfold set4;go_simp
  exact ⟨x3,.agg #[.bool b,.string u,.int .i64 c,.string p],x30,x31,x32,x33,x34,x35,x36,x37,rfl,fun _=>rfl,h1,h2,h3,h4,h5,h6,h7,h8,fun _=>set4_same _ _ _ _ hz,h10,(set4_other _ _ _ _ (Ne.symm h26)).trans k6,fun h=>Bool.noConfusion h,set4_below kb hw2 _ _ _ _⟩
 ·obtain rfl : ({ dst:=some 3,op:=Go.Op.assign (Go.Operand.tmp 37),type:=4,pos := "acl.go:81",after:=#[{ on:=8,ground:=Go.Ground.data },{ on:=9,ground:=Go.Ground.chain },{ on:=0,ground:=Go.Ground.phase },{ on:=1,ground:=Go.Ground.phase },{ on:=2,ground:=Go.Ground.phase },{ on:=3,ground:=Go.Ground.phase },{ on:=4,ground:=Go.Ground.phase },{ on:=5,ground:=Go.Ground.phase },{ on:=6,ground:=Go.Ground.phase },{ on:=7,ground:=Go.Ground.phase },{ on:=8,ground:=Go.Ground.phase },{ on:=9,ground:=Go.Ground.phase }],guard:=none } : Oper)=o:=Option.some.inj ho
  obtain rfl:=h8 (dep_ haft 0 rfl)
  refine value_ (v:=.bool false) (w1:=W) (by rfl) rfl ?_ ?_
  ·go_simp;try rfl
  exact ⟨.bool false,x29,x30,x31,x32,x33,x34,x35,x36,.bool false,rfl,h0,h1,h2,h3,h4,h5,h6,h7,fun _=>rfl,h9,fun _=>rfl,k6,k2,kb⟩
 ·cases ho
theorem R5 {Q : Exit→Act→World→Prop} (s s0 s1 s2 s3 : ByteArray) (gl cl g2 g5 n0 : Nat) (cur : Array Value) (w : World) (p1 p7 p8 p9 p10 p11 p12 p29 p30 p31 p32 p33 p34 p35 p36 p37 : Value) (W0 : World) (u6 u13 u14 u15 u16 u17 u18 u19 u20 u21 u22 u23 u24 u25 u26 u27 u28 : Value) (c0 : cur[0]? = some (.string s0)) (c1 : cur[1]? = some (.string s1)) (c2 : cur[2]? = some (.string s2)) (c3 : cur[3]? = some (.string s3)) (hl5 : gl ≠ g5) (h25 : g2 ≠ g5) (hw5 : w.heap.size ≤ g5) (hwn : w.heap.size ≤ n0) (hln : gl < n0) (h2n : g2 < n0) (h5n : g5 < n0) (hLd : LaidT w) (kl : W0.heap[gl]? = some (.cells cur 9 (0,0))) (k2 : W0.heap[g2]? = some zeroR) (k5 : W0.heap[g5]? = some freshC) (kb : Below w.heap.size w W0) (ks : n0 ≤ W0.heap.size)
  (hQ : ∀ (W : World) (x13 x14 x15 x16 x17 x18 x19 x20 x21 x22 x23 x24 x25 x26 x27 x28 : Value) (g6 : Nat),W.heap[g6]? = some (ruleR (s0.toList == [97,108,108,111,119]) s1 (Lib.idxOfS clsL s2) s3)→n0 ≤ g6→W.heap[g2]? = some zeroR→Below w.heap.size w W→Q .normal ⟨#[(.string s),p1,(.pointer (some ⟨g2,0,none⟩)),(.bool false),(.slice (some ⟨gl,0,none⟩) 4 cl),(.pointer (some ⟨g5,0,none⟩)),(.pointer (some ⟨g6,0,none⟩)),p7,p8,p9,p10,p11,p12,x13,x14,x15,x16,x17,x18,x19,x20,x21,x22,x23,x24,x25,x26,x27,x28,p29,p30,p31,p32,p33,p34,p35,p36,p37],[]⟩ W) :
  (Code.region 5 (opsOf Tryz.f77 5) true).wp Tryz.prog Q ⟨#[(.string s),p1,(.pointer (some ⟨g2,0,none⟩)),(.bool false),(.slice (some ⟨gl,0,none⟩) 4 cl),(.pointer (some ⟨g5,0,none⟩)),u6,p7,p8,p9,p10,p11,p12,u13,u14,u15,u16,u17,u18,u19,u20,u21,u22,u23,u24,u25,u26,u27,u28,p29,p30,p31,p32,p33,p34,p35,p36,p37],[]⟩ W0:=by
 refine wp_region_inv2 (by kernel_rfl) (by kernel_rfl) (I5 s s0 s1 s2 s3 gl cl g2 g5 n0 cur w p1 p7 p8 p9 p10 p11 p12 p29 p30 p31 p32 p33 p34 p35 p36 p37) ?_ (I5.step s s0 s1 s2 s3 gl cl g2 g5 n0 cur w p1 p7 p8 p9 p10 p11 p12 p29 p30 p31 p32 p33 p34 p35 p36 p37 c0 c1 c2 c3 hl5 h25 hw5 hwn hln h2n h5n hLd) ?_
 ·have no : ∀ {p : Prop},false=true→p:=fun h=>Bool.noConfusion h
  exact ⟨u6,u13,u14,u15,u16,u17,u18,u19,u20,u21,u22,u23,u24,u25,u26,u27,u28,rfl,no,no,no,no,no,no,no,no,no,no,no,no,no,no,no,no,no,no,kl,k2,fun _=>k5,kb.drew,ks⟩
 rintro L a' W hall ⟨x6,x13,x14,x15,x16,x17,x18,x19,x20,x21,x22,x23,x24,x25,x26,x27,x28,rfl,h0,h1,h2,h3,h4,h5,h6,h7,h8,h9,h10,h11,h12,h13,h14,h15,h16,h17,kl,k2,k5,kb,ks⟩
 obtain ⟨g6,rfl,hg0,hg2⟩:=h17 (hall 17 (by decide))
 exact hQ W x13 x14 x15 x16 x17 x18 x19 x20 x21 x22 x23 x24 x25 x26 x27 x28 g6 hg2 hg0 k2 kb
theorem R6t {Q : Exit→Act→World→Prop} (s : ByteArray) (b : Bool) (u : ByteArray) (c : Int) (p ln : ByteArray) (g2 g6 : Nat) (w : World) (p1 p4 p5 p7 p8 p9 p10 p11 p12 p13 p14 p15 p16 p17 p18 p19 p20 p21 p22 p23 p24 p25 p26 p27 p28 : Value) (W0 : World) (u3 u29 u30 u31 u32 u33 u34 u35 u36 u37 : Value) (h26 : g2 ≠ g6) (hw2 : w.heap.size ≤ g2) (k : Nat) (hR : acl_Right.f k b u c p=some true) (hLn : Pa.acl_line.f b u c p=some ln) (hLd : Laid w) (k6 : W0.heap[g6]? = some (ruleR b u c p)) (k2 : W0.heap[g2]? = some zeroR) (kb : Below w.heap.size w W0)
  (hQ : ∀ (W : World) (x29 x30 x31 x32 x33 x34 x35 x36 x37 : Value),W.heap[g2]? = some (ruleR b u c p)→Below w.heap.size w W→Q .normal ⟨#[(.string s),p1,(.pointer (some ⟨g2,0,none⟩)),.bool (ln.toList == s.toList),p4,p5,(.pointer (some ⟨g6,0,none⟩)),p7,p8,p9,p10,p11,p12,p13,p14,p15,p16,p17,p18,p19,p20,p21,p22,p23,p24,p25,p26,p27,p28,x29,x30,x31,x32,x33,x34,x35,x36,x37],[]⟩ W) :
  (Code.region 6 (opsOf Tryz.f77 6) true).wp Tryz.prog Q ⟨#[(.string s),p1,(.pointer (some ⟨g2,0,none⟩)),u3,p4,p5,(.pointer (some ⟨g6,0,none⟩)),p7,p8,p9,p10,p11,p12,p13,p14,p15,p16,p17,p18,p19,p20,p21,p22,p23,p24,p25,p26,p27,p28,u29,u30,u31,u32,u33,u34,u35,u36,u37],[]⟩ W0:=by
 refine wp_region_inv2 (by kernel_rfl) (by kernel_rfl) (I6t s b u c p ln g2 g6 w p1 p4 p5 p7 p8 p9 p10 p11 p12 p13 p14 p15 p16 p17 p18 p19 p20 p21 p22 p23 p24 p25 p26 p27 p28) ?_ (I6t.step s b u c p ln g2 g6 w p1 p4 p5 p7 p8 p9 p10 p11 p12 p13 p14 p15 p16 p17 p18 p19 p20 p21 p22 p23 p24 p25 p26 p27 p28 h26 hw2 k hR hLn hLd) ?_
 ·have no : ∀ {p : Prop},false=true→p:=fun h=>Bool.noConfusion h
  exact ⟨u3,u29,u30,u31,u32,u33,u34,u35,u36,u37,rfl,no,no,no,no,no,no,no,no,no,no,no,k6,fun _=>k2,kb.drew⟩
 rintro L a' W hall ⟨x3,x29,x30,x31,x32,x33,x34,x35,x36,x37,rfl,h0,h1,h2,h3,h4,h5,h6,h7,h8,h9,h10,k6,k2,kb⟩
 obtain rfl:=h10 (hall 10 (by decide))
 exact hQ W x29 x30 x31 x32 x33 x34 x35 x36 x37 (h9 (hall 9 (by decide))) kb
theorem R6f {Q : Exit→Act→World→Prop} (s : ByteArray) (b : Bool) (u : ByteArray) (c : Int) (p : ByteArray) (g2 g6 : Nat) (w : World) (p1 p4 p5 p7 p8 p9 p10 p11 p12 p13 p14 p15 p16 p17 p18 p19 p20 p21 p22 p23 p24 p25 p26 p27 p28 : Value) (W0 : World) (u3 u29 u30 u31 u32 u33 u34 u35 u36 u37 : Value) (h26 : g2 ≠ g6) (hw2 : w.heap.size ≤ g2) (k : Nat) (hR : acl_Right.f k b u c p=some false) (k6 : W0.heap[g6]? = some (ruleR b u c p)) (k2 : W0.heap[g2]? = some zeroR) (kb : Below w.heap.size w W0)
  (hQ : ∀ (W : World) (x29 x30 x31 x32 x33 x34 x35 x36 x37 : Value),W.heap[g2]? = some (ruleR b u c p)→Below w.heap.size w W→Q .normal ⟨#[(.string s),p1,(.pointer (some ⟨g2,0,none⟩)),.bool false,p4,p5,(.pointer (some ⟨g6,0,none⟩)),p7,p8,p9,p10,p11,p12,p13,p14,p15,p16,p17,p18,p19,p20,p21,p22,p23,p24,p25,p26,p27,p28,x29,x30,x31,x32,x33,x34,x35,x36,x37],[]⟩ W) :
  (Code.region 6 (opsOf Tryz.f77 6) true).wp Tryz.prog Q ⟨#[(.string s),p1,(.pointer (some ⟨g2,0,none⟩)),u3,p4,p5,(.pointer (some ⟨g6,0,none⟩)),p7,p8,p9,p10,p11,p12,p13,p14,p15,p16,p17,p18,p19,p20,p21,p22,p23,p24,p25,p26,p27,p28,u29,u30,u31,u32,u33,u34,u35,u36,u37],[]⟩ W0:=by
 refine wp_region_inv2 (by kernel_rfl) (by kernel_rfl) (I6f s b u c p g2 g6 w p1 p4 p5 p7 p8 p9 p10 p11 p12 p13 p14 p15 p16 p17 p18 p19 p20 p21 p22 p23 p24 p25 p26 p27 p28) ?_ (I6f.step s b u c p g2 g6 w p1 p4 p5 p7 p8 p9 p10 p11 p12 p13 p14 p15 p16 p17 p18 p19 p20 p21 p22 p23 p24 p25 p26 p27 p28 h26 hw2 k hR) ?_
 ·have no : ∀ {p : Prop},false=true→p:=fun h=>Bool.noConfusion h
  exact ⟨u3,u29,u30,u31,u32,u33,u34,u35,u36,u37,rfl,no,no,no,no,no,no,no,no,no,no,no,k6,fun _=>k2,kb.drew⟩
 rintro L a' W hall ⟨x3,x29,x30,x31,x32,x33,x34,x35,x36,x37,rfl,h0,h1,h2,h3,h4,h5,h6,h7,h8,h9,h10,k6,k2,kb⟩
 obtain rfl:=h10 (hall 10 (by decide))
 exact hQ W x29 x30 x31 x32 x33 x34 x35 x36 x37 (h9 (hall 9 (by decide))) kb
end Go.Proofs.YtkekohmkaefdnaaGreatDoor
namespace Go.Proofs.YtkekohmkaefdnaaGreatDoor
open Go.RowKit Go.Proofs.YtkekohmkaefdnaaGreatDoorW.PrintWords Go.Proofs.YtkekohmkaefdnaaGreatDoorW.PrintLast
def acl_read.f (k : Nat) (s : ByteArray) : Option (Bool × ByteArray × Int × ByteArray × Bool):=
 (strings_Split.f s ⟨#[32]⟩).bind fun l=>match l with
  | [s0,s1,s2,s3]=>(acl_Right.f k (s0.toList == [97,108,108,111,119]) s1 (Lib.idxOfS clsL s2) s3).bind fun rr=>
   if rr=true then (Pa.acl_line.f (s0.toList == [97,108,108,111,119]) s1 (Lib.idxOfS clsL s2) s3).bind fun ln=>some (s0.toList == [97,108,108,111,119],s1,Lib.idxOfS clsL s2,s3,ln.toList == s.toList)
   else some (s0.toList == [97,108,108,111,119],s1,Lib.idxOfS clsL s2,s3,false)
  | _=>some (false,⟨#[]⟩,0,⟨#[]⟩,false)
theorem split_open {W : World} {base : Nat} {v : Value} {l : List ByteArray} (h : Kd.R Kd.string 9 W base (fun _=>True) v l) (h0 : 0 < l.length) :
  ∃ g cap cur,v=.slice (some ⟨g,0,none⟩) l.length cap∧base ≤ g∧W.heap[g]? = some (.cells cur 9 (0,0))∧∀ (j : Nat) x,l[j]? = some x→cur[j]? = some (.string x):=by
 have ho:=Kd.own_of_R h
 rcases ho.2 with ⟨_,h2⟩ | ⟨g,cap,cur,e1,e2,e3,e4,e5,e6,e7⟩
 ·omega
 ·refine ⟨g,cap,cur,e1,e2,e3,fun j x hj=>?_⟩
  obtain ⟨hlt,hx⟩:=List.getElem?_eq_some_iff.1 hj
  have h8 : (cur.toList.take (l.length * 1))[j]? = (encs Value.string l)[j]? := by rw [e7]
  rw [List.getElem?_take,if_pos (by omega)] at h8
  have h9 : (encs Value.string l)[j]? = some (.string x):=by simp [encs,hj]
  rw [h9] at h8
  simpa using h8
theorem read_not (s : ByteArray) (l : List ByteArray) (w : World) (hs : strings_Split.f s ⟨#[32]⟩=some l) (hn : l.length ≠ 4) (h0 : 0 < l.length) (hLd : Laid w) :
  Calls Tryz.prog 77 #[.string s] w fun e w'=>e=.returned (.tuple #[.agg #[.bool false,.string ⟨#[]⟩,.int .i64 0,.string ⟨#[]⟩],.bool false])∧Below w.heap.size w w':=by
 have al:=(Below.refl w.heap.size w).alloc (Nat.le_refl _) (.cells #[.bool false,.string ⟨#[]⟩,.int .i64 0,.string ⟨#[]⟩] 145)
 have AL:=Lib.hid al
 have HL:=Lib.hid (hLd.below rfl al)
 clear al
 have HG0:=Lib.hid (heap_alloc_new w (.cells #[.bool false,.string ⟨#[]⟩,.int .i64 0,.string ⟨#[]⟩] 145))
 have hne : decide ((l.length : Int)=4)=false:=decide_eq_false (by omega)
 have hne2 : ((l.length : Int) == 4)=false:=beq_eq_false_iff_ne.2 (by omega)
 have hne3 : ((l.length : Int) != 4)=true:=by simp [bne,hne2]
 go_enter Tryz.func77,Tryz.ntmps77
 go_wp2_with (go_at_call 76;refine (strings_Split.calls s ⟨#[32]⟩ l _ hs HL.out).mono ?_;rintro e w1 ⟨v,rfl,hR,hb⟩;obtain ⟨gl,cap,cur,rfl,hgl,hcur,hc⟩:=split_open hR h0;have HB:=Lib.hid (below_step AL.out hb);have HG:=Lib.hid (blk_below HG0.out hb);clear hb hc hcur hR;obtain ⟨q0,q1,q2,q3,qf⟩:=blk4_ HG.out;have qf0:=qf 0;have qf1:=qf 1;have qf2:=qf 2;have qf3:=qf 3)
 have hgs : (set4 w1 w.heap.size (.bool false) (.string ⟨#[]⟩) (.int .i64 0) (.string ⟨#[]⟩)).heap[w.heap.size]? = some (.cells #[.bool false,.string ⟨#[]⟩,.int .i64 0,.string ⟨#[]⟩] 145 (0,0)):=set4_same _ _ _ _ HG.out
 refine bodyPost_ret_by (results_ct rfl _ _ w.heap.size 145 _ (0,0) _ rfl hgs Tryz.underlying145 rfl (by kernel_rfl)) rfl ?_
 exact ⟨rfl,set4_below HB.out (Nat.le_refl _) _ _ _ _⟩
theorem read_four (k : Nat) (s s0 s1 s2 s3 : ByteArray) (rr : Bool) (ln : ByteArray) (w : World) (hs : strings_Split.f s ⟨#[32]⟩=some [s0,s1,s2,s3]) (hLd : Laid w)
  (hR : acl_Right.f k (s0.toList == [97,108,108,111,119]) s1 (Lib.idxOfS clsL s2) s3=some rr)
  (hLn : rr=true→Pa.acl_line.f (s0.toList == [97,108,108,111,119]) s1 (Lib.idxOfS clsL s2) s3=some ln) :
  Calls Tryz.prog 77 #[.string s] w fun e w'=>e=.returned (.tuple #[.agg #[.bool (s0.toList == [97,108,108,111,119]),.string s1,.int .i64 (Lib.idxOfS clsL s2),.string s3],.bool (rr && (ln.toList == s.toList))])∧Below w.heap.size w w':=by
 have al:=(Below.refl w.heap.size w).alloc (Nat.le_refl _) (.cells #[.bool false,.string ⟨#[]⟩,.int .i64 0,.string ⟨#[]⟩] 145)
 have AL:=Lib.hid al
 have HL:=Lib.hid (hLd.below rfl al)
 clear al
 have HG0:=Lib.hid (heap_alloc_new w (.cells #[.bool false,.string ⟨#[]⟩,.int .i64 0,.string ⟨#[]⟩] 145))
 have HRR:=Lib.hid hR
 have HLN:=Lib.hid hLn
 have HLD:=Lib.hid hLd
 clear hR hLn hLd
 go_enter Tryz.func77,Tryz.ntmps77
 go_wp2_with (first | (go_at_call 76;refine (strings_Split.calls s ⟨#[32]⟩ _ _ hs HL.out).mono ?_;rintro e w1 ⟨v,rfl,hR,hb⟩;obtain ⟨gl,cap,cur,rfl,hgl,hcur,hc⟩:=split_open hR (Nat.zero_lt_succ 3);have HB:=Lib.hid (below_step AL.out hb);have HG:=Lib.hid (blk_below HG0.out hb);have HC:=Lib.hid hcur;have HX:=Lib.hid hc;have HS:=Lib.hid (show w.heap.size < w1.heap.size from Nat.lt_of_lt_of_le (blk_lt HG0.out) hb.size);have HGL:=Lib.hid (show w.heap.size < gl from Nat.lt_of_lt_of_le (blk_lt HG0.out) hgl);clear hb hc hcur hR hgl) | fail)
 have alc:=(Below.refl w1.heap.size w1).alloc (Nat.le_refl _) (.cells #[.int .u32 0,.int .i32 0,.int .u32 0,.slice none 0 0] 197)
 have hHS:=HS.out
 have hHGL:=HGL.out
 have hgl1 : gl < w1.heap.size:=blk_lt HC.out
 have hsz1 : (w1.alloc (.cells #[.int .u32 0,.int .i32 0,.int .u32 0,.slice none 0 0] 197)).heap.size=w1.heap.size + 1:=by simp
 refine R5 s s0 s1 s2 s3 gl cap w.heap.size w1.heap.size (w1.heap.size + 1) cur w _ _ _ _ _ _ _ _ _ _ _ _ _ _ _ _ _ _ _ _ _ _ _ _ _ _ _ _ _ _ _ _ _ _ (HX.out 0 _ rfl) (HX.out 1 _ rfl) (HX.out 2 _ rfl) (HX.out 3 _ rfl) (by omega) (by omega) (by omega) (by omega) (by omega) (by omega) (by omega) HLD.out.1
  (blk_below HC.out alc) (blk_below HG.out alc) (heap_alloc_new w1 _) (below_step HB.out alc) (by rw [hsz1];exact Nat.le_refl _) ?_
 intro W x13 x14 x15 x16 x17 x18 x19 x20 x21 x22 x23 x24 x25 x26 x27 x28 g6 hg6 hn6 hg2 hB
 have H6:=Lib.hid hg6
 have H2:=Lib.hid hg2
 have HBW:=Lib.hid hB
 have H26:=Lib.hid (show w.heap.size ≠ g6 by omega)
 clear hg6 hg2 hB alc hsz1 hgl1 hHS hHGL hn6 HC HX HS HGL HG HB AL HL HG0
 rename_i K hK
 show K _ W
 refine hK _ _ ?_
 clear hK K
 dsimp only
 go_wp2_with fail
 cases rr with
 | true=>
  refine R6t s _ s1 _ s3 ln w.heap.size g6 w _ _ _ _ _ _ _ _ _ _ _ _ _ _ _ _ _ _ _ _ _ _ _ _ _ W _ _ _ _ _ _ _ _ _ _ H26.out (Nat.le_refl _) k HRR.out (HLN.out rfl) HLD.out H6.out H2.out HBW.out ?_
  intro W2 y29 y30 y31 y32 y33 y34 y35 y36 y37 hg hb
  have HB2:=Lib.hid hb
  have HG2:=Lib.hid hg
  clear hb hg
  rename_i K Q' hK
  show K _ W2
  refine hK _ _ ?_
  clear hK K
  dsimp only
  go_wp2_with fail
  refine bodyPost_ret_by (results_ct rfl _ _ w.heap.size 145 _ (0,0) _ rfl HG2.out Tryz.underlying145 rfl (by kernel_rfl)) rfl ?_
  exact ⟨rfl,HB2.out⟩
 | false=>
  refine R6f s _ s1 _ s3 w.heap.size g6 w _ _ _ _ _ _ _ _ _ _ _ _ _ _ _ _ _ _ _ _ _ _ _ _ _ W _ _ _ _ _ _ _ _ _ _ H26.out (Nat.le_refl _) k HRR.out H6.out H2.out HBW.out ?_
  intro W2 y29 y30 y31 y32 y33 y34 y35 y36 y37 hg hb
  have HB2:=Lib.hid hb
  have HG2:=Lib.hid hg
  clear hb hg
  rename_i K Q' hK
  show K _ W2
  refine hK _ _ ?_
  clear hK K
  dsimp only
  go_wp2_with fail
  refine bodyPost_ret_by (results_ct rfl _ _ w.heap.size 145 _ (0,0) _ rfl HG2.out Tryz.underlying145 rfl (by kernel_rfl)) rfl ?_
  exact ⟨rfl,HB2.out⟩
theorem acl_read.calls (k : Nat) (a0 : ByteArray) (r1 : Bool) (r2 : ByteArray) (r3 : Int) (r4 : ByteArray) (r5 : Bool) (w : World) (h : acl_read.f k a0=some (r1,r2,r3,r4,r5)) (hLd : Laid w) :
  Calls Tryz.prog 77 #[.string a0] w fun e w'=>e=.returned (.tuple #[.agg #[.bool r1,.string r2,.int .i64 r3,.string r4],.bool r5])∧Below w.heap.size w w':=by
 unfold acl_read.f at h
 obtain ⟨l,hs,h⟩:=Option.bind_eq_some_iff.1 h
 have h0 : 0 < l.length:=by
  unfold strings_Split.f at hs
  split at hs
  ·rename_i hc
   have:=Lib.splitB_all ⟨#[32]⟩ hc.2 0 _ a0 rfl
   rw [← Option.some.inj hs,this]
   exact Nat.zero_lt_succ _
  ·cases hs
 match l,hs,h,h0 with
 | [s0,s1,s2,s3],hs,h,_=>
  obtain ⟨rr,hR,h⟩:=Option.bind_eq_some_iff.1 h
  cases rr with
  | true=>
   rw [if_pos rfl] at h
   obtain ⟨ln,hL,h⟩:=Option.bind_eq_some_iff.1 h
   have h':=Option.some.inj h
   simp only [Prod.mk.injEq] at h'
   obtain ⟨rfl,rfl,rfl,rfl,rfl⟩:=h'
   exact read_four k a0 s0 _ s2 _ true ln w hs hLd hR (fun _=>hL)
  | false=>
   rw [if_neg (by decide)] at h
   have h':=Option.some.inj h
   simp only [Prod.mk.injEq] at h'
   obtain ⟨rfl,rfl,rfl,rfl,rfl⟩:=h'
   exact read_four k a0 s0 _ s2 _ false ⟨#[]⟩ w hs hLd hR (fun h=>Bool.noConfusion h)
 | [],hs,h,h0=>exact absurd h0 (Nat.lt_irrefl 0)
 | [x0],hs,h,h0=>
  have h':=Option.some.inj h
  simp only [Prod.mk.injEq] at h'
  obtain ⟨rfl,rfl,rfl,rfl,rfl⟩:=h'
  exact read_not a0 _ w hs (by simp) h0 hLd
 | [x0,x1],hs,h,h0=>
  have h':=Option.some.inj h
  simp only [Prod.mk.injEq] at h'
  obtain ⟨rfl,rfl,rfl,rfl,rfl⟩:=h'
  exact read_not a0 _ w hs (by simp) h0 hLd
 | [x0,x1,x2],hs,h,h0=>
  have h':=Option.some.inj h
  simp only [Prod.mk.injEq] at h'
  obtain ⟨rfl,rfl,rfl,rfl,rfl⟩:=h'
  exact read_not a0 _ w hs (by simp) h0 hLd
 | x0 :: x1 :: x2 :: x3 :: x4 :: xs,hs,h,h0=>
  have h':=Option.some.inj h
  simp only [Prod.mk.injEq] at h'
  obtain ⟨rfl,rfl,rfl,rfl,rfl⟩:=h'
  exact read_not a0 _ w hs (by simp) h0 hLd
end Go.Proofs.YtkekohmkaefdnaaGreatDoor
namespace Go.Proofs.YtkekohmkaefdnaaGreatDoor
open Go.RowKit
def strings_Clone.f (a0 : ByteArray) : Option ByteArray:=if a0.size ≤ 281474976710656 then some a0 else none
theorem strings_Clone.calls (a0 : ByteArray) (r : ByteArray) (w : World) (h : strings_Clone.f a0=some r) :
  Calls Tryz.prog 57 #[.string a0] w fun e w'=>e=.returned (.string r)∧Below w.heap.size w w':=by
 unfold strings_Clone.f at h
 by_cases hs : a0.size ≤ 281474976710656
 ·rw [if_pos hs] at h
  obtain rfl : a0=r:=Option.some.inj h
  clear h
  go_enter Tryz.func57,Tryz.ntmps57
  go_wp2_with (go_at_call 89;refine (Tryz.stringslite_Clone _ _ hs).mono ?_;rintro e w' ⟨rfl,hb⟩;have HB:=Lib.hid hb;clear hb)
  go_ret
  exact ⟨rfl,HB.out⟩
 ·rw [if_neg hs] at h
  cases h
def isB (w : World) (g : Nat) (xs : List Int) : Prop:=w.heap[g]? = some (.cells (xs.map (Value.int .u8)).toArray 5 (0,0))
theorem isB.cell {w : World} {g : Nat} {xs : List Int} (h : isB w g xs) (i : Nat) (hi : i < xs.length) : w.cell? ⟨g,i,none⟩=some (.int .u8 (xs.getD i 0)):=by
 have h' : w.heap[g]? = some _:=h
 simp [World.cell?,h',List.getD,hi]
theorem isB.free {w : World} {g : Nat} {xs : List Int} (h : isB w g xs) (i : Nat) : w.frozen? ⟨g,i,none⟩=false:=frozen_of_row w g i _ _ h
theorem isB.set {w : World} {g : Nat} {xs : List Int} (h : isB w g xs) (i : Nat) (v : Int) : isB (w.setCell ⟨g,i,none⟩ (.int .u8 v)) g (xs.set i v):=by
 have h':=heap_setCell_same w g i _ _ (.int .u8 v) h
 unfold isB
 rw [h',List.map_set]
 simp
theorem isB.conv {w : World} {g : Nat} {xs : List Int} (h : isB w g xs) (n c : Nat) (hn : xs.length=n) : (convert 150 9 (.slice (some ⟨g,0,none⟩) n c)).run Tryz.prog w=.ok (.string (strOfNums xs)) w:=
 run_convert_bytes_arg (P:=Tryz.prog) w 150 5 Tryz.underlying150 Tryz.underlying5 g 0 n c xs hn (fun i hi=>by
  have:=h.cell i (by omega)
  simpa using this) 9 Tryz.underlying9
def pbyte (v : Int) (k : Nat) : Int:=v / 2 ^ (8 * k) % 256
def pcells (v : Int) (n k : Nat) : List Int:=(List.range n).map fun j=>if n ≤ j + k then pbyte v (n - 1 - j) else 0
theorem pcells_length (v : Int) (n k : Nat) : (pcells v n k).length=n:=by simp [pcells]
theorem pcells_zero (v : Int) (n : Nat) : pcells v n 0=List.replicate n 0:=by
 refine List.ext_getElem (by simp [pcells]) fun i h1 h2=>?_
 simp [pcells] at h1 ⊢
 omega
theorem pcells_succ (v : Int) (n k : Nat) (h : k < n) : (pcells v n k).set (n - 1 - k) (pbyte v k)=pcells v n (k + 1):=by
 refine List.ext_getElem (by simp [pcells]) fun i h1 h2=>?_
 simp only [pcells,List.getElem_set,List.getElem_map,List.getElem_range]
 by_cases e : n - 1 - k=i
 ·rw [if_pos e,if_pos (by omega),show n - 1 - i=k from by omega]
 ·rw [if_neg e]
  by_cases e2 : n ≤ i + k
  ·rw [if_pos e2,if_pos (by omega)]
  ·rw [if_neg e2,if_neg (by omega)]
def octet_PutBig.f (a0 a1 : Int) : Option ByteArray:=if 1 ≤ a1∧a1 ≤ 8 then some (strOfNums (pcells a0 a1.toNat a1.toNat)) else some ⟨#[]⟩
theorem info_u8 : (Tryz.prog.info? 5).map (fun i=>(i.zero,i.size,i.bytes))=some (some (.int .u8 0),1,1):=by kernel_rfl
theorem octet_PutBig.calls (a0 a1 : Int) (r : ByteArray) (w : World) (h : octet_PutBig.f a0 a1=some r) :
  Calls Tryz.prog 137 #[.int .u64 a0,.int .i64 a1] w fun e w'=>e=.returned (.string r)∧Below w.heap.size w w':=by
 unfold octet_PutBig.f at h
 by_cases hn : 1 ≤ a1∧a1 ≤ 8
 ·rw [if_pos hn] at h
  have HR:=Lib.hid (Option.some.inj h)
  clear h
  obtain ⟨n1,n2⟩:=hn
  obtain ⟨n,rfl⟩:=Int.eq_ofNat_of_zero_le (show 0 ≤ a1 by omega)
  rw [Int.toNat_natCast] at HR
  obtain ⟨i0,hi,hz0,hz1,hz2⟩:=info_parts info_u8
  have hmk : ∀ W : World,(Instr.makeSlice 150 (.int .i64 n) (.int .i64 n)).run Tryz.prog W=.ok (.slice (some ⟨W.heap.size,0,none⟩) n n) (W.alloc (.cells (madeCells (Value.int .u8 0).cells n) 5)):=fun W=>by
   have:=run_make W 150 5 i0 _ Tryz.underlying150 hi hz0 .i64 .i64 n n (by omega) (Int.le_refl _) (by rw [hz2];omega) (by omega)
   rw [hz1] at this
   simpa using this
  clear hi hz0 hz1 hz2
  go_enter Tryz.func137,Tryz.ntmps137
  go_wp2
  have h0 : isB (w.alloc (.cells (madeCells (Value.int .u8 0).cells n) 5)) w.heap.size (pcells a0 n 0):=by
   rw [pcells_zero]
   refine (heap_alloc_new w _).trans ?_
   congr 2
   apply Array.toList_inj.mp
   rw [show madeCells (Value.int .u8 0).cells n=madeCells #[Value.int .u8 0] n from rfl,toList_madeCells_one]
   simp
  have hb0 : Below w.heap.size w (w.alloc (.cells (madeCells (Value.int .u8 0).cells n) 5)):=(Below.refl _ w).alloc (Nat.le_refl _) _
  go_loopw [17] (fun i wr=>∃ k : Nat,k ≤ n∧i=.int .i64 k∧Aside (isB wr w.heap.size (pcells a0 n k))∧Aside (Below w.heap.size w wr)) (fun i _=>n - (intOf i).toNat)
  case atStart=>exact ⟨0,Nat.zero_le _,rfl,h0,hb0⟩
  case round=>
   obtain ⟨k,hk,rfl,hI,hB⟩:=hrel
   by_cases hlt : k < n
   ·have hcell:=hI.out.cell (n - 1 - k) (by rw [pcells_length];omega)
    have hfree:=hI.out.free (n - 1 - k)
    have hidx : ((n : Int) - 1 - (k : Int)).toNat=n - 1 - k:=by omega
    go_wp2
    go_roundw
    case rel=>
     refine ⟨k + 1,by omega,by go_num,?_,?_⟩
     ·have:=hI.out.set (n - 1 - k) (pbyte a0 k)
      rw [pcells_succ a0 n k hlt] at this
      exact this
     ·exact hB.out.setCell (Nat.le_refl _) _
    case measure=>simp [intOf];omega
   ·obtain rfl : k=n:=by omega
    have hcv:=hI.out.conv k k (pcells_length _ _ _)
    rw [HR.out] at hcv
    go_wp2
    go_ret
    exact ⟨rfl,hB.out⟩
 ·rw [if_neg hn] at h
  obtain rfl : (⟨#[]⟩ : ByteArray)=r:=Option.some.inj h
  clear h
  have h2 : a1 < 1 ∨ 8 < a1:=by omega
  clear hn
  rcases h2 with h2 | h2
  all_goals
   go_enter Tryz.func137,Tryz.ntmps137
   go_wp2
   go_ret
   exact ⟨rfl,Below.refl _ _⟩
end Go.Proofs.YtkekohmkaefdnaaGreatDoor
namespace Go.Proofs.YtkekohmkaefdnaaGreatDoor
open Go.RowKit Go.Proofs.YtkekohmkaefdnaaGreatDoorW.PrintWords Go.Proofs.YtkekohmkaefdnaaGreatDoorW.PrintLast
end Go.Proofs.YtkekohmkaefdnaaGreatDoor
namespace Go.Proofs.YtkekohmkaefdnaaGreatDoor.Pb
open Go.Proofs.YtkekohmkaefdnaaGreatDoor.Pa
open Go.RowKit Go.Proofs.YtkekohmkaefdnaaGreatDoorW.PrintWords Go.Proofs.YtkekohmkaefdnaaGreatDoorW.PrintLast Go.Proofs.YtkekohmkaefdnaaGreatDoorW.PrintMore
attribute [local go_sem] max2_int min2_int max_two min_two max_three min_three max_four min_four
def errW : Option Int→Value
 | none=>.nilIface
 | some c=>.iface 0 (.int .i64 c)
theorem errW_none : errW none=.nilIface:=rfl
theorem errW_some (c : Int) : errW (some c)=.iface 0 (.int .i64 c):=rfl
theorem info5 : (Tryz.prog.info? 5).map (fun i=>(i.zero,i.size,i.bytes))=some (some (.int .u8 0),1,1):=by kernel_rfl
theorem info145 : (Tryz.prog.info? 145).map (fun i=>(i.zero,i.size,i.bytes))=some (some (.agg #[(.bool false),(.string ⟨#[]⟩),(.int .i64 0),(.string ⟨#[]⟩)]),4,48):=by kernel_rfl
end Go.Proofs.YtkekohmkaefdnaaGreatDoor.Pb
