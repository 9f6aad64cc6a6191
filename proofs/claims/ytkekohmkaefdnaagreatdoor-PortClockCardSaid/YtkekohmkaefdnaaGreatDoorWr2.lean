import Derived.Test.YtkekohmkaefdnaaGreatDoorPb0
import Derived.Test.YtkekohmkaefdnaaGreatDoorPc0
import Derived.Test.YtkekohmkaefdnaaGreatDoorPo
set_option linter.unusedVariables false
set_option linter.unusedSimpArgs false
namespace Go.Proofs.YtkekohmkaefdnaaGreatDoor.Rq
open Go.RowKit
def NumP (a b : Int) : Prop:=-1000000000000 ≤ a∧a ≤ 1000000000000∧0 ≤ b∧b ≤ 1000000000000
instance (a b : Int) : Decidable (NumP a b):=by unfold NumP;infer_instance
def numB (a b : Int) : Bool:=decide (NumP a b)
theorem numB_true {a b : Int} (h : NumP a b) : numB a b=true:=decide_eq_true h
theorem numB_false {a b : Int} (h : ¬ NumP a b) : numB a b=false:=decide_eq_false h
def oneB (x : Int) : ByteArray:=strOfNums [x]
theorem oneB_size (x : Int) : (oneB x).size=1:=rfl
theorem conv_one (W : World) (x : Int) : (convert 150 9 (.slice (some ⟨W.heap.size,0,none⟩) 1 1)).run Tryz.prog (W.alloc (.cells #[.int .u8 x] 5))=.ok (.string (oneB x)) (W.alloc (.cells #[.int .u8 x] 5)):=
 isB.conv (xs:=[x]) (heap_alloc_new W _) 1 1 rfl
def shortB (s : ByteArray) : ByteArray:=oneB ((s.size : Int) % 256) ++ s
def pairB (a b : Int) : ByteArray:=strOfNums (pcells (a + 1000000000000) 8 8) ++ strOfNums (pcells b 8 8)
theorem big_size (x : Int) : (strOfNums (pcells x 8 8)).size=8:=by rw [strOfNums_size,pcells_length]
theorem shortB_size (s : ByteArray) : (shortB s).size=1 + s.size:=by unfold shortB;rw [ByteArray.size_append,oneB_size]
theorem pairB_size (a b : Int) : (pairB a b).size=16:=by unfold pairB;rw [ByteArray.size_append,big_size,big_size]
set_option maxHeartbeats 400000 in
theorem short_any (s : ByteArray) (w : World) (hs : s.size ≤ 140737488351232) :
  Calls Tryz.prog 158 #[.string s] w fun e w'=>e=.returned (.string (shortB s))∧Below w.heap.size w w':=by
 have hcv:=conv_one
 have hz:=oneB_size
 go_enter Tryz.func158,Tryz.ntmps158
 go_wp2
 go_ret
 exact ⟨rfl,(Below.refl _ w).alloc (Nat.le_refl _) _⟩
theorem pb_any (x : Int) (w : World) : Calls Tryz.prog 137 #[.int .u64 x,.int .i64 8] w fun e w'=>e=.returned (.string (strOfNums (pcells x 8 8)))∧Below w.heap.size w w':=
 octet_PutBig.calls x 8 _ w rfl
set_option maxHeartbeats 400000 in
theorem pair_any (a b : Int) (w : World) (ha : -1000000000000 ≤ a) (ha2 : a ≤ 1000000000000) (hb0 : 0 ≤ b) (hb1 : b ≤ 1000000000000) :
  Calls Tryz.prog 157 #[.int .i64 a,.int .i64 b] w fun e w'=>e=.returned (.string (pairB a b))∧Below w.heap.size w w':=by
 have hz:=big_size
 go_enter Tryz.func157,Tryz.ntmps157
 go_wp2_with fail
 refine (pb_any _ _).mono ?_
 rintro e w1 ⟨rfl,h1⟩
 have HB1:=Lib.hid h1
 clear h1
 go_wp2_with fail
 refine (pb_any _ _).mono ?_
 rintro e w2 ⟨rfl,h2⟩
 have HB2:=Lib.hid h2
 clear h2
 go_wp2
 go_ret
 exact ⟨rfl,HB1.out.trans (HB2.out.mono HB1.out.size)⟩
theorem wrap_small (n : Nat) (h : n < 9223372036854775808) : wrap64 (n : Int)=n:=by unfold wrap64;omega
end Go.Proofs.YtkekohmkaefdnaaGreatDoor.Rq
