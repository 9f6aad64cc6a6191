import Derived.Test.YtbfdaclekjgkfaaGreatDoorWrap
import Derived.Deep.Heap
import Derived.Test.YtbfdaclekjgkfaaGreatDoorPr2
import Derived.RowKit

/- The program's reader: the next bytes, the next number, the command of bytes. -/
namespace Go.Proofs.YtbfdaclekjgkfaaGreatDoor
open Go.RowKit

/-- A reader at block g: what is left, and whether it has failed. -/
def RS (W : World) (g : Nat) (b : ByteArray) (bad : Bool) : Prop := W.heap[g]? = some (.cells #[.string b, .bool bad] 70 (0, 0))
theorem RS.c0 {W : World} {g : Nat} {b : ByteArray} {bad : Bool} (h : RS W g b bad) : W.cell? ⟨g, 0, none⟩ = some (.string b) := by
  have h' : W.heap[g]? = some _ := h
  simp [World.cell?, h']
theorem RS.c1 {W : World} {g : Nat} {b : ByteArray} {bad : Bool} (h : RS W g b bad) : W.cell? ⟨g, 1, none⟩ = some (.bool bad) := by
  have h' : W.heap[g]? = some _ := h
  simp [World.cell?, h']
theorem RS.free {W : World} {g : Nat} {b : ByteArray} {bad : Bool} (h : RS W g b bad) (o : Nat) : W.frozen? ⟨g, o, none⟩ = false := frozen_of_row W g o _ _ h
theorem RS.lt {W : World} {g : Nat} {b : ByteArray} {bad : Bool} (h : RS W g b bad) : g < W.heap.size := lt_of_block h
theorem RS.set0 {W : World} {g : Nat} {b : ByteArray} {bad : Bool} (h : RS W g b bad) (c : ByteArray) : RS (W.setCell ⟨g, 0, none⟩ (.string c)) g c bad := by
  have := heap_setCell_same W g 0 _ _ (.string c) h
  simpa [RS] using this
theorem RS.set1 {W : World} {g : Nat} {b : ByteArray} {bad : Bool} (h : RS W g b bad) (c : Bool) : RS (W.setCell ⟨g, 1, none⟩ (.bool c)) g b c := by
  have := heap_setCell_same W g 1 _ _ (.bool c) h
  simpa [RS] using this
theorem RS.below {W W2 : World} {g : Nat} {b : ByteArray} {bad : Bool} (h : RS W g b bad) (hb : Below W.heap.size W W2) : RS W2 g b bad := (hb.block g h.lt).trans h

theorem grown_set (w : World) (g o : Nat) (v : Value) : w.grownBy (w.setCell ⟨g, o, none⟩ v) (some g) :=
  ⟨rfl, rfl, rfl, by simp, fun k _ hne => Below.heap_setCell _ _ _ _ (fun h => hne (by rw [h]))⟩
theorem grown_below {w w' : World} (h : Below w.heap.size w w') (row : Option Nat) : w.grownBy w' row := ⟨h.os, h.tape, h.output, h.size, fun k hk _ => h.block k hk⟩
theorem grown_trans {a b c : World} {row : Option Nat} (h : a.grownBy b row) (h2 : b.grownBy c row) : a.grownBy c row :=
  ⟨h2.os.trans h.os, h2.tape.trans h.tape, h2.output.trans h.output, Nat.le_trans h.size h2.size, fun k hk hne => (h2.block k (Nat.lt_of_lt_of_le hk h.size) hne).trans (h.block k hk hne)⟩

def takeOk (b : ByteArray) (bad : Bool) (n : Int) : Bool := !bad && decide (n ≤ b.size)
def takeOut (b : ByteArray) (bad : Bool) (n : Int) : ByteArray := if takeOk b bad n then b.extract 0 n.toNat else ⟨#[]⟩
def takeLeft (b : ByteArray) (bad : Bool) (n : Int) : ByteArray := if takeOk b bad n then b.extract n.toNat b.size else b
def takeBad (b : ByteArray) (bad : Bool) (n : Int) : Bool := !takeOk b bad n

/-- What the walk of 'take' leaves. -/
def TakeE (g : Nat) (b : ByteArray) (bad : Bool) (n : Int) (w : World) (e : Ending) (w' : World) : Prop :=
  e = .returned (.string (takeOut b bad n)) ∧ RS w' g (takeLeft b bad n) (takeBad b bad n) ∧ w.grownBy w' (some g)

theorem takeOk_yes {b : ByteArray} {n : Int} (h : n ≤ b.size) : takeOk b false n = true := by simp [takeOk, h]
theorem takeOk_no {b : ByteArray} {n : Int} (h : (b.size : Int) < n) : takeOk b false n = false := by simp [takeOk]; omega
theorem takeE_no {g : Nat} {b : ByteArray} {bad : Bool} {n : Int} {w w' : World} (h : takeOk b bad n = false) (h1 : RS w' g b true) (h2 : w.grownBy w' (some g)) : TakeE g b bad n w (.returned (.string ⟨#[]⟩)) w' := by
  refine ⟨?_, ?_, h2⟩
  · simp [takeOut, h]
  · simpa [takeLeft, takeBad, h] using h1
theorem takeE_yes {g : Nat} {b : ByteArray} {n : Int} {w w' : World} (h : takeOk b false n = true) (h1 : RS w' g (b.extract n.toNat b.size) false) (h2 : w.grownBy w' (some g)) : TakeE g b false n w (.returned (.string (b.extract 0 n.toNat))) w' := by
  refine ⟨?_, ?_, h2⟩
  · simp [takeOut, h]
  · simpa [takeLeft, takeBad, h] using h1

set_option maxRecDepth 100000 in
set_option maxHeartbeats 800000 in
theorem take_any (g : Nat) (b : ByteArray) (bad : Bool) (n : Int) (w : World) (h : RS w g b bad) (hs : b.size ≤ 140737488351232) (h0 : 0 ≤ n) :
    Calls Tryz.prog 28 #[.pointer (some ⟨g, 0, none⟩), .int .i64 n] w (TakeE g b bad n w) := by
  have c0 := h.c0
  have c1 := h.c1
  have f0 := h.free 0
  have f1 := h.free 1
  have H := Lib.hid h
  clear h
  cases bad with
  | true =>
    go_enter Tryz.func28, Tryz.ntmps28
    go_wp2
    go_ret
    exact takeE_no rfl (H.out.set1 true) (grown_set _ _ _ _)
  | false =>
    by_cases hn : n ≤ b.size
    · have hok := takeOk_yes hn
      have HO := Lib.hid hok
      clear hok
      have hcl : ∀ (s : ByteArray) (W : World), s.size ≤ 281474976710656 → Calls Tryz.prog 64 #[.string s] W fun e w' => e = .returned (.string s) ∧ Below W.heap.size W w' := fun s W h => strings_Clone.calls s s W (by unfold strings_Clone.f; rw [if_pos h])
      have HC := Lib.hid hcl
      clear hcl
      go_enter Tryz.func28, Tryz.ntmps28
      go_wp2_with (go_at_call 64; refine (HC.out _ _ (by simp; omega)).mono ?_; rintro e w2 ⟨rfl, hb⟩; have HB := Lib.hid hb; clear hb)
      go_ret
      exact takeE_yes HO.out ((H.out.set0 _).below HB.out) (grown_trans (grown_set _ _ _ _) (grown_below HB.out _))
    · have hn' : (b.size : Int) < n := by omega
      go_enter Tryz.func28, Tryz.ntmps28
      go_wp2
      go_ret
      exact takeE_no (takeOk_no hn') (H.out.set1 true) (grown_set _ _ _ _)

/-- The next number. -/
def numV (b : ByteArray) (bad : Bool) (n : Int) : Int := wrap64 (bigL ((takeOut b bad n).data.toList.drop ((takeOut b bad n).size - 8)) : Nat)
def NumE (g : Nat) (b : ByteArray) (bad : Bool) (n : Int) (w : World) (e : Ending) (w' : World) : Prop :=
  e = .returned (.int .i64 (numV b bad n)) ∧ RS w' g (takeLeft b bad n) (takeBad b bad n) ∧ w.grownBy w' (some g)
theorem takeOut_size (b : ByteArray) (bad : Bool) (n : Int) : (takeOut b bad n).size ≤ b.size := by
  unfold takeOut
  split
  · simp; omega
  · exact Nat.zero_le _
theorem takeLeft_size (b : ByteArray) (bad : Bool) (n : Int) : (takeLeft b bad n).size ≤ b.size := by
  unfold takeLeft
  split
  · simp
  · exact Nat.le_refl _

set_option maxRecDepth 100000 in
set_option maxHeartbeats 800000 in
theorem number_any (g : Nat) (b : ByteArray) (bad : Bool) (n : Int) (w : World) (h : RS w g b bad) (hs : b.size ≤ 140737488351232) (h0 : 0 ≤ n) :
    Calls Tryz.prog 27 #[.pointer (some ⟨g, 0, none⟩), .int .i64 n] w (NumE g b bad n w) := by
  have H := Lib.hid h
  have hz := takeOut_size b bad n
  have hbg : Hid (∀ W, Calls Tryz.prog 63 #[.string (takeOut b bad n)] W fun e w' => e = .returned (.int .u64 (bigL ((takeOut b bad n).data.toList.drop ((takeOut b bad n).size - 8)) : Nat)) ∧ Below W.heap.size W w') := Lib.hid fun W => octet_Big.calls _ _ W (by unfold octet_Big.f; rw [if_pos (by omega)])
  go_enter Tryz.func27, Tryz.ntmps27
  go_wp2_with (first | (go_at_call 28; refine (take_any g b bad n _ H.out hs h0).mono ?_; rintro e w1 ⟨rfl, hr, hg⟩; have HR := Lib.hid hr; have HG := Lib.hid hg; clear hr hg) | (go_at_call 63; refine (hbg.out _).mono ?_; rintro e w2 ⟨rfl, hb⟩; have HB := Lib.hid hb; clear hb))
  go_ret
  exact ⟨rfl, HR.out.below HB.out, grown_trans HG.out (grown_below HB.out _)⟩
end Go.Proofs.YtbfdaclekjgkfaaGreatDoor

/- The command of bytes, by the program. -/
namespace Go.Proofs.YtbfdaclekjgkfaaGreatDoor
open Go.RowKit

/-- A command as bytes, and whether it may be. -/
def putS (op : Int) (k v : ByteArray) (a b : Int) : ByteArray := if rightB op k.size v.size a b then putB op k v a b else ⟨#[]⟩
theorem putF_eq (op : Int) (k v : ByteArray) (a b : Int) : Pr.command_Put.f op k v a b = some (putS op k v a b, rightB op k.size v.size a b) := by
  unfold Pr.command_Put.f command_Right.f putS
  simp only [Option.bind_some]
  cases h : rightB op k.size v.size a b with
  | false => rfl
  | true =>
    obtain ⟨h1, h2, hk, hv, hn⟩ := of_decide_eq_true h
    have hks : k.size ≤ 60 := by unfold KeyP at hk; omega
    have e1 : command_pair.f a b = some (pairB a b) := by unfold command_pair.f; rw [if_pos hn]
    have e2 : command_short.f k = some (shortB k) := by unfold command_short.f; rw [if_pos (by omega)]
    have z1 := pairB_size a b
    have z2 := shortB_size k
    have z3 := oneB_size (op % 256)
    have z3' : (strOfNums [op % 256]).size = 1 := z3
    rw [e1, e2]
    simp only [Option.bind_some, if_true]
    rw [if_pos (by omega), if_pos (by omega), if_pos (by omega)]
    rfl
theorem put_any (op : Int) (k v : ByteArray) (a b : Int) (w : World) :
    Calls Tryz.prog 14 #[.agg #[.int .i64 op, .string k, .string v, .int .i64 a, .int .i64 b]] w fun e w' => e = .returned (.tuple #[.string (putS op k v a b), .bool (rightB op k.size v.size a b)]) ∧ Below w.heap.size w w' :=
  Pr.command_Put.calls op k v a b _ _ w (putF_eq op k v a b)

/-- A command in a block. -/
def CB (W : World) (c : Nat) (op : Int) (k v : ByteArray) (a b : Int) : Prop := W.heap[c]? = some (.cells #[.int .i64 op, .string k, .string v, .int .i64 a, .int .i64 b] 47 (0, 0))
theorem CB.set {W : World} {c : Nat} {op : Int} {k v : ByteArray} {a b : Int} (h : CB W c op k v a b) :
    (∀ x, CB (W.setCell ⟨c, 1, none⟩ (.string x)) c op x v a b) ∧ (∀ x, CB (W.setCell ⟨c, 2, none⟩ (.string x)) c op k x a b) ∧ (∀ x, CB (W.setCell ⟨c, 3, none⟩ (.int .i64 x)) c op k v x b) ∧ (∀ x, CB (W.setCell ⟨c, 4, none⟩ (.int .i64 x)) c op k v a x) := by
  refine ⟨fun x => ?_, fun x => ?_, fun x => ?_, fun x => ?_⟩
  · have := heap_setCell_same W c 1 _ _ (.string x) h
    simpa [CB] using this
  · have := heap_setCell_same W c 2 _ _ (.string x) h
    simpa [CB] using this
  · have := heap_setCell_same W c 3 _ _ (.int .i64 x) h
    simpa [CB] using this
  · have := heap_setCell_same W c 4 _ _ (.int .i64 x) h
    simpa [CB] using this
/-- Get's state: the reader at g, the command at c, the result's block ahead of both. -/
structure GS (w W : World) (g c : Nat) (b : ByteArray) (bad : Bool) (op : Int) (k v : ByteArray) (x y : Int) : Prop where
  rs : RS W g b bad
  cb : CB W c op k v x y
  rb : CB W w.heap.size 0 ⟨#[]⟩ ⟨#[]⟩ 0 0
  bel : Below w.heap.size w W
  hg : w.heap.size < g
  hc : g < c
theorem GS.grown {w W W' : World} {g c : Nat} {b b' : ByteArray} {bad bad' : Bool} {op : Int} {k v : ByteArray} {x y : Int} (h : GS w W g c b bad op k v x y) (hr : RS W' g b' bad') (hg : W.grownBy W' (some g)) : GS w W' g c b' bad' op k v x y :=
  have h1 := h.hg
  have h2 := h.hc
  ⟨hr, (hg.block c (lt_of_block h.cb) (by simp; omega)).trans h.cb, (hg.block _ (lt_of_block h.rb) (by simp; omega)).trans h.rb,
    h.bel.grown hg h.bel.size (fun q hq => by cases hq; omega), h.hg, h.hc⟩
theorem GS.below {w W W' : World} {g c : Nat} {b : ByteArray} {bad : Bool} {op : Int} {k v : ByteArray} {x y : Int} (h : GS w W g c b bad op k v x y) (hb : Below W.heap.size W W') : GS w W' g c b bad op k v x y :=
  h.grown (h.rs.below hb) (grown_below hb _)
theorem RS.setO {W : World} {g c o : Nat} {b : ByteArray} {bad : Bool} {u : Value} (h : RS W g b bad) (hne : g ≠ c) : RS (W.setCell ⟨c, o, none⟩ u) g b bad := (Below.heap_setCell W ⟨c, o, none⟩ u g hne).trans h
theorem GS.set {w W : World} {g c : Nat} {b : ByteArray} {bad : Bool} {op : Int} {k v : ByteArray} {x y : Int} (h : GS w W g c b bad op k v x y) :
    (∀ u, GS w (W.setCell ⟨c, 1, none⟩ (.string u)) g c b bad op u v x y) ∧ (∀ u, GS w (W.setCell ⟨c, 2, none⟩ (.string u)) g c b bad op k u x y) ∧ (∀ u, GS w (W.setCell ⟨c, 3, none⟩ (.int .i64 u)) g c b bad op k v u y) ∧ (∀ u, GS w (W.setCell ⟨c, 4, none⟩ (.int .i64 u)) g c b bad op k v x u) := by
  have h1 := h.hg
  have h2 := h.hc
  obtain ⟨s1, s2, s3, s4⟩ := h.cb.set
  refine ⟨fun u => ⟨h.rs.setO (by omega), s1 u, (Below.heap_setCell _ _ _ _ (by simp; omega)).trans h.rb, h.bel.setCell (by simp; omega) _, h1, h2⟩, fun u => ⟨h.rs.setO (by omega), s2 u, (Below.heap_setCell _ _ _ _ (by simp; omega)).trans h.rb, h.bel.setCell (by simp; omega) _, h1, h2⟩, fun u => ⟨h.rs.setO (by omega), s3 u, (Below.heap_setCell _ _ _ _ (by simp; omega)).trans h.rb, h.bel.setCell (by simp; omega) _, h1, h2⟩, fun u => ⟨h.rs.setO (by omega), s4 u, (Below.heap_setCell _ _ _ _ (by simp; omega)).trans h.rb, h.bel.setCell (by simp; omega) _, h1, h2⟩⟩
/-- What the walk reads of a command's block. -/
theorem CB.at {W : World} {c : Nat} {op : Int} {k v : ByteArray} {a b : Int} (h : CB W c op k v a b) :
    (W.cell? ⟨c, 0, none⟩ = some (.int .i64 op) ∧ W.cell? ⟨c, 1, none⟩ = some (.string k) ∧ W.cell? ⟨c, 2, none⟩ = some (.string v) ∧ W.cell? ⟨c, 3, none⟩ = some (.int .i64 a) ∧ W.cell? ⟨c, 4, none⟩ = some (.int .i64 b)) ∧ (∀ o, W.frozen? ⟨c, o, none⟩ = false) := by
  have h' : W.heap[c]? = some _ := h
  exact ⟨by simp [World.cell?, h'], fun o => frozen_of_row W c o _ _ h⟩

/-- What Get works out of bytes. -/
structure GotC where
  op : Int
  k : ByteArray
  v : ByteArray
  a : Int
  b : Int
  bad : Bool
def got (s : ByteArray) : GotC :=
  let b1 := takeLeft s false 1; let d1 := takeBad s false 1
  let b2 := takeLeft b1 d1 8; let d2 := takeBad b1 d1 8
  let b3 := takeLeft b2 d2 8; let d3 := takeBad b2 d2 8
  let b4 := takeLeft b3 d3 1; let d4 := takeBad b3 d3 1
  let n := numV b3 d3 1
  let b5 := takeLeft b4 d4 n; let d5 := takeBad b4 d4 n
  ⟨numV s false 1, takeOut b4 d4 n, takeOut b5 d5 b5.size, wrap64 (numV b1 d1 8 - 1000000000000), numV b2 d2 8, takeBad b5 d5 b5.size⟩
/-- Is it one? -/
def gotOk (s : ByteArray) : Bool := !(got s).bad && (rightB (got s).op (got s).k.size (got s).v.size (got s).a (got s).b && ((putS (got s).op (got s).k (got s).v (got s).a (got s).b).toList == s.toList))
theorem numV_one (b : ByteArray) (bad : Bool) : 0 ≤ numV b bad 1 ∧ numV b bad 1 ≤ 255 := by
  have h := bigL_lt ((takeOut b bad 1).data.toList.drop ((takeOut b bad 1).size - 8))
  have hl : ((takeOut b bad 1).data.toList.drop ((takeOut b bad 1).size - 8)).length ≤ 1 := by
    rw [List.length_drop, ← Lib.size_eq]
    unfold takeOut
    split
    · simp; omega
    · exact Nat.zero_le _
  have h2 := Nat.lt_of_lt_of_le h (Nat.pow_le_pow_right (by decide) hl)
  unfold numV wrap64
  omega

theorem GS.start {w w1 : World} {g : Nat} {b : ByteArray} {bad : Bool} {op : Int} (hr : RS w1 g b bad) (hrb : CB w1 w.heap.size 0 ⟨#[]⟩ ⟨#[]⟩ 0 0) (hbel : Below w.heap.size w w1) (hg : w.heap.size < g) :
    GS w (w1.alloc (.cells #[.int .i64 op, .string ⟨#[]⟩, .string ⟨#[]⟩, .int .i64 0, .int .i64 0] 47)) g w1.heap.size b bad op ⟨#[]⟩ ⟨#[]⟩ 0 0 :=
  ⟨(Below.heap_alloc _ _ _ hr.lt).trans hr, heap_alloc_new w1 _, (Below.heap_alloc _ _ _ (lt_of_block hrb)).trans hrb, hbel.alloc hbel.size _, hg, hr.lt⟩

/-- A whole command stored into a block, cell by cell. -/
def put5 (W : World) (R : Nat) (op : Int) (k v : ByteArray) (a b : Int) : World :=
  ((((W.setCell ⟨R, 0, none⟩ (.int .i64 op)).setCell ⟨R, 1, none⟩ (.string k)).setCell ⟨R, 2, none⟩ (.string v)).setCell ⟨R, 3, none⟩ (.int .i64 a)).setCell ⟨R, 4, none⟩ (.int .i64 b)
theorem CB.set0 {W : World} {c : Nat} {op : Int} {k v : ByteArray} {a b : Int} (h : CB W c op k v a b) (x : Int) : CB (W.setCell ⟨c, 0, none⟩ (.int .i64 x)) c x k v a b := by
  have := heap_setCell_same W c 0 _ _ (.int .i64 x) h
  simpa [CB] using this
theorem CB.store {W : World} {R : Nat} {o1 : Int} {k1 v1 : ByteArray} {a1 b1 : Int} (h : CB W R o1 k1 v1 a1 b1) (op : Int) (k v : ByteArray) (a b : Int) : CB (put5 W R op k v a b) R op k v a b :=
  ((((h.set0 op).set.1 k).set.2.1 v).set.2.2.1 a).set.2.2.2 b
theorem put5_below {w W : World} {R : Nat} (h : Below w.heap.size w W) (hR : w.heap.size ≤ R) (op : Int) (k v : ByteArray) (a b : Int) : Below w.heap.size w (put5 W R op k v a b) :=
  ((((h.setCell hR _).setCell hR _).setCell hR _).setCell hR _).setCell hR _

theorem RS.two (w : World) (A : Obj) (s : ByteArray) : RS ((w.alloc A).alloc (.cells #[.string s, .bool false] 70)) (w.heap.size + 1) s false := by
  have h := heap_alloc_new (w.alloc A) (.cells #[.string s, .bool false] 70)
  rw [show (w.alloc A).heap.size = w.heap.size + 1 from by simp] at h
  exact h
theorem alloc_two (w : World) (A B : Obj) : ((w.alloc A).alloc B).heap[w.heap.size]? = some A := by
  rw [Below.heap_alloc _ _ _ (by simp)]
  exact heap_alloc_new w A

/-- What Get leaves. -/
def GetE (s : ByteArray) (w : World) (e : Ending) (w' : World) : Prop :=
  e = .returned (if gotOk s then .tuple #[.agg #[.int .i64 (got s).op, .string (got s).k, .string (got s).v, .int .i64 (got s).a, .int .i64 (got s).b], .bool true] else .tuple #[.agg #[.int .i64 0, .string ⟨#[]⟩, .string ⟨#[]⟩, .int .i64 0, .int .i64 0], .bool false]) ∧ Below w.heap.size w w'
theorem getE_no {s : ByteArray} {w w' : World} (h : gotOk s = false) (hb : Below w.heap.size w w') : GetE s w (.returned (.tuple #[.agg #[.int .i64 0, .string ⟨#[]⟩, .string ⟨#[]⟩, .int .i64 0, .int .i64 0], .bool false])) w' :=
  ⟨by rw [h]; rfl, hb⟩
theorem getE_yes {s : ByteArray} {w w' : World} {op : Int} {k v : ByteArray} {a b : Int} {bad : Bool} (hg : got s = ⟨op, k, v, a, b, bad⟩) (h : gotOk s = true) (hb : Below w.heap.size w w') :
    GetE s w (.returned (.tuple #[.agg #[.int .i64 op, .string k, .string v, .int .i64 a, .int .i64 b], .bool true])) w' :=
  ⟨by rw [h, hg]; rfl, hb⟩
theorem gotOk_of {s : ByteArray} {op : Int} {k v : ByteArray} {a b : Int} {bad : Bool} (hg : got s = ⟨op, k, v, a, b, bad⟩) : gotOk s = (!bad && (rightB op k.size v.size a b && ((putS op k v a b).toList == s.toList))) := by
  unfold gotOk
  rw [hg]

set_option maxRecDepth 100000 in
set_option maxHeartbeats 1600000 in
theorem get_any (s : ByteArray) (w : World) (hs : s.size ≤ 140737488351232) :
    Calls Tryz.prog 15 #[.string s] w (GetE s w) := by
  go_enter Tryz.func15, Tryz.ntmps15
  go_wp2_with fail
  refine (number_any (w.heap.size + 1) s false 1 _ (RS.two _ _ _) hs (by omega)).mono ?_
  rintro e w1 ⟨rfl, hr, hg⟩
  have G0 := Lib.hid (GS.start (w := w) (op := numV s false 1) hr ((hg.block _ (by simp; omega) (by simp)).trans (alloc_two _ _ _)) ((((Below.refl _ w).alloc (Nat.le_refl _) _).alloc (by simp) _).grown hg (by simp; omega) (by simp)) (by omega))
  clear hr hg
  have hs1 := Nat.le_trans (takeLeft_size s false 1) hs
  obtain ⟨b1, hb1⟩ : ∃ x, x = takeLeft s false 1 := ⟨_, rfl⟩
  obtain ⟨d1, hd1⟩ : ∃ x, x = takeBad s false 1 := ⟨_, rfl⟩
  obtain ⟨op, hop⟩ : ∃ x, x = numV s false 1 := ⟨_, rfl⟩
  rw [← hb1] at hs1
  rw [← hb1, ← hd1, ← hop] at G0
  rw [← hop]
  have HB1 := Lib.hid hb1; have HD1 := Lib.hid hd1; have HOP := Lib.hid hop
  clear hb1 hd1 hop
  go_wp2_with fail
  refine (number_any _ _ _ 8 _ G0.out.rs hs1 (by omega)).mono ?_
  rintro e w2 ⟨rfl, hr, hg⟩
  have G1 := Lib.hid (G0.out.grown hr hg)
  clear hr hg
  have hs2 := Nat.le_trans (takeLeft_size b1 d1 8) hs1
  obtain ⟨b2, hb2⟩ : ∃ x, x = takeLeft b1 d1 8 := ⟨_, rfl⟩
  obtain ⟨d2, hd2⟩ : ∃ x, x = takeBad b1 d1 8 := ⟨_, rfl⟩
  obtain ⟨n8, hn8⟩ : ∃ x, x = numV b1 d1 8 := ⟨_, rfl⟩
  rw [← hb2] at hs2
  rw [← hb2, ← hd2] at G1
  rw [← hn8]
  have HB2 := Lib.hid hb2; have HD2 := Lib.hid hd2; have HN8 := Lib.hid hn8
  clear hb2 hd2 hn8
  obtain ⟨⟨c0, c1, c2, c3, c4⟩, cf⟩ := G1.out.cb.at
  go_wp2_with fail
  clear c0 c1 c2 c3 c4 cf
  have G2 := Lib.hid (G1.out.set.2.2.1 (wrap64 (n8 - 1000000000000)))
  refine (number_any _ _ _ 8 _ G2.out.rs hs2 (by omega)).mono ?_
  rintro e w3 ⟨rfl, hr, hg⟩
  have G3 := Lib.hid (G2.out.grown hr hg)
  clear hr hg
  have hs3 := Nat.le_trans (takeLeft_size b2 d2 8) hs2
  obtain ⟨b3, hb3⟩ : ∃ x, x = takeLeft b2 d2 8 := ⟨_, rfl⟩
  obtain ⟨d3, hd3⟩ : ∃ x, x = takeBad b2 d2 8 := ⟨_, rfl⟩
  obtain ⟨ver, hver⟩ : ∃ x, x = numV b2 d2 8 := ⟨_, rfl⟩
  rw [← hb3] at hs3
  rw [← hb3, ← hd3] at G3
  rw [← hver]
  have HB3 := Lib.hid hb3; have HD3 := Lib.hid hd3; have HVER := Lib.hid hver
  clear hb3 hd3 hver
  obtain ⟨⟨c0, c1, c2, c3, c4⟩, cf⟩ := G3.out.cb.at
  go_wp2_with fail
  clear c0 c1 c2 c3 c4 cf
  have G4 := Lib.hid (G3.out.set.2.2.2 ver)
  refine (number_any _ _ _ 1 _ G4.out.rs hs3 (by omega)).mono ?_
  rintro e w4 ⟨rfl, hr, hg⟩
  have G5 := Lib.hid (G4.out.grown hr hg)
  clear hr hg
  have hs4 := Nat.le_trans (takeLeft_size b3 d3 1) hs3
  have hkl := numV_one b3 d3
  obtain ⟨b4, hb4⟩ : ∃ x, x = takeLeft b3 d3 1 := ⟨_, rfl⟩
  obtain ⟨d4, hd4⟩ : ∃ x, x = takeBad b3 d3 1 := ⟨_, rfl⟩
  obtain ⟨kl, hkl'⟩ : ∃ x, x = numV b3 d3 1 := ⟨_, rfl⟩
  rw [← hb4] at hs4
  rw [← hkl'] at hkl
  rw [← hb4, ← hd4] at G5
  rw [← hkl']
  have HB4 := Lib.hid hb4; have HD4 := Lib.hid hd4; have HKL := Lib.hid hkl'
  clear hb4 hd4 hkl'
  obtain ⟨hkl0, hkl1⟩ := hkl
  go_wp2_with fail
  refine (take_any _ _ _ kl _ G5.out.rs hs4 hkl0).mono ?_
  rintro e w5 ⟨rfl, hr, hg⟩
  have G6 := Lib.hid (G5.out.grown hr hg)
  clear hr hg
  have hs5 := Nat.le_trans (takeLeft_size b4 d4 kl) hs4
  obtain ⟨b5, hb5⟩ : ∃ x, x = takeLeft b4 d4 kl := ⟨_, rfl⟩
  obtain ⟨d5, hd5⟩ : ∃ x, x = takeBad b4 d4 kl := ⟨_, rfl⟩
  obtain ⟨key, hkey⟩ : ∃ x, x = takeOut b4 d4 kl := ⟨_, rfl⟩
  rw [← hb5] at hs5
  rw [← hb5, ← hd5] at G6
  rw [← hkey]
  have HB5 := Lib.hid hb5; have HD5 := Lib.hid hd5; have HKEY := Lib.hid hkey
  clear hb5 hd5 hkey
  have G7 := Lib.hid (G6.out.set.1 key)
  obtain ⟨⟨c0, c1, c2, c3, c4⟩, cf⟩ := G6.out.cb.at
  have r0 := G7.out.rs.c0
  go_wp2_with fail
  clear c0 c1 c2 c3 c4 cf r0
  refine (take_any _ _ _ b5.size _ G7.out.rs hs5 (by omega)).mono ?_
  rintro e w6 ⟨rfl, hr, hg⟩
  have G8 := Lib.hid (G7.out.grown hr hg)
  clear hr hg
  obtain ⟨val, hval⟩ : ∃ x, x = takeOut b5 d5 b5.size := ⟨_, rfl⟩
  obtain ⟨b6, hb6⟩ : ∃ x, x = takeLeft b5 d5 b5.size := ⟨_, rfl⟩
  obtain ⟨d6, hd6⟩ : ∃ x, x = takeBad b5 d5 b5.size := ⟨_, rfl⟩
  rw [← hb6, ← hd6] at G8
  rw [← hval]
  have HVAL := Lib.hid hval; have HD6 := Lib.hid hd6
  clear hval hb6 hd6
  obtain ⟨num, hnum⟩ : ∃ x, x = wrap64 (n8 - 1000000000000) := ⟨_, rfl⟩
  rw [← hnum] at G8
  have HGOT : Hid (got s = ⟨op, key, val, num, ver, d6⟩) := Lib.hid (by
    rw [hnum, HD6.out, HVAL.out, HKEY.out, HD5.out, HB5.out, HKL.out, HD4.out, HB4.out, HVER.out, HD3.out, HB3.out, HN8.out, HD2.out, HB2.out, HOP.out, HD1.out, HB1.out]
    rfl)
  have HNUM := Lib.hid hnum
  clear hnum
  have G9 := Lib.hid (G8.out.set.2.1 val)
  obtain ⟨⟨c0, c1, c2, c3, c4⟩, cf⟩ := G8.out.cb.at
  obtain ⟨⟨e0, e1, e2, e3, e4⟩, -⟩ := G9.out.cb.at
  go_wp2_with fail
  clear c0 c1 c2 c3 c4 cf e0 e1 e2 e3 e4
  refine (put_any _ _ _ _ _ _).mono ?_
  rintro e w7 ⟨rfl, hb⟩
  have G10 := Lib.hid (G9.out.below hb)
  clear hb
  have hok := gotOk_of HGOT.out
  have r1 := G10.out.rs.c1
  obtain ⟨⟨f0, f1, f2, f3, f4⟩, ff⟩ := G10.out.rb.at
  obtain ⟨⟨e0, e1, e2, e3, e4⟩, -⟩ := G10.out.cb.at
  have hw7 := lt_of_block G10.out.rb
  clear HNUM HB1 HD1 HOP HB2 HD2 HN8 HB3 HD3 HVER HB4 HD4 HKL HB5 HD5 HKEY HVAL HD6 G0 G1 G2 G3 G4 G5 G6 G7 G8 G9
  generalize rightB op key.size val.size num ver = is at hok ⊢
  generalize putS op key val num ver = again at hok ⊢
  have HOK := Lib.hid hok
  clear hok
  obtain ⟨⟨p0, p1, p2, p3, p4⟩, -⟩ := (G10.out.rb.store op key val num ver).at
  obtain ⟨⟨q0, q1, q2, q3, q4⟩, -⟩ := (G10.out.rb.store 0 ⟨#[]⟩ ⟨#[]⟩ 0 0).at
  unfold put5 at p0 p1 p2 p3 p4 q0 q1 q2 q3 q4
  have P := Lib.hid (And.intro p0 (And.intro p1 (And.intro p2 (And.intro p3 p4))))
  have Q := Lib.hid (And.intro q0 (And.intro q1 (And.intro q2 (And.intro q3 q4))))
  clear p0 p1 p2 p3 p4 q0 q1 q2 q3 q4
  cases hb : (!d6 && (is && (again.toList == s.toList))) with
  | true =>
    simp only [Bool.and_eq_true, Bool.not_eq_true'] at hb
    obtain ⟨rfl, rfl, heq⟩ := hb
    have hne : (!(again.toList == s.toList)) = false := by rw [heq]; rfl
    go_wp2
    obtain ⟨p0, p1, p2, p3, p4⟩ := P.out
    refine bodyPost_ret (v := .tuple #[.agg #[.int .i64 op, .string key, .string val, .int .i64 num, .int .i64 ver], .bool true]) (by simp [results, Tryz.results15, go_sem, p0, p1, p2, p3, p4]) rfl ?_
    exact getE_yes HGOT.out (by rw [HOK.out, heq]; rfl) (put5_below G10.out.bel (Nat.le_refl _) _ _ _ _ _)
  | false =>
    have hgf : gotOk s = false := HOK.out.trans hb
    have HGF := Lib.hid hgf
    clear hgf
    cases d6 with
    | true =>
      clear hb
      go_wp2
      obtain ⟨q0, q1, q2, q3, q4⟩ := Q.out
      refine bodyPost_ret (v := .tuple #[.agg #[.int .i64 0, .string ⟨#[]⟩, .string ⟨#[]⟩, .int .i64 0, .int .i64 0], .bool false]) (by simp [results, Tryz.results15, go_sem, q0, q1, q2, q3, q4]) rfl ?_
      exact getE_no HGF.out (put5_below G10.out.bel (Nat.le_refl _) _ _ _ _ _)
    | false =>
      cases is with
      | false =>
        clear hb
        go_wp2
        obtain ⟨q0, q1, q2, q3, q4⟩ := Q.out
        refine bodyPost_ret (v := .tuple #[.agg #[.int .i64 0, .string ⟨#[]⟩, .string ⟨#[]⟩, .int .i64 0, .int .i64 0], .bool false]) (by simp [results, Tryz.results15, go_sem, q0, q1, q2, q3, q4]) rfl ?_
        exact getE_no HGF.out (put5_below G10.out.bel (Nat.le_refl _) _ _ _ _ _)
      | true =>
        have hne : (!(again.toList == s.toList)) = true := by simpa using hb
        clear hb
        go_wp2
        obtain ⟨q0, q1, q2, q3, q4⟩ := Q.out
        refine bodyPost_ret (v := .tuple #[.agg #[.int .i64 0, .string ⟨#[]⟩, .string ⟨#[]⟩, .int .i64 0, .int .i64 0], .bool false]) (by simp [results, Tryz.results15, go_sem, q0, q1, q2, q3, q4]) rfl ?_
        exact getE_no HGF.out (put5_below G10.out.bel (Nat.le_refl _) _ _ _ _ _)
end Go.Proofs.YtbfdaclekjgkfaaGreatDoor
