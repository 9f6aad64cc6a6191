/- The program's reader: the next bytes, the next number, the command of bytes. -/
import Derived.Test.YtbfdaclekjgkfaaDoorWrap
import Derived.Deep.Heap
namespace Go.Proofs.YtbfdaclekjgkfaaDoor
open Go.RowKit

/-- A reader at block g: what is left, and whether it has failed. -/
def RS (W : World) (g : Nat) (b : ByteArray) (bad : Bool) : Prop := W.heap[g]? = some (.cells #[.string b, .bool bad] 49 (0, 0))
theorem RS.c0 {W : World} {g : Nat} {b : ByteArray} {bad : Bool} (h : RS W g b bad) : W.cell? ⟨g, 0, none⟩ = some (.string b) := by
  have h' : W.heap[g]? = some _ := h
  simp [World.cell?, h']
theorem RS.c1 {W : World} {g : Nat} {b : ByteArray} {bad : Bool} (h : RS W g b bad) : W.cell? ⟨g, 1, none⟩ = some (.bool bad) := by
  have h' : W.heap[g]? = some _ := h
  simp [World.cell?, h']
theorem RS.free {W : World} {g : Nat} {b : ByteArray} {bad : Bool} (h : RS W g b bad) (o : Nat) : W.frozen? ⟨g, o, none⟩ = false := frozen_of_row W g o _ _ h
theorem RS.lt {W : World} {g : Nat} {b : ByteArray} {bad : Bool} (h : RS W g b bad) : g < W.heap.size := lt_of_block h
theorem RS.set0 {W : World} {g : Nat} {b : ByteArray} {bad : Bool} (h : RS W g b bad) (c : ByteArray) : RS (W.setCell ⟨g, 0, none⟩ (.string c)) g c bad := by
  have := heap_setCell_same W g 0 _ _ (.string c) h
  simpa [RS] using this
theorem RS.set1 {W : World} {g : Nat} {b : ByteArray} {bad : Bool} (h : RS W g b bad) (c : Bool) : RS (W.setCell ⟨g, 1, none⟩ (.bool c)) g b c := by
  have := heap_setCell_same W g 1 _ _ (.bool c) h
  simpa [RS] using this
theorem RS.below {W W2 : World} {g : Nat} {b : ByteArray} {bad : Bool} (h : RS W g b bad) (hb : Below W.heap.size W W2) : RS W2 g b bad := (hb.block g h.lt).trans h

theorem grown_set (w : World) (g o : Nat) (v : Value) : w.grownBy (w.setCell ⟨g, o, none⟩ v) (some g) :=
  ⟨rfl, rfl, rfl, by simp, fun k _ hne => Below.heap_setCell _ _ _ _ (fun h => hne (by rw [h]))⟩
theorem grown_below {w w' : World} (h : Below w.heap.size w w') (row : Option Nat) : w.grownBy w' row := ⟨h.os, h.tape, h.output, h.size, fun k hk _ => h.block k hk⟩
theorem grown_trans {a b c : World} {row : Option Nat} (h : a.grownBy b row) (h2 : b.grownBy c row) : a.grownBy c row :=
  ⟨h2.os.trans h.os, h2.tape.trans h.tape, h2.output.trans h.output, Nat.le_trans h.size h2.size, fun k hk hne => (h2.block k (Nat.lt_of_lt_of_le hk h.size) hne).trans (h.block k hk hne)⟩

def takeOk (b : ByteArray) (bad : Bool) (n : Int) : Bool := !bad && decide (n ≤ b.size)
def takeOut (b : ByteArray) (bad : Bool) (n : Int) : ByteArray := if takeOk b bad n then b.extract 0 n.toNat else ⟨#[]⟩
def takeLeft (b : ByteArray) (bad : Bool) (n : Int) : ByteArray := if takeOk b bad n then b.extract n.toNat b.size else b
def takeBad (b : ByteArray) (bad : Bool) (n : Int) : Bool := !takeOk b bad n

/-- What the walk of 'take' leaves. -/
def TakeE (g : Nat) (b : ByteArray) (bad : Bool) (n : Int) (w : World) (e : Ending) (w' : World) : Prop :=
  e = .returned (.string (takeOut b bad n)) ∧ RS w' g (takeLeft b bad n) (takeBad b bad n) ∧ w.grownBy w' (some g)

theorem takeOk_yes {b : ByteArray} {n : Int} (h : n ≤ b.size) : takeOk b false n = true := by simp [takeOk, h]
theorem takeOk_no {b : ByteArray} {n : Int} (h : (b.size : Int) < n) : takeOk b false n = false := by simp [takeOk]; omega
theorem takeE_no {g : Nat} {b : ByteArray} {bad : Bool} {n : Int} {w w' : World} (h : takeOk b bad n = false) (h1 : RS w' g b true) (h2 : w.grownBy w' (some g)) : TakeE g b bad n w (.returned (.string ⟨#[]⟩)) w' := by
  refine ⟨?_, ?_, h2⟩
  · simp [takeOut, h]
  · simpa [takeLeft, takeBad, h] using h1
theorem takeE_yes {g : Nat} {b : ByteArray} {n : Int} {w w' : World} (h : takeOk b false n = true) (h1 : RS w' g (b.extract n.toNat b.size) false) (h2 : w.grownBy w' (some g)) : TakeE g b false n w (.returned (.string (b.extract 0 n.toNat))) w' := by
  refine ⟨?_, ?_, h2⟩
  · simp [takeOut, h]
  · simpa [takeLeft, takeBad, h] using h1

set_option maxRecDepth 100000 in
set_option maxHeartbeats 800000 in
theorem take_any (g : Nat) (b : ByteArray) (bad : Bool) (n : Int) (w : World) (h : RS w g b bad) (hs : b.size ≤ 140737488351232) (h0 : 0 ≤ n) :
    Calls Tryd.prog 25 #[.pointer (some ⟨g, 0, none⟩), .int .i64 n] w (TakeE g b bad n w) := by
  have c0 := h.c0
  have c1 := h.c1
  have f0 := h.free 0
  have f1 := h.free 1
  have H := Lib.hid h
  clear h
  cases bad with
  | true =>
    go_enter Tryd.func25, Tryd.ntmps25
    go_wp2
    go_ret
    exact takeE_no rfl (H.out.set1 true) (grown_set _ _ _ _)
  | false =>
    by_cases hn : n ≤ b.size
    · have hok := takeOk_yes hn
      have HO := Lib.hid hok
      clear hok
      have hcl : ∀ (s : ByteArray) (W : World), s.size ≤ 281474976710656 → Calls Tryd.prog 36 #[.string s] W fun e w' => e = .returned (.string s) ∧ Below W.heap.size W w' := fun s W h => strings_Clone.calls s s W (by unfold strings_Clone.f; rw [if_pos h])
      have HC := Lib.hid hcl
      clear hcl
      go_enter Tryd.func25, Tryd.ntmps25
      go_wp2_with (go_at_call 36; refine (HC.out _ _ (by simp; omega)).mono ?_; rintro e w2 ⟨rfl, hb⟩; have HB := Lib.hid hb; clear hb)
      go_ret
      exact takeE_yes HO.out ((H.out.set0 _).below HB.out) (grown_trans (grown_set _ _ _ _) (grown_below HB.out _))
    · have hn' : (b.size : Int) < n := by omega
      go_enter Tryd.func25, Tryd.ntmps25
      go_wp2
      go_ret
      exact takeE_no (takeOk_no hn') (H.out.set1 true) (grown_set _ _ _ _)

/-- The next number. -/
def numV (b : ByteArray) (bad : Bool) (n : Int) : Int := wrap64 (bigL ((takeOut b bad n).data.toList.drop ((takeOut b bad n).size - 8)) : Nat)
def NumE (g : Nat) (b : ByteArray) (bad : Bool) (n : Int) (w : World) (e : Ending) (w' : World) : Prop :=
  e = .returned (.int .i64 (numV b bad n)) ∧ RS w' g (takeLeft b bad n) (takeBad b bad n) ∧ w.grownBy w' (some g)
theorem takeOut_size (b : ByteArray) (bad : Bool) (n : Int) : (takeOut b bad n).size ≤ b.size := by
  unfold takeOut
  split
  · simp; omega
  · exact Nat.zero_le _
theorem takeLeft_size (b : ByteArray) (bad : Bool) (n : Int) : (takeLeft b bad n).size ≤ b.size := by
  unfold takeLeft
  split
  · simp
  · exact Nat.le_refl _

set_option maxRecDepth 100000 in
set_option maxHeartbeats 800000 in
theorem number_any (g : Nat) (b : ByteArray) (bad : Bool) (n : Int) (w : World) (h : RS w g b bad) (hs : b.size ≤ 140737488351232) (h0 : 0 ≤ n) :
    Calls Tryd.prog 24 #[.pointer (some ⟨g, 0, none⟩), .int .i64 n] w (NumE g b bad n w) := by
  have H := Lib.hid h
  have hz := takeOut_size b bad n
  have hbg : Hid (∀ W, Calls Tryd.prog 35 #[.string (takeOut b bad n)] W fun e w' => e = .returned (.int .u64 (bigL ((takeOut b bad n).data.toList.drop ((takeOut b bad n).size - 8)) : Nat)) ∧ Below W.heap.size W w') := Lib.hid fun W => octet_Big.calls _ _ W (by unfold octet_Big.f; rw [if_pos (by omega)])
  go_enter Tryd.func24, Tryd.ntmps24
  go_wp2_with (first | (go_at_call 25; refine (take_any g b bad n _ H.out hs h0).mono ?_; rintro e w1 ⟨rfl, hr, hg⟩; have HR := Lib.hid hr; have HG := Lib.hid hg; clear hr hg) | (go_at_call 35; refine (hbg.out _).mono ?_; rintro e w2 ⟨rfl, hb⟩; have HB := Lib.hid hb; clear hb))
  go_ret
  exact ⟨rfl, HR.out.below HB.out, grown_trans HG.out (grown_below HB.out _)⟩
end Go.Proofs.YtbfdaclekjgkfaaDoor
