import Derived.Test.YtbfdaclekjgkfaaGreatDoorPq1
import Derived.Test.YtbfdaclekjgkfaaGreatDoorWrap2
import Derived.Test.YtbfdaclekjgkfaaGreatDoorProg
import Derived.Test.YtbfdaclekjgkfaaGreatDoorShelf
import Derived.WalkKit
import Derived.WalkSpells
import Derived.WalkLawsBesides
import Derived.Lib.Strings
import Derived.Lib.Hide
import Derived.Shelf.Strings.BuilderF
import Derived.Test.YtbfdaclekjgkfaaGreatDoorInv
import Derived.Test.YtbfdaclekjgkfaaGreatDoorWTab

/- A reply's right to be, in plain. -/
namespace Go.Proofs.YtbfdaclekjgkfaaGreatDoor
open Go.RowKit Go.Proofs.YtbfdaclekjgkfaaGreatDoorW.PrintWords

def KeysP (l : List ByteArray) : Prop := ∀ k ∈ l, k.size ≤ 60
instance (l : List ByteArray) : Decidable (KeysP l) := by unfold KeysP; infer_instance
def RepP (e : Int) (v : ByteArray) (a b : Int) (l : List ByteArray) : Prop := 0 ≤ e ∧ e ≤ 15 ∧ NumP a b ∧ v.size ≤ 500 ∧ l.length ≤ 40 ∧ KeysP l
instance (e : Int) (v : ByteArray) (a b : Int) (l : List ByteArray) : Decidable (RepP e v a b l) := by unfold RepP; infer_instance

theorem numbers_f (a b : Int) : Pq.command_numbers.f a b = some (numB a b) := by
  unfold Pq.command_numbers.f
  by_cases h : NumP a b
  · rw [numB_true h]
    obtain ⟨h1, h2, h3, h4⟩ := h
    rw [if_pos (by omega), if_pos (by omega), if_pos (by omega), decide_eq_true h4]
  · rw [numB_false h]
    unfold NumP at h
    split
    · split
      · split
        · rw [decide_eq_false (by omega)]
        · rfl
      · rfl
    · rfl

theorem right_loop (l : List ByteArray) (hl : l.length ≤ 40) : ∀ (n i : Nat), i ≤ l.length → l.length - i ≤ n → Pq.command_rightReply.l0 (n + 1) l (l.length : Int) (i : Int) = some (decide (KeysP (l.drop i)))
  | n, i, hi, hn => by
    unfold Pq.command_rightReply.l0
    by_cases h : i < l.length
    · rw [if_pos (by omega), if_pos (by omega), if_pos (by omega)]
      have hd : l.drop i = l[i] :: l.drop (i + 1) := List.drop_eq_getElem_cons h
      have hr : rdOf ByteArray.empty l (i : Int) = l[i] := by simp [rdOf, List.getD, h]
      rw [hr, hd]
      by_cases hs : l[i].size ≤ 60
      · rw [if_neg (by omega), show wrap64 ((i : Int) + 1) = ((i + 1 : Nat) : Int) from wrap_small (i + 1) (by omega)]
        obtain ⟨m, rfl⟩ : ∃ m, n = m + 1 := ⟨n - 1, by omega⟩
        have := right_loop l hl m (i + 1) (by omega) (by omega)
        rw [this]
        congr 1
        refine decide_eq_decide.mpr ?_
        constructor
        · intro h k hk
          rcases List.mem_cons.1 hk with rfl | hk
          · exact hs
          · exact h k hk
        · intro h k hk
          exact h k (List.mem_cons_of_mem _ hk)
      · rw [if_pos (by omega)]
        congr 1
        refine (decide_eq_false ?_).symm
        intro hk
        exact hs (hk _ List.mem_cons_self)
    · rw [if_neg (by omega)]
      congr 1
      refine (decide_eq_true ?_).symm
      rw [List.drop_eq_nil_of_le (by omega)]
      intro k hk
      cases hk

theorem right_f (e : Int) (v : ByteArray) (a b : Int) (l : List ByteArray) : Pq.command_rightReply.f 43 e v a b l = some (decide (RepP e v a b l)) := by
  have hj : ∀ x, Pq.command_rightReply.j0 43 x e v a b l = if x = true then some false else Pq.command_rightReply.l0 42 l (l.length : Int) 0 := fun x => by unfold Pq.command_rightReply.j0; rfl
  unfold Pq.command_rightReply.f
  simp only [hj, numbers_f, Option.bind_some, if_true]
  have hno : ∀ {p : Prop}, (RepP e v a b l → False) → (some false : Option Bool) = some (decide (RepP e v a b l)) := fun h => by rw [decide_eq_false h]
  by_cases h1 : e < 0
  · rw [if_pos h1]; exact hno (p := True) (fun h => by obtain ⟨h, _⟩ := h; omega)
  · rw [if_neg h1]
    by_cases h2 : e > 15
    · rw [if_pos h2]; exact hno (p := True) (fun h => by obtain ⟨_, h, _⟩ := h; omega)
    · rw [if_neg h2]
      by_cases h3 : NumP a b
      · rw [numB_true h3, if_pos rfl]
        by_cases h4 : (v.size : Int) > 500
        · rw [if_pos h4]; exact hno (p := True) (fun h => by obtain ⟨_, _, _, h, _⟩ := h; omega)
        · rw [if_neg h4]
          by_cases h5 : l.length ≤ 40
          · rw [decide_eq_false (show ¬ ((l.length : Int) > 40) by omega), if_neg (by simp)]
            have := right_loop l h5 41 0 (by omega) (by omega)
            rw [show (((0 : Nat) : Int)) = 0 from rfl] at this
            rw [this, List.drop_zero]
            congr 1
            refine decide_eq_decide.mpr ?_
            unfold RepP
            constructor
            · intro h; exact ⟨by omega, by omega, h3, by omega, h5, h⟩
            · intro h; exact h.2.2.2.2.2
          · rw [decide_eq_true (show ((l.length : Int) > 40) by omega), if_pos rfl]
            exact hno (p := True) (fun h => by obtain ⟨_, _, _, _, h, _⟩ := h; omega)
      · rw [numB_false h3, if_neg (by simp)]; exact hno (p := True) (fun h => h3 h.2.2.1)

theorem rightReply_any (e : Int) (v : ByteArray) (a b : Int) (A : Option Addr) (c : Nat) (l : List ByteArray) (w : World) (hC : Kd.C Kd.string w A l.length l) (hc : l.length ≤ c) :
    Calls Tryz.prog 19 #[.agg #[.int .i64 e, .string v, .int .i64 a, .int .i64 b, .slice A l.length c]] w fun x w' => x = .returned (.bool (decide (RepP e v a b l))) ∧ Below w.heap.size w w' :=
  Pq.command_rightReply.calls 43 e v a b A c l _ w hC hc (right_f e v a b l)
end Go.Proofs.YtbfdaclekjgkfaaGreatDoor

/- strings.Builder's copyCheck and WriteString, walked in this program. -/
set_option linter.unusedVariables false
namespace Go.Proofs.YtbfdaclekjgkfaaGreatDoor
open Go.RowKit

theorem bx : Builder.Extra Tryz.prog Tryz.lays169_ren := Tryz.Builder_Extra_169

set_option maxHeartbeats 1000000 in
set_option maxRecDepth 100000 in
theorem cc_used (b : Nat) (w : World) (h0 : w.cell? ⟨b, 0, none⟩ = some (.pointer (some ⟨b, 0, none⟩))) :
    Calls Tryz.prog 62 #[.pointer (some ⟨b, 0, none⟩)] w fun e w' => e = .returned (.tuple #[]) ∧ w' = w := by
  obtain ⟨j, hj, _⟩ := Option.map_eq_some_iff.1 bx.sizeBuilder
  go_enter Tryz.func62, Tryz.ntmps62
  go_wp2
  rw [Lib.run_neq_ptr_same w _ Tryz.underlying54 hj]
  go_wp2
  go_end0
  exact ⟨rfl, rfl⟩

set_option maxHeartbeats 1000000 in
set_option maxRecDepth 100000 in
theorem cc_fresh (b : Nat) (w : World) (h0 : w.cell? ⟨b, 0, none⟩ = some (.pointer none)) (hsh : w.shape? b = some (57, 2)) (hfz : w.frozen? ⟨b, 0, none⟩ = false) :
    Calls Tryz.prog 62 #[.pointer (some ⟨b, 0, none⟩)] w fun e w' => e = .returned (.tuple #[]) ∧ w' = w.setCell ⟨b, 0, none⟩ (.pointer (some ⟨b, 0, none⟩)) := by
  obtain ⟨j, hj, hjs⟩ := Option.map_eq_some_iff.1 bx.sizeBuilder
  go_enter Tryz.func62, Tryz.ntmps62
  go_wp2
  rw [Lib.run_to_unsafe w ⟨b, 0, none⟩ Tryz.underlying54 Tryz.underlying133 hj (by rw [hjs]; decide) hsh (Nat.zero_lt_succ 1)]
  simp only [Result.andThen]
  rw [Oper.upon_value]
  go_wp2
  rw [run_callFunc_extern Tryz.func82 (by kernel_rfl) (by kernel_rfl) (by kernel_rfl) (e := Extern.AbiNoEscape.same) (by kernel_rfl)]
  rw [Lib.run_noEscape]
  simp only [Result.andThen]
  rw [Oper.upon_value]
  go_wp2
  rw [Lib.run_from_unsafe w ⟨b, 0, none⟩ Tryz.underlying133 Tryz.underlying54 hj hsh bx.liesBuilder]
  simp only [Result.andThen]
  rw [Oper.upon_value]
  go_wp2
  go_end0
  exact ⟨rfl, rfl⟩

theorem cc_any (B b : Nat) (bs : List Value) (w : World) (h : Lib.IsBuilderF 57 5 B b bs w) :
    Calls Tryz.prog 62 #[.pointer (some ⟨b, 0, none⟩)] w fun e w' => e = .returned (.tuple #[]) ∧ (Lib.BuilderAtF 57 5 B b (.pointer (some ⟨b, 0, none⟩)) bs w' ∧ Below B w w') := by
  rcases h with h | h
  · refine (cc_fresh b w h.cell0 h.shape h.frozen0).mono ?_
    rintro e w' ⟨rfl, rfl⟩
    exact ⟨rfl, h.used _, (Below.refl B w).setCell (p := ⟨b, 0, none⟩) h.1 _⟩
  · refine (cc_used b w h.cell0).mono ?_
    rintro e w' ⟨rfl, rfl⟩
    exact ⟨rfl, h, Below.refl B _⟩

set_option maxHeartbeats 2000000 in
set_option maxRecDepth 100000 in
theorem ws_any (B b : Nat) (bs : List Value) (s : ByteArray) (w : World) (h : Lib.IsBuilderF 57 5 B b bs w) (hlen : bs.length + s.size ≤ 140737488355328) (hBw : B ≤ w.heap.size) :
    Calls Tryz.prog 20 #[.pointer (some ⟨b, 0, none⟩), .string s] w fun e w' => e = .returned (.tuple #[.int .i64 s.size, .nilIface]) ∧ (Lib.BuilderAtF 57 5 B b (.pointer (some ⟨b, 0, none⟩)) (bs ++ Lib.strCells s) w' ∧ Below B w w') := by
  obtain ⟨i0, hi, hz0, hz1, hz2⟩ := info_parts bx.infoByte
  go_enter Tryz.func20, Tryz.ntmps20
  go_wp2_with fail
  refine (cc_any B b bs _ h).mono ?_
  rintro e w1 ⟨rfl, h1, hb1⟩
  obtain ⟨hB, v, hbk, hown, hne⟩ := h1
  have c0 : w1.cell? ⟨b, 0, none⟩ = some (.pointer (some ⟨b, 0, none⟩)) := by rw [Lib.cell_of_heap hbk]; rfl
  have c1 : w1.cell? ⟨b, 1, none⟩ = some v := by rw [Lib.cell_of_heap hbk]; rfl
  go_wp2_with (at_builtin; refine Lib.wpList_append_own_stringF _ rfl _ _ 55 9 rfl B 5 i0 Tryz.underlying55 Tryz.underlying9 hi hz0 hz1 hz2 _ _ _ rfl hown s rfl ?c3 ?c4 ?c5 ?_)
  case c3 => unfold maxLen; omega
  case c4 => omega
  case c5 => have := hb1.size; omega
  intro v' w2 hown' hgrow _
  have hlt : b < w1.heap.size := by
    rcases Nat.lt_or_ge b w1.heap.size with h' | h'
    · exact h'
    · simp [Array.getElem?_eq_none h'] at hbk
  have hb2 : w2.heap[b]? = some (.cells #[.pointer (some ⟨b, 0, none⟩), v] 57 (0, 0)) := by
    rw [hgrow.block b hlt (fun e => hne e.symm)]
    exact hbk
  have d0 : w2.cell? ⟨b, 0, none⟩ = some (.pointer (some ⟨b, 0, none⟩)) := by rw [Lib.cell_of_heap hb2]; rfl
  have d1 : w2.cell? ⟨b, 1, none⟩ = some v := by rw [Lib.cell_of_heap hb2]; rfl
  have f1 : w2.frozen? ⟨b, 1, none⟩ = false := Lib.frozen_of_heap hb2 1
  obtain ⟨ao, n', cap, rfl⟩ : ∃ ao n' cap, v' = .slice ao n' cap := by
    rcases hown'.2 with ⟨hv, _⟩ | ⟨g, cap, cur, fz, hv, _⟩
    · exact ⟨_, _, _, hv⟩
    · exact ⟨_, _, _, hv⟩
  go_wp2
  go_ret2
  refine ⟨rfl, ?_, ?_⟩
  · exact Lib.BuilderAtF.put (T := 57) (e := 5) hB hb2 (bs' := bs ++ Lib.strCells s) (by simpa [Lib.strCells_length] using hown') bx.neB5
  · exact (hb1.grown hgrow (by have := hb1.size; omega) (fun k hk => (hown.lt k hk).1)).setCell (p := ⟨b, 1, none⟩) hB _
end Go.Proofs.YtbfdaclekjgkfaaGreatDoor

/- A reply as bytes: the region of its head, in any order. -/
set_option linter.unusedVariables false
set_option linter.unusedSimpArgs false
namespace Go.Proofs.YtbfdaclekjgkfaaGreatDoor
open Go.RowKit Go.Proofs.YtbfdaclekjgkfaaGreatDoorW.PrintWords Go.Proofs.YtbfdaclekjgkfaaGreatDoorW.PrintLast

def big2 (n : Nat) : ByteArray := strOfNums (pcells n 2 2)
theorem big2_size (n : Nat) : (big2 n).size = 2 := by unfold big2; rw [strOfNums_size, pcells_length]
def headB (e : Int) (v : ByteArray) (a b : Int) : ByteArray := ((oneB (e % 256) ++ pairB a b) ++ big2 v.size) ++ v
theorem headB_size (e : Int) (v : ByteArray) (a b : Int) : (headB e v a b).size = 19 + v.size := by unfold headB; rw [ByteArray.size_append, ByteArray.size_append, ByteArray.size_append, oneB_size, pairB_size, big2_size]
theorem conv_h {W : World} {h : Nat} {x : Int} (hh : W.heap[h]? = some (.cells #[.int .u8 x] 5 (0, 0))) : (convert 55 9 (.slice (some ⟨h, 0, none⟩) 1 1)).run Tryz.prog W = .ok (.string (oneB x)) W :=
  isB.conv (xs := [x]) hh 1 1 rfl
theorem blk3_ {W W1 : World} {x13 : Value} {x : Int} (h : ∃ h, x13 = .slice (some ⟨h, 0, none⟩) 1 1 ∧ W.heap[h]? = some (.cells #[.int .u8 x] 5 (0, 0))) (hb : Below W.heap.size W W1) :
    ∃ h, x13 = .slice (some ⟨h, 0, none⟩) 1 1 ∧ W1.heap[h]? = some (.cells #[.int .u8 x] 5 (0, 0)) := by
  obtain ⟨h, h1, h2⟩ := h
  exact ⟨h, h1, blk_below h2 hb⟩
theorem bat_below {W W1 : World} {B b : Nat} {p : Value} {bs : List Value} (h : Lib.BuilderAtF 57 5 B b p bs W) (hb : Below W.heap.size W W1) : Lib.BuilderAtF 57 5 B b p bs W1 := by
  obtain ⟨hB, v, hv, hown, hne⟩ := h
  refine ⟨hB, v, blk_below hv hb, ⟨hown.1, ?_⟩, hne⟩
  rcases hown.2 with hn | ⟨g, cap, cur, fz, e1, e2, e3, rest⟩
  · exact .inl hn
  · exact .inr ⟨g, cap, cur, fz, e1, e2, blk_below e3 hb, rest⟩
theorem isb_fresh {W : World} {b : Nat} (h : W.heap[b]? = some (.cells #[.pointer none, .slice none 0 0] 57 (0, 0))) : Lib.IsBuilderF 57 5 b b [] W :=
  .inl ⟨Nat.le_refl _, .slice none 0 0, h, World.ownsRowF_nil _ _ _ _, by simp [Value.ownBlock]⟩
theorem wrap_u (n : Nat) (h : n ≤ 500) : IntKind.u64.wrap (n : Int) = n := by
  show (n : Int) % 18446744073709551616 = n
  omega

def I4 (e : Int) (v : ByteArray) (a0 b0 : Int) (A : Option Addr) (c : Nat) (l : List ByteArray) (w : World) (g b : Nat) (L : Nat → Bool) (a : Act) (W : World) : Prop :=
  ∃ x10 x11 x12 x13 x14 x15 x16 x17 x18 x19 x20 x21 x22 x23 x24 x25 x26 x27 x28 x29 x30 : Value, a = ⟨#[(.agg #[.int .i64 e, .string v, .int .i64 a0, .int .i64 b0, .slice A l.length c]), (.pointer (some ⟨g, 0, none⟩)), .string ⟨#[]⟩, .bool false, .pointer (some ⟨b, 0, none⟩), undef, undef, (.agg #[.int .i64 e, .string v, .int .i64 a0, .int .i64 b0, .slice A l.length c]), .bool true, .bool false, x10, x11, x12, x13, x14, x15, x16, x17, x18, x19, x20, x21, x22, x23, x24, x25, x26, x27, x28, x29, x30, undef, undef, undef, undef, undef, undef, undef, undef, undef, undef, undef, undef, undef, undef, undef, undef, undef, undef, undef], []⟩ ∧ (L 0 = true → x10 = .pointer (some ⟨g, 0, none⟩)) ∧ (L 1 = true → x11 = .int .i64 e) ∧ (L 2 = true → x12 = .int .u8 (e % 256)) ∧ (L 3 = true → (L 4 = false → ∃ h, x13 = .slice (some ⟨h, 0, none⟩) 1 1 ∧ W.heap[h]? = some (.cells #[.int .u8 (e % 256)] 5 (0, 0)))) ∧ (L 4 = true → x14 = .string (oneB (e % 256))) ∧ (L 5 = true → x15 = .pointer (some ⟨g, 2, none⟩)) ∧ (L 6 = true → x16 = .int .i64 a0) ∧ (L 7 = true → x17 = .pointer (some ⟨g, 3, none⟩)) ∧ (L 8 = true → x18 = .int .i64 b0) ∧ (L 9 = true → x19 = .string (pairB a0 b0)) ∧ (L 10 = true → x20 = .string (oneB (e % 256) ++ pairB a0 b0)) ∧ (L 11 = true → x21 = .pointer (some ⟨g, 1, none⟩)) ∧ (L 12 = true → x22 = .string v) ∧ (L 13 = true → x23 = .int .i64 v.size) ∧ (L 14 = true → x24 = .int .u64 v.size) ∧ (L 15 = true → x25 = .string (big2 v.size)) ∧ (L 16 = true → x26 = .string ((oneB (e % 256) ++ pairB a0 b0) ++ big2 v.size)) ∧ (L 17 = true → x27 = .pointer (some ⟨g, 1, none⟩)) ∧ (L 18 = true → x28 = .string v) ∧ (L 19 = true → x29 = .string (headB e v a0 b0)) ∧ (L 20 = true → Lib.BuilderAtF 57 5 b b (.pointer (some ⟨b, 0, none⟩)) (Lib.strCells (headB e v a0 b0)) W) ∧ (W.heap[g]? = some (.cells #[.int .i64 e, .string v, .int .i64 a0, .int .i64 b0, .slice A l.length c] 25 (0, 0))) ∧ (Below w.heap.size w W) ∧ (L 20 = false → W.heap[b]? = some (.cells #[.pointer none, .slice none 0 0] 57 (0, 0))) ∧ (b < W.heap.size)
set_option maxHeartbeats 1600000 in
set_option maxRecDepth 100000 in
theorem I4.step (e : Int) (v : ByteArray) (a0 b0 : Int) (A : Option Addr) (c : Nat) (l : List ByteArray) (w : World) (g b : Nat) (hgb : g < b) (hwg : w.heap.size ≤ g) (hN : NumP a0 b0) (hv : v.size ≤ 500) {Q : Exit → Act → World → Prop} : ∀ i o L a W, (opsOf Tryz.f6 4)[i]? = some o → L i = false → o.after.all (fun e => !Region.binds .any e || L e.on) = true → ClosedL (opsOf Tryz.f6 4) L → I4 e v a0 b0 A c l w g b L a W →
    if Region.wanted o (yielded (opsOf Tryz.f6 4) a.tmps) = true then Oper.wp Tryz.prog o a W (fun a' w' => I4 e v a0 b0 A c l w g b (fun j => j == i || L j) a' w') Q else I4 e v a0 b0 A c l w g b (fun j => j == i || L j) (a.put o.dst undef) W := by
  intro i o L a W ho hLi haft hcl hI
  obtain ⟨x10, x11, x12, x13, x14, x15, x16, x17, x18, x19, x20, x21, x22, x23, x24, x25, x26, x27, x28, x29, x30, rfl, h0, h1, h2, h3, h4, h5, h6, h7, h8, h9, h10, h11, h12, h13, h14, h15, h16, h17, h18, h19, h20, hg, hb, hbu, hsz⟩ := hI
  rcases i with _|_|_|_|_|_|_|_|_|_|_|_|_|_|_|_|_|_|_|_|_|_
  · obtain rfl : ({ dst := some 10, op := Go.Op.fieldAddr 25 (Go.Operand.tmp 1) 0, type := 0, pos := "command.go:145", after := #[], guard := none } : Oper) = o := Option.some.inj ho   -- 0
    refine value_ (v := .pointer (some ⟨g, 0, none⟩)) (w1 := W) (by rfl) rfl ?_ ?_
    · go_simp; try rfl
    exact ⟨.pointer (some ⟨g, 0, none⟩), x11, x12, x13, x14, x15, x16, x17, x18, x19, x20, x21, x22, x23, x24, x25, x26, x27, x28, x29, x30, rfl, fun _ => rfl, h1, h2, h3, h4, h5, h6, h7, h8, h9, h10, h11, h12, h13, h14, h15, h16, h17, h18, h19, h20, hg, hb, hbu, hsz⟩
  · obtain rfl : ({ dst := some 11, op := Go.Op.load 22 (Go.Operand.tmp 10), type := 22, pos := "command.go:145", after := #[{ on := 0, ground := Go.Ground.data }], guard := none } : Oper) = o := Option.some.inj ho   -- 1
    obtain rfl := h0 (dep_ haft 0 rfl)
    have hc : W.cell? ⟨g, 0, none⟩ = some (.int .i64 e) := (blk_cell hg 0).trans rfl
    refine value_ (v := .int .i64 e) (w1 := W) (by rfl) rfl ?_ ?_
    · go_simp; try rfl
    exact ⟨.pointer (some ⟨g, 0, none⟩), .int .i64 e, x12, x13, x14, x15, x16, x17, x18, x19, x20, x21, x22, x23, x24, x25, x26, x27, x28, x29, x30, rfl, fun _ => rfl, fun _ => rfl, h2, h3, h4, h5, h6, h7, h8, h9, h10, h11, h12, h13, h14, h15, h16, h17, h18, h19, h20, hg, hb, hbu, hsz⟩
  · obtain rfl : ({ dst := some 12, op := Go.Op.convert 22 5 (Go.Operand.tmp 11), type := 5, pos := "command.go:145", after := #[{ on := 1, ground := Go.Ground.data }], guard := none } : Oper) = o := Option.some.inj ho   -- 2
    obtain rfl := h1 (dep_ haft 0 rfl)
    refine value_ (v := .int .u8 (e % 256)) (w1 := W) (by rfl) rfl ?_ ?_
    · go_simp; try rfl
    exact ⟨x10, .int .i64 e, .int .u8 (e % 256), x13, x14, x15, x16, x17, x18, x19, x20, x21, x22, x23, x24, x25, x26, x27, x28, x29, x30, rfl, h0, fun _ => rfl, fun _ => rfl, h3, h4, h5, h6, h7, h8, h9, h10, h11, h12, h13, h14, h15, h16, h17, h18, h19, h20, hg, hb, hbu, hsz⟩
  · obtain rfl : ({ dst := some 13, op := Go.Op.buildSlice 55 1 #[(0, Go.Operand.tmp 12)], type := 55, pos := "command.go:145", after := #[{ on := 2, ground := Go.Ground.data }], guard := none } : Oper) = o := Option.some.inj ho   -- 3
    obtain rfl := h2 (dep_ haft 0 rfl)
    refine value_ (v := (.slice (some ⟨W.heap.size, 0, none⟩) 1 1)) (w1 := W.alloc (.cells #[.int .u8 (e % 256)] 5)) (by rfl) rfl ?_ ?_
    · go_simp; try rfl
    exact ⟨x10, x11, .int .u8 (e % 256), (.slice (some ⟨W.heap.size, 0, none⟩) 1 1), x14, x15, x16, x17, x18, x19, x20, x21, x22, x23, x24, x25, x26, x27, x28, x29, x30, rfl, h0, h1, fun _ => rfl, fun _ => fun _ => ⟨_, rfl, heap_alloc_new W _⟩, h4, h5, h6, h7, h8, h9, h10, h11, h12, h13, h14, h15, h16, h17, h18, h19, fun hL => bat_below (h20 hL) ((Below.refl W.heap.size W).alloc (Nat.le_refl _) _), blk_below hg ((Below.refl W.heap.size W).alloc (Nat.le_refl _) _), below_step hb ((Below.refl W.heap.size W).alloc (Nat.le_refl _) _), fun hL => blk_below (hbu hL) ((Below.refl W.heap.size W).alloc (Nat.le_refl _) _), Nat.lt_of_lt_of_le hsz (Below.size ((Below.refl W.heap.size W).alloc (Nat.le_refl _) _))⟩
  · obtain rfl : ({ dst := some 14, op := Go.Op.convert 55 9 (Go.Operand.tmp 13), type := 9, pos := "command.go:145", after := #[{ on := 3, ground := Go.Ground.data }], guard := none } : Oper) = o := Option.some.inj ho   -- 4
    obtain ⟨h, rfl, hh⟩ := h3 (dep_ haft 0 rfl) hLi
    have hcv := conv_h hh
    refine value_ (v := .string (oneB (e % 256))) (w1 := W) (by rfl) rfl ?_ ?_
    · go_simp; try rfl
    exact ⟨x10, x11, x12, (.slice (some ⟨h, 0, none⟩) 1 1), .string (oneB (e % 256)), x15, x16, x17, x18, x19, x20, x21, x22, x23, x24, x25, x26, x27, x28, x29, x30, rfl, h0, h1, h2, fun _ h4 => Bool.noConfusion h4, fun _ => rfl, h5, h6, h7, h8, h9, h10, h11, h12, h13, h14, h15, h16, h17, h18, h19, h20, hg, hb, hbu, hsz⟩
  · obtain rfl : ({ dst := some 15, op := Go.Op.fieldAddr 25 (Go.Operand.tmp 1) 2, type := 0, pos := "command.go:145", after := #[], guard := none } : Oper) = o := Option.some.inj ho   -- 5
    refine value_ (v := .pointer (some ⟨g, 2, none⟩)) (w1 := W) (by rfl) rfl ?_ ?_
    · go_simp; try rfl
    exact ⟨x10, x11, x12, x13, x14, .pointer (some ⟨g, 2, none⟩), x16, x17, x18, x19, x20, x21, x22, x23, x24, x25, x26, x27, x28, x29, x30, rfl, h0, h1, h2, h3, h4, fun _ => rfl, h6, h7, h8, h9, h10, h11, h12, h13, h14, h15, h16, h17, h18, h19, h20, hg, hb, hbu, hsz⟩
  · obtain rfl : ({ dst := some 16, op := Go.Op.load 3 (Go.Operand.tmp 15), type := 3, pos := "command.go:145", after := #[{ on := 5, ground := Go.Ground.data }], guard := none } : Oper) = o := Option.some.inj ho   -- 6
    obtain rfl := h5 (dep_ haft 0 rfl)
    have hc : W.cell? ⟨g, 2, none⟩ = some (.int .i64 a0) := (blk_cell hg 2).trans rfl
    refine value_ (v := .int .i64 a0) (w1 := W) (by rfl) rfl ?_ ?_
    · go_simp; try rfl
    exact ⟨x10, x11, x12, x13, x14, .pointer (some ⟨g, 2, none⟩), .int .i64 a0, x17, x18, x19, x20, x21, x22, x23, x24, x25, x26, x27, x28, x29, x30, rfl, h0, h1, h2, h3, h4, fun _ => rfl, fun _ => rfl, h7, h8, h9, h10, h11, h12, h13, h14, h15, h16, h17, h18, h19, h20, hg, hb, hbu, hsz⟩
  · obtain rfl : ({ dst := some 17, op := Go.Op.fieldAddr 25 (Go.Operand.tmp 1) 3, type := 0, pos := "command.go:145", after := #[], guard := none } : Oper) = o := Option.some.inj ho   -- 7
    refine value_ (v := .pointer (some ⟨g, 3, none⟩)) (w1 := W) (by rfl) rfl ?_ ?_
    · go_simp; try rfl
    exact ⟨x10, x11, x12, x13, x14, x15, x16, .pointer (some ⟨g, 3, none⟩), x18, x19, x20, x21, x22, x23, x24, x25, x26, x27, x28, x29, x30, rfl, h0, h1, h2, h3, h4, h5, h6, fun _ => rfl, h8, h9, h10, h11, h12, h13, h14, h15, h16, h17, h18, h19, h20, hg, hb, hbu, hsz⟩
  · obtain rfl : ({ dst := some 18, op := Go.Op.load 3 (Go.Operand.tmp 17), type := 3, pos := "command.go:145", after := #[{ on := 7, ground := Go.Ground.data }], guard := none } : Oper) = o := Option.some.inj ho   -- 8
    obtain rfl := h7 (dep_ haft 0 rfl)
    have hc : W.cell? ⟨g, 3, none⟩ = some (.int .i64 b0) := (blk_cell hg 3).trans rfl
    refine value_ (v := .int .i64 b0) (w1 := W) (by rfl) rfl ?_ ?_
    · go_simp; try rfl
    exact ⟨x10, x11, x12, x13, x14, x15, x16, .pointer (some ⟨g, 3, none⟩), .int .i64 b0, x19, x20, x21, x22, x23, x24, x25, x26, x27, x28, x29, x30, rfl, h0, h1, h2, h3, h4, h5, h6, fun _ => rfl, fun _ => rfl, h9, h10, h11, h12, h13, h14, h15, h16, h17, h18, h19, h20, hg, hb, hbu, hsz⟩
  · obtain rfl : ({ dst := some 19, op := Go.Op.call { callee := Go.Callee.value (Go.Operand.func 21), args := #[Go.Operand.tmp 16, Go.Operand.tmp 18], argTypes := #[3, 3] }, type := 9, pos := "command.go:145", after := #[{ on := 6, ground := Go.Ground.data }, { on := 8, ground := Go.Ground.data }], guard := none } : Oper) = o := Option.some.inj ho   -- 9
    obtain rfl := h6 (dep_ haft 0 rfl)
    obtain rfl := h8 (dep_ haft 1 rfl)
    refine goes_ Tryz.func21 (by kernel_rfl) rfl #[.int .i64 a0, .int .i64 b0] (by rfl) rfl rfl (by (try simp only [List.map_toArray, List.map_cons, List.map_nil]); rfl) ?_
    refine Calls.mono (pair_any a0 b0 W hN.1 hN.2.1 hN.2.2.1 hN.2.2.2) ?_
    rintro e W1 ⟨rfl, hb1⟩
    refine ⟨_, rfl, ?_⟩
    exact ⟨x10, x11, x12, x13, x14, x15, .int .i64 a0, x17, .int .i64 b0, .string (pairB a0 b0), x20, x21, x22, x23, x24, x25, x26, x27, x28, x29, x30, rfl, h0, h1, h2, fun hL h4 => blk3_ (h3 hL h4) hb1, h4, h5, fun _ => rfl, h7, fun _ => rfl, fun _ => rfl, h10, h11, h12, h13, h14, h15, h16, h17, h18, h19, fun hL => bat_below (h20 hL) hb1, blk_below hg hb1, below_step hb hb1, fun hL => blk_below (hbu hL) hb1, Nat.lt_of_lt_of_le hsz (Below.size hb1)⟩
  · obtain rfl : ({ dst := some 20, op := Go.Op.binOp Go.BinOp.add 9 (Go.Operand.tmp 14) (Go.Operand.tmp 19) 9, type := 9, pos := "command.go:145", after := #[{ on := 4, ground := Go.Ground.data }, { on := 9, ground := Go.Ground.data }], guard := none } : Oper) = o := Option.some.inj ho   -- 10
    obtain rfl := h4 (dep_ haft 0 rfl)
    obtain rfl := h9 (dep_ haft 1 rfl)
    have hz1 : (oneB (e % 256)).size = 1 := rfl
    have hz2 := pairB_size a0 b0
    refine value_ (v := .string (oneB (e % 256) ++ pairB a0 b0)) (w1 := W) (by rfl) rfl ?_ ?_
    · go_simp; try rfl
    exact ⟨x10, x11, x12, x13, .string (oneB (e % 256)), x15, x16, x17, x18, .string (pairB a0 b0), .string (oneB (e % 256) ++ pairB a0 b0), x21, x22, x23, x24, x25, x26, x27, x28, x29, x30, rfl, h0, h1, h2, h3, fun _ => rfl, h5, h6, h7, h8, fun _ => rfl, fun _ => rfl, h11, h12, h13, h14, h15, h16, h17, h18, h19, h20, hg, hb, hbu, hsz⟩
  · obtain rfl : ({ dst := some 21, op := Go.Op.fieldAddr 25 (Go.Operand.tmp 1) 1, type := 0, pos := "command.go:145", after := #[], guard := none } : Oper) = o := Option.some.inj ho   -- 11
    refine value_ (v := .pointer (some ⟨g, 1, none⟩)) (w1 := W) (by rfl) rfl ?_ ?_
    · go_simp; try rfl
    exact ⟨x10, x11, x12, x13, x14, x15, x16, x17, x18, x19, x20, .pointer (some ⟨g, 1, none⟩), x22, x23, x24, x25, x26, x27, x28, x29, x30, rfl, h0, h1, h2, h3, h4, h5, h6, h7, h8, h9, h10, fun _ => rfl, h12, h13, h14, h15, h16, h17, h18, h19, h20, hg, hb, hbu, hsz⟩
  · obtain rfl : ({ dst := some 22, op := Go.Op.load 9 (Go.Operand.tmp 21), type := 9, pos := "command.go:145", after := #[{ on := 11, ground := Go.Ground.data }], guard := none } : Oper) = o := Option.some.inj ho   -- 12
    obtain rfl := h11 (dep_ haft 0 rfl)
    have hc : W.cell? ⟨g, 1, none⟩ = some (.string v) := (blk_cell hg 1).trans rfl
    refine value_ (v := .string v) (w1 := W) (by rfl) rfl ?_ ?_
    · go_simp; try rfl
    exact ⟨x10, x11, x12, x13, x14, x15, x16, x17, x18, x19, x20, .pointer (some ⟨g, 1, none⟩), .string v, x23, x24, x25, x26, x27, x28, x29, x30, rfl, h0, h1, h2, h3, h4, h5, h6, h7, h8, h9, h10, fun _ => rfl, fun _ => rfl, h13, h14, h15, h16, h17, h18, h19, h20, hg, hb, hbu, hsz⟩
  · obtain rfl : ({ dst := some 23, op := Go.Op.call { callee := Go.Callee.builtin Go.Builtin.len, args := #[Go.Operand.tmp 22], argTypes := #[9] }, type := 3, pos := "command.go:145", after := #[{ on := 12, ground := Go.Ground.data }], guard := none } : Oper) = o := Option.some.inj ho   -- 13
    obtain rfl := h12 (dep_ haft 0 rfl)
    refine value_ (v := .int .i64 v.size) (w1 := W) (by rfl) rfl ?_ ?_
    · go_simp; try rfl
    exact ⟨x10, x11, x12, x13, x14, x15, x16, x17, x18, x19, x20, x21, .string v, .int .i64 v.size, x24, x25, x26, x27, x28, x29, x30, rfl, h0, h1, h2, h3, h4, h5, h6, h7, h8, h9, h10, h11, fun _ => rfl, fun _ => rfl, h14, h15, h16, h17, h18, h19, h20, hg, hb, hbu, hsz⟩
  · obtain rfl : ({ dst := some 24, op := Go.Op.convert 3 64 (Go.Operand.tmp 23), type := 64, pos := "command.go:145", after := #[{ on := 13, ground := Go.Ground.data }], guard := none } : Oper) = o := Option.some.inj ho   -- 14
    obtain rfl := h13 (dep_ haft 0 rfl)
    have hvs : IntKind.u64.wrap (v.size : Int) = v.size := wrap_u v.size hv
    refine value_ (v := .int .u64 v.size) (w1 := W) (by rfl) rfl ?_ ?_
    · go_simp; try rfl
    exact ⟨x10, x11, x12, x13, x14, x15, x16, x17, x18, x19, x20, x21, x22, .int .i64 v.size, .int .u64 v.size, x25, x26, x27, x28, x29, x30, rfl, h0, h1, h2, h3, h4, h5, h6, h7, h8, h9, h10, h11, h12, fun _ => rfl, fun _ => rfl, h15, h16, h17, h18, h19, h20, hg, hb, hbu, hsz⟩
  · obtain rfl : ({ dst := some 25, op := Go.Op.call { callee := Go.Callee.value (Go.Operand.func 22), args := #[Go.Operand.tmp 24, Go.Operand.const (Go.Value.int Go.IntKind.i64 2)], argTypes := #[64, 3] }, type := 9, pos := "command.go:145", after := #[{ on := 14, ground := Go.Ground.data }, { on := 9, ground := Go.Ground.chain }], guard := none } : Oper) = o := Option.some.inj ho   -- 15
    obtain rfl := h14 (dep_ haft 0 rfl)
    refine goes_ Tryz.func22 (by kernel_rfl) rfl #[.int .u64 v.size, .int .i64 2] (by rfl) rfl rfl (by (try simp only [List.map_toArray, List.map_cons, List.map_nil]); rfl) ?_
    refine Calls.mono (octet_PutBig.calls v.size 2 _ W rfl) ?_
    rintro e W1 ⟨rfl, hb1⟩
    refine ⟨_, rfl, ?_⟩
    exact ⟨x10, x11, x12, x13, x14, x15, x16, x17, x18, x19, x20, x21, x22, x23, .int .u64 v.size, .string (big2 v.size), x26, x27, x28, x29, x30, rfl, h0, h1, h2, fun hL h4 => blk3_ (h3 hL h4) hb1, h4, h5, h6, h7, h8, h9, h10, h11, h12, h13, fun _ => rfl, fun _ => rfl, h16, h17, h18, h19, fun hL => bat_below (h20 hL) hb1, blk_below hg hb1, below_step hb hb1, fun hL => blk_below (hbu hL) hb1, Nat.lt_of_lt_of_le hsz (Below.size hb1)⟩
  · obtain rfl : ({ dst := some 26, op := Go.Op.binOp Go.BinOp.add 9 (Go.Operand.tmp 20) (Go.Operand.tmp 25) 9, type := 9, pos := "command.go:145", after := #[{ on := 10, ground := Go.Ground.data }, { on := 15, ground := Go.Ground.data }], guard := none } : Oper) = o := Option.some.inj ho   -- 16
    obtain rfl := h10 (dep_ haft 0 rfl)
    obtain rfl := h15 (dep_ haft 1 rfl)
    have hz1 : (oneB (e % 256) ++ pairB a0 b0).size = 17 := by rw [ByteArray.size_append, oneB_size, pairB_size]
    have hz2 : (big2 v.size).size = 2 := big2_size _
    refine value_ (v := .string ((oneB (e % 256) ++ pairB a0 b0) ++ big2 v.size)) (w1 := W) (by rfl) rfl ?_ ?_
    · go_simp; try rfl
    exact ⟨x10, x11, x12, x13, x14, x15, x16, x17, x18, x19, .string (oneB (e % 256) ++ pairB a0 b0), x21, x22, x23, x24, .string (big2 v.size), .string ((oneB (e % 256) ++ pairB a0 b0) ++ big2 v.size), x27, x28, x29, x30, rfl, h0, h1, h2, h3, h4, h5, h6, h7, h8, h9, fun _ => rfl, h11, h12, h13, h14, fun _ => rfl, fun _ => rfl, h17, h18, h19, h20, hg, hb, hbu, hsz⟩
  · obtain rfl : ({ dst := some 27, op := Go.Op.fieldAddr 25 (Go.Operand.tmp 1) 1, type := 0, pos := "command.go:145", after := #[], guard := none } : Oper) = o := Option.some.inj ho   -- 17
    refine value_ (v := .pointer (some ⟨g, 1, none⟩)) (w1 := W) (by rfl) rfl ?_ ?_
    · go_simp; try rfl
    exact ⟨x10, x11, x12, x13, x14, x15, x16, x17, x18, x19, x20, x21, x22, x23, x24, x25, x26, .pointer (some ⟨g, 1, none⟩), x28, x29, x30, rfl, h0, h1, h2, h3, h4, h5, h6, h7, h8, h9, h10, h11, h12, h13, h14, h15, h16, fun _ => rfl, h18, h19, h20, hg, hb, hbu, hsz⟩
  · obtain rfl : ({ dst := some 28, op := Go.Op.load 9 (Go.Operand.tmp 27), type := 9, pos := "command.go:145", after := #[{ on := 17, ground := Go.Ground.data }], guard := none } : Oper) = o := Option.some.inj ho   -- 18
    obtain rfl := h17 (dep_ haft 0 rfl)
    have hc : W.cell? ⟨g, 1, none⟩ = some (.string v) := (blk_cell hg 1).trans rfl
    refine value_ (v := .string v) (w1 := W) (by rfl) rfl ?_ ?_
    · go_simp; try rfl
    exact ⟨x10, x11, x12, x13, x14, x15, x16, x17, x18, x19, x20, x21, x22, x23, x24, x25, x26, .pointer (some ⟨g, 1, none⟩), .string v, x29, x30, rfl, h0, h1, h2, h3, h4, h5, h6, h7, h8, h9, h10, h11, h12, h13, h14, h15, h16, fun _ => rfl, fun _ => rfl, h19, h20, hg, hb, hbu, hsz⟩
  · obtain rfl : ({ dst := some 29, op := Go.Op.binOp Go.BinOp.add 9 (Go.Operand.tmp 26) (Go.Operand.tmp 28) 9, type := 9, pos := "command.go:145", after := #[{ on := 16, ground := Go.Ground.data }, { on := 18, ground := Go.Ground.data }], guard := none } : Oper) = o := Option.some.inj ho   -- 19
    obtain rfl := h16 (dep_ haft 0 rfl)
    obtain rfl := h18 (dep_ haft 1 rfl)
    have hz1 : ((oneB (e % 256) ++ pairB a0 b0) ++ big2 v.size).size = 19 := by rw [ByteArray.size_append, ByteArray.size_append, oneB_size, pairB_size, big2_size]
    have hz3 : (9223372036854775807 < 19 + v.size) = False := eq_false (by omega)
    refine value_ (v := .string (headB e v a0 b0)) (w1 := W) (by rfl) rfl ?_ ?_
    · go_simp; try rfl
    exact ⟨x10, x11, x12, x13, x14, x15, x16, x17, x18, x19, x20, x21, x22, x23, x24, x25, .string ((oneB (e % 256) ++ pairB a0 b0) ++ big2 v.size), x27, .string v, .string (headB e v a0 b0), x30, rfl, h0, h1, h2, h3, h4, h5, h6, h7, h8, h9, h10, h11, h12, h13, h14, h15, fun _ => rfl, h17, fun _ => rfl, fun _ => rfl, h20, hg, hb, hbu, hsz⟩
  · obtain rfl : ({ dst := some 30, op := Go.Op.call { callee := Go.Callee.value (Go.Operand.func 20), args := #[Go.Operand.tmp 4, Go.Operand.tmp 29], argTypes := #[57, 9] }, type := 60, pos := "command.go:145", after := #[{ on := 19, ground := Go.Ground.data }, { on := 15, ground := Go.Ground.chain }], guard := none } : Oper) = o := Option.some.inj ho   -- 20
    obtain rfl := h19 (dep_ haft 0 rfl)
    have d4 : L 4 = true := dep_ (hcl 10 _ rfl (dep_ (hcl 16 _ rfl (dep_ (hcl 19 _ rfl (dep_ haft 0 rfl)) 0 rfl)) 0 rfl)) 0 rfl
    have hfr := isb_fresh (hbu hLi)
    have hz1 := headB_size e v a0 b0
    refine goes_ Tryz.func20 (by kernel_rfl) rfl #[.pointer (some ⟨b, 0, none⟩), .string (headB e v a0 b0)] (by rfl) rfl rfl (by (try simp only [List.map_toArray, List.map_cons, List.map_nil]); rfl) ?_
    refine Calls.mono (ws_any b b [] (headB e v a0 b0) W hfr (by rw [hz1]; simp; omega) (Nat.le_of_lt hsz)) ?_
    rintro e W1 ⟨rfl, hbat, hb1⟩
    refine ⟨_, rfl, ?_⟩
    exact ⟨x10, x11, x12, x13, x14, x15, x16, x17, x18, x19, x20, x21, x22, x23, x24, x25, x26, x27, x28, .string (headB e v a0 b0), _, rfl, h0, h1, h2, fun hL h4 => Bool.noConfusion (d4.symm.trans h4), h4, h5, h6, h7, h8, h9, h10, h11, h12, h13, h14, h15, h16, h17, h18, fun _ => rfl, fun _ => hbat, (hb1.block g hgb).trans hg, hb.trans (hb1.mono (by omega)), fun hL => Bool.noConfusion hL, Nat.lt_of_lt_of_le hsz (Below.size hb1)⟩
  · cases ho
end Go.Proofs.YtbfdaclekjgkfaaGreatDoor

/- A reply as bytes: the walk of the program's function. -/
set_option linter.unusedVariables false
namespace Go.Proofs.YtbfdaclekjgkfaaGreatDoor
open Go.RowKit Go.Proofs.YtbfdaclekjgkfaaGreatDoorW.PrintWords Go.Proofs.YtbfdaclekjgkfaaGreatDoorW.PrintLast

def keysL (l : List ByteArray) : List UInt8 := l.flatMap fun k => (shortB k).data.toList
def repL (e : Int) (v : ByteArray) (a b : Int) (l : List ByteArray) : List UInt8 := (headB e v a b).data.toList ++ ((oneB ((l.length : Int) % 256)).data.toList ++ keysL l)
def repS (e : Int) (v : ByteArray) (a b : Int) (l : List ByteArray) : ByteArray := ⟨(repL e v a b l).toArray⟩

theorem alloc_lt (w : World) (o : Obj) : w.heap.size < (w.alloc o).heap.size := by unfold World.alloc; rw [Array.size_push]; omega
theorem keysL_succ (l : List ByteArray) (k : Nat) (h : k < l.length) : keysL (l.take (k + 1)) = keysL (l.take k) ++ (shortB l[k]).data.toList := by
  unfold keysL
  rw [List.take_succ_eq_append_getElem h, List.flatMap_append]
  simp
theorem keysL_len (l : List ByteArray) (hk : KeysP l) : (keysL l).length ≤ 61 * l.length := by
  induction l with
  | nil => simp [keysL]
  | cons x xs ih =>
    have h1 := hk x List.mem_cons_self
    have h2 := ih (fun k h => hk k (List.mem_cons_of_mem _ h))
    have h3 : keysL (x :: xs) = (shortB x).data.toList ++ keysL xs := by simp [keysL]
    rw [h3, List.length_append, ← Lib.size_eq, shortB_size]
    simp only [List.length_cons]
    omega
theorem keys_take {l : List ByteArray} (h : KeysP l) (k : Nat) : KeysP (l.take k) := fun x hx => h x (List.mem_of_mem_take hx)
theorem w_succ (k : Nat) (h : k + 1 ≤ 40) : wrap64 ((k : Int) + 1) = ((k + 1 : Nat) : Int) := wrap_small (k + 1) (by omega)
theorem w_meas (k n : Nat) (h : k + 1 ≤ n) : n - (((k + 1 : Nat) : Int)).toNat < n - ((k : Nat) : Int).toNat := by omega
theorem nle1 (x : Nat) (h : x ≤ 500) : 19 + x + 1 ≤ 140737488355328 := by omega
theorem nle2 (x : Nat) (h : x ≤ 60) : x ≤ 140737488351232 := by omega
theorem nle3 (x k : Nat) (h : x ≤ 20 + 500 + 61 * 40) (h2 : k ≤ 60) : x + (1 + k) ≤ 140737488355328 := by omega
theorem bat_is {W : World} {B b : Nat} {bs : List Value} (h : Lib.BuilderAtF 57 5 B b (.pointer (some ⟨b, 0, none⟩)) bs W) : Lib.IsBuilderF 57 5 B b bs W := .inr h

set_option maxHeartbeats 1600000 in
set_option maxRecDepth 100000 in
theorem preply_yes (e : Int) (v : ByteArray) (a b : Int) (A : Option Addr) (c : Nat) (l : List ByteArray) (w : World) (hC : Kd.C Kd.string w A l.length l) (hc : l.length ≤ c) (hR : RepP e v a b l) :
    Calls Tryz.prog 6 #[.agg #[.int .i64 e, .string v, .int .i64 a, .int .i64 b, .slice A l.length c]] w fun x w' => x = .returned (.tuple #[.string (repS e v a b l), .bool true]) ∧ Below w.heap.size w w' := by
  go_enter Tryz.func6, Tryz.ntmps6
  go_wp2_with fail
  refine (rightReply_any e v a b A c l _ ?_ hc).mono ?_
  · exact Kd.C_below hC ((Below.refl _ w).alloc (Nat.le_refl _) _)
  rintro x w1 ⟨rfl, h1⟩
  rw [decide_eq_true hR]
  have hg1 : w1.heap[w.heap.size]? = some (.cells #[.int .i64 e, .string v, .int .i64 a, .int .i64 b, .slice A l.length c] 25 (0, 0)) := blk_below (heap_alloc_new w _) h1
  have hb1 : Below w.heap.size w w1 := below_step ((Below.refl _ w).alloc (Nat.le_refl _) _) h1
  have hgb : w.heap.size < w1.heap.size := Nat.lt_of_lt_of_le (alloc_lt w _) h1.size
  have HG1 := Lib.hid hg1
  have HB1 := Lib.hid hb1
  clear h1 hg1 hb1
  go_wp2_with fail
  have al := ((Below.refl w1.heap.size w1).alloc (Nat.le_refl _) (.cells #[.pointer none, .slice none 0 0] 57)).drew
  refine wp_region_inv2 (by kernel_rfl) (by kernel_rfl) (I4 e v a b A c l w w.heap.size w1.heap.size) ?_ (I4.step e v a b A c l w w.heap.size w1.heap.size hgb (Nat.le_refl _) hR.2.2.1 hR.2.2.2.1) ?_
  · have no : ∀ {p : Prop}, false = true → p := fun h => Bool.noConfusion h
    exact ⟨undef, undef, undef, undef, undef, undef, undef, undef, undef, undef, undef, undef, undef, undef, undef, undef, undef, undef, undef, undef, undef, rfl, no, no, no, no, no, no, no, no, no, no, no, no, no, no, no, no, no, no, no, no, no, blk_below HG1.out al, below_step HB1.out al, fun _ => heap_alloc_new w1 _, alloc_lt w1 _⟩
  rintro L a' W hall ⟨x10, x11, x12, x13, x14, x15, x16, x17, x18, x19, x20, x21, x22, x23, x24, x25, x26, x27, x28, x29, x30, rfl, h0, h1, h2, h3, h4, h5, h6, h7, h8, h9, h10, h11, h12, h13, h14, h15, h16, h17, h18, h19, h20, hg, hb, hbu, hsz⟩
  have hB := Lib.hid (h20 (hall 20 (by decide)))
  have HG := Lib.hid hg
  have HB := Lib.hid hb
  have HZ := Lib.hid hsz
  clear h0 h1 h2 h3 h4 h5 h6 h7 h8 h9 h10 h11 h12 h13 h14 h15 h16 h17 h18 h19 h20 hg hb hbu hsz hall HG1 HB1 al
  generalize hbb : w1.heap.size = bb at *
  generalize hgg : w.heap.size = gg at *
  rename_i K hK
  show K _ W
  refine hK _ _ ?_
  clear hK K
  dsimp only
  clear hbb w1
  have hcv := conv_one
  have c4 : W.cell? ⟨gg, 4, none⟩ = some (.slice A l.length c) := (blk_cell HG.out 4).trans rfl
  go_wp2_with fail
  have hz0 := headB_size e v a b
  have al2 := (Below.refl W.heap.size W).alloc (Nat.le_refl _) (.cells #[.int .u8 ((l.length : Int) % 256)] 5)
  refine (ws_any bb bb _ (oneB ((l.length : Int) % 256)) _ (bat_is (bat_below hB.out al2)) (by rw [Lib.strCells_length, hz0, oneB_size]; exact nle1 _ hR.2.2.2.1) (Nat.le_of_lt (Nat.lt_of_lt_of_le HZ.out al2.size))).mono ?_
  rintro e1 W2 ⟨rfl, hbat2, hb2⟩
  have HG2 := Lib.hid ((hb2.block gg hgb).trans (blk_below HG.out al2))
  have HB2 := Lib.hid ((HB.out.trans (al2.mono (by have := HZ.out; omega))).trans (hb2.mono (Nat.le_of_lt hgb)))
  have HA2 := Lib.hid hbat2
  have HZ2 := Lib.hid (Nat.lt_of_lt_of_le (Nat.lt_of_lt_of_le HZ.out al2.size) hb2.size)
  clear hbat2 hb2 al2 c4 hB HG HB HZ hcv
  have c4 : W2.cell? ⟨gg, 4, none⟩ = some (.slice A l.length c) := (blk_cell HG2.out 4).trans rfl
  go_wp2
  go_loopw [41] (fun i wr => ∃ k : Nat, k ≤ l.length ∧ i = .int .i64 k ∧ Aside (Lib.BuilderAtF 57 5 bb bb (.pointer (some ⟨bb, 0, none⟩)) (Lib.byteCells ((headB e v a b).data.toList ++ (oneB ((l.length : Int) % 256)).data.toList ++ keysL (l.take k))) wr) ∧ Aside (Below gg w wr) ∧ Aside (bb < wr.heap.size)) (fun i _ => l.length - (intOf i).toNat)
  case atStart =>
    refine ⟨0, Nat.zero_le _, rfl, ?_, HB2.out, HZ2.out⟩
    have := HA2.out
    rw [Lib.strCells_eq, Lib.strCells_eq, ← Lib.byteCells_append] at this
    have h0 : keysL (l.take 0) = [] := rfl
    rw [h0, List.append_nil]
    exact this
  case round =>
    obtain ⟨k, hk, rfl, hI, hBl, hZ⟩ := hrel
    by_cases hlt : k < l.length
    · have hlt1 := Lib.hid (And.intro hlt trivial)
      have p0 : (0 : Int) ≤ (k : Int) := by omega
      have q0 : (k : Int) < (l.length : Int) := by omega
      obtain ⟨ad, ea, hx⟩ := Kd.at_string hC (k : Int) p0 q0
      subst ea
      have hx' := Lib.hid ((hBl.out.cell (by rw [← hgg]; exact World.block_lt_of_cell? w _ hx)).trans hx)
      have hr : rdOf ByteArray.empty l (k : Int) = l[k] := by simp [rdOf, List.getD, hlt]
      rw [hr] at hx'
      have hc1 := hx'.out
      rw [Int.toNat_natCast] at hc1
      go_wp2_with fail
      have hks := hR.2.2.2.2.2 l[k] (List.getElem_mem hlt)
      refine (short_any l[k] _ (nle2 _ hks)).mono ?_
      rintro e2 W3 ⟨rfl, h3⟩
      have HA3 := Lib.hid (bat_below hI.out h3)
      have HB3 := Lib.hid (hBl.out.trans (h3.mono (by have := hZ.out; omega)))
      have HZ3 := Lib.hid (Nat.lt_of_lt_of_le hZ.out h3.size)
      have hss := shortB_size l[k]
      clear h3 hI hBl hZ hx hx' hc1
      go_wp2_with fail
      have hlen : ((headB e v a b).data.toList ++ (oneB ((l.length : Int) % 256)).data.toList ++ keysL (l.take k)).length ≤ 20 + 500 + 61 * 40 := by
        have h1 := keysL_len (l.take k) (keys_take hR.2.2.2.2.2 k)
        rw [List.length_append, List.length_append, ← Lib.size_eq, ← Lib.size_eq, hz0, oneB_size]
        rw [List.length_take] at h1
        have h2 := hR.2.2.2.1
        have h3 := hR.2.2.2.2.1
        omega
      refine (ws_any bb bb _ (shortB l[k]) _ (bat_is HA3.out) (by rw [Lib.byteCells_length, hss]; exact nle3 _ _ hlen hks) (Nat.le_of_lt HZ3.out)).mono ?_
      rintro e3 W4 ⟨rfl, h4, hb4⟩
      rw [Lib.strCells_eq, ← Lib.byteCells_append, List.append_assoc, ← keysL_succ l k hlt] at h4
      have HA4 := Lib.hid h4
      have HB4 := Lib.hid (HB3.out.trans (hb4.mono (Nat.le_of_lt hgb)))
      have HZ4 := Lib.hid (Nat.lt_of_lt_of_le HZ3.out hb4.size)
      clear h4 hb4 HA3 HB3 HZ3
      go_wp2
      go_roundw
      have hb40 : k + 1 ≤ 40 := Nat.le_trans hlt1.out.1 hR.2.2.2.2.1
      have hw : wrap64 ((k : Int) + 1) = ((k + 1 : Nat) : Int) := w_succ k hb40
      case rel => exact ⟨k + 1, hlt1.out.1, by rw [hw], HA4.out, HB4.out, HZ4.out⟩
      case measure => have := hlt1.out.1; have hw := w_succ k (Nat.le_trans hlt1.out.1 hR.2.2.2.2.1); rw [hw]; exact w_meas k l.length hlt1.out.1
    · obtain rfl : k = l.length := by omega
      go_wp2_with fail
      rw [List.take_length] at hI
      refine (Tryz.Builder_String_any_f bb bb _ _ (bat_is hI.out) (Nat.le_of_lt hZ.out)).mono ?_
      rintro e4 W5 ⟨rfl, _, hb5⟩
      have HB5 := Lib.hid (hBl.out.trans (hb5.mono (Nat.le_of_lt hgb)))
      clear hb5 hI hBl hZ
      go_wp2
      go_ret2
      rw [hgg]
      exact ⟨rfl, HB5.out⟩

set_option maxHeartbeats 400000 in
theorem preply_no (e : Int) (v : ByteArray) (a b : Int) (A : Option Addr) (c : Nat) (l : List ByteArray) (w : World) (hC : Kd.C Kd.string w A l.length l) (hc : l.length ≤ c) (hR : ¬ RepP e v a b l) :
    Calls Tryz.prog 6 #[.agg #[.int .i64 e, .string v, .int .i64 a, .int .i64 b, .slice A l.length c]] w fun x w' => x = .returned (.tuple #[.string ⟨#[]⟩, .bool false]) ∧ Below w.heap.size w w' := by
  go_enter Tryz.func6, Tryz.ntmps6
  go_wp2_with fail
  refine (rightReply_any e v a b A c l _ ?_ hc).mono ?_
  · exact Kd.C_below hC ((Below.refl _ w).alloc (Nat.le_refl _) _)
  rintro x w1 ⟨rfl, h1⟩
  rw [decide_eq_false hR]
  have HB1 := Lib.hid (below_step ((Below.refl _ w).alloc (Nat.le_refl _) _) h1)
  clear h1
  go_wp2
  go_ret2
  exact ⟨rfl, HB1.out⟩

def command_PutReply.f (e : Int) (v : ByteArray) (a b : Int) (l : List ByteArray) : Option (ByteArray × Bool) := some (if RepP e v a b l then (repS e v a b l, true) else (⟨#[]⟩, false))
theorem command_PutReply.calls (e : Int) (v : ByteArray) (a b : Int) (A : Option Addr) (c : Nat) (l : List ByteArray) (r1 : ByteArray) (r2 : Bool) (w : World) (hC : Kd.C Kd.string w A l.length l) (hc : l.length ≤ c) (h : command_PutReply.f e v a b l = some (r1, r2)) :
    Calls Tryz.prog 6 #[.agg #[.int .i64 e, .string v, .int .i64 a, .int .i64 b, .slice A l.length c]] w fun x w' => x = .returned (.tuple #[.string r1, .bool r2]) ∧ Below w.heap.size w w' := by
  unfold command_PutReply.f at h
  have h := Option.some.inj h
  by_cases hR : RepP e v a b l
  · rw [if_pos hR] at h
    simp only [Prod.mk.injEq] at h
    obtain ⟨rfl, rfl⟩ := h
    exact preply_yes e v a b A c l w hC hc hR
  · rw [if_neg hR] at h
    simp only [Prod.mk.injEq] at h
    obtain ⟨rfl, rfl⟩ := h
    exact preply_no e v a b A c l w hC hc hR
theorem repS_size (e : Int) (v : ByteArray) (a b : Int) (l : List ByteArray) : (repS e v a b l).size = 20 + v.size + (keysL l).length := by
  unfold repS repL
  rw [Lib.size_eq]
  simp only [List.length_append]
  rw [← Lib.size_eq, ← Lib.size_eq, headB_size, oneB_size]
  omega
end Go.Proofs.YtbfdaclekjgkfaaGreatDoor
