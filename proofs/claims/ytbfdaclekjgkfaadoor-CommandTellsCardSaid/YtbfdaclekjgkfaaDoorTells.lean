/- CommandTells: the walk. -/
import Derived.Test.YtbfdaclekjgkfaaDoorWrap2
import Derived.Deep.RegionHeld3
namespace Go.Proofs.YtbfdaclekjgkfaaDoor
open Go.RowKit

/-- A command of whatever fields in a block, as facts of its cells. -/
def retA (s : ByteArray) : Value := .agg #[.int .i64 (gotR s).1, .string (gotR s).2.1, .string (gotR s).2.2.1, .int .i64 (gotR s).2.2.2.1, .int .i64 (gotR s).2.2.2.2.1]
theorem get_r (s : ByteArray) (w : World) (hs : s.size ≤ 140737488351232) : Calls Tryd.prog 12 #[.string s] w fun e w' => e = .returned (.tuple #[.agg #[.int .i64 (gotR s).1, .string (gotR s).2.1, .string (gotR s).2.2.1, .int .i64 (gotR s).2.2.2.1, .int .i64 (gotR s).2.2.2.2.1], .bool (gotR s).2.2.2.2.2]) ∧ Below w.heap.size w w' :=
  (get_any s w hs).mono fun _ _ h => gotE_of rfl h
theorem rget_r (s : ByteArray) (w : World) (hs : s.size ≤ 140737488351232) : Calls Tryd.prog 13 #[.string s] w fun e w' => e = .returned (.tuple #[.agg #[.int .i64 (gotR s).1, .string (gotR s).2.1, .string (gotR s).2.2.1, .int .i64 (gotR s).2.2.2.1, .int .i64 (gotR s).2.2.2.2.1], .bool (gotR s).2.2.2.2.2]) ∧ Below w.heap.size w w' :=
  (rget_any s w hs).mono fun _ _ h => gotE_of rfl h

set_option maxRecDepth 100000 in
set_option maxHeartbeats 3200000 in
theorem tells_walk (op : Int) (k v : ByteArray) (a b : Int) (s : ByteArray) (o : Int) (w : World) (hL : Laid w) (h1 : k.size ≤ 300) (h2 : v.size ≤ 1000) (h3 : s.size ≤ 1000) :
    Calls Tryd.prog 3 #[.agg #[.int .i64 op, .string k, .string v, .int .i64 a, .int .i64 b], .string s, .int .i64 o] w fun e w' => e = .returned (.bool true) ∧ Below w.heap.size w w' := by
  have hsz : s.size ≤ 140737488351232 := by omega
  go_enter Tryd.func3, Tryd.ntmps3
  go_wp2_with fail
  refine (alive_any _ (hL.below rfl ((Below.refl _ w).alloc (Nat.le_refl _) _))).mono ?_
  rintro e w1 ⟨rfl, hb1⟩
  have B1 := Lib.hid (((Below.refl _ w).alloc (Nat.le_refl _) (.cells #[.int .i64 op, .string k, .string v, .int .i64 a, .int .i64 b] 23)).trans (hb1.mono (by simp)))
  have C1 : Hid (CB w1 w.heap.size op k v a b) := Lib.hid ((hb1.block _ (by simp)).trans (heap_alloc_new w _))
  clear hb1
  obtain ⟨⟨c0, c1, c2, c3, c4⟩, -⟩ := C1.out.at
  go_wp2_with fail
  refine (put_any _ _ _ _ _ _).mono ?_
  rintro e w2 ⟨rfl, hb2⟩
  have B2 := Lib.hid (B1.out.trans (hb2.mono B1.out.size))
  have C2 : Hid (CB w2 w.heap.size op k v a b) := Lib.hid ((hb2.block _ (lt_of_block C1.out)).trans C1.out)
  clear hb2 c0 c1 c2 c3 c4
  obtain ⟨⟨c0, c1, c2, c3, c4⟩, -⟩ := C2.out.at
  go_wp2_with fail
  refine (rput_any _ _ _ _ _ _).mono ?_
  rintro e w3 ⟨rfl, hb3⟩
  have B3 := Lib.hid (B2.out.trans (hb3.mono B2.out.size))
  have C3 : Hid (CB w3 w.heap.size op k v a b) := Lib.hid ((hb3.block _ (lt_of_block C2.out)).trans C2.out)
  clear hb3 c0 c1 c2 c3 c4
  go_wp2_with fail
  refine (get_r _ _ hsz).mono ?_
  rintro e w4 ⟨rfl, hb4⟩
  have B4 := Lib.hid (B3.out.trans (hb4.mono B3.out.size))
  have C4 : Hid (CB w4 w.heap.size op k v a b) := Lib.hid ((hb4.block _ (lt_of_block C3.out)).trans C3.out)
  clear hb4
  go_wp2_with fail
  refine (rget_r _ _ hsz).mono ?_
  rintro e w5 ⟨rfl, hb5⟩
  go_wp2_with fail
  have hl5 := hb5.size
  have B5' := B4.out.alloc B4.out.size (.cells #[.int .i64 (gotR s).1, .string (gotR s).2.1, .string (gotR s).2.2.1, .int .i64 (gotR s).2.2.2.1, .int .i64 (gotR s).2.2.2.2.1] 23)
  have D5 : CB w5 w4.heap.size (gotR s).1 (gotR s).2.1 (gotR s).2.2.1 (gotR s).2.2.2.1 (gotR s).2.2.2.2.1 := (hb5.block _ (by simp)).trans (heap_alloc_new w4 _)
  have A5 : CB w5 w.heap.size op k v a b := (hb5.block _ (by have := lt_of_block C4.out; simp; omega)).trans ((Below.heap_alloc _ _ _ (lt_of_block C4.out)).trans C4.out)
  have B55 := B5'.trans (hb5.mono B5'.size)
  have B5 : Below w.heap.size w (w5.alloc (.cells #[.int .i64 (gotR s).1, .string (gotR s).2.1, .string (gotR s).2.2.1, .int .i64 (gotR s).2.2.2.1, .int .i64 (gotR s).2.2.2.2.1] 23)) := B55.alloc B55.size _
  have A6 := (CB.at (W := w5.alloc (.cells #[.int .i64 (gotR s).1, .string (gotR s).2.1, .string (gotR s).2.2.1, .int .i64 (gotR s).2.2.2.1, .int .i64 (gotR s).2.2.2.2.1] 23)) ((Below.heap_alloc _ _ _ (lt_of_block A5)).trans A5)).1
  have D6 := (CB.at (W := w5.alloc (.cells #[.int .i64 (gotR s).1, .string (gotR s).2.1, .string (gotR s).2.2.1, .int .i64 (gotR s).2.2.2.1, .int .i64 (gotR s).2.2.2.2.1] 23)) ((Below.heap_alloc _ _ _ (lt_of_block D5)).trans D5)).1
  have E6 := (CB.at (W := w5.alloc (.cells #[.int .i64 (gotR s).1, .string (gotR s).2.1, .string (gotR s).2.2.1, .int .i64 (gotR s).2.2.2.1, .int .i64 (gotR s).2.2.2.2.1] 23)) (heap_alloc_new w5 _)).1
  have hS : (fun w' => w'.cell? ⟨w.heap.size, 0, none⟩ = some (.int .i64 op) ∧ w'.cell? ⟨w.heap.size, 1, none⟩ = some (.string k) ∧ w'.cell? ⟨w.heap.size, 2, none⟩ = some (.string v) ∧ w'.cell? ⟨w.heap.size, 3, none⟩ = some (.int .i64 a) ∧ w'.cell? ⟨w.heap.size, 4, none⟩ = some (.int .i64 b) ∧ w'.cell? ⟨w4.heap.size, 0, none⟩ = some (.int .i64 (gotR s).1) ∧ w'.cell? ⟨w4.heap.size, 1, none⟩ = some (.string (gotR s).2.1) ∧ w'.cell? ⟨w4.heap.size, 2, none⟩ = some (.string (gotR s).2.2.1) ∧ w'.cell? ⟨w4.heap.size, 3, none⟩ = some (.int .i64 (gotR s).2.2.2.1) ∧ w'.cell? ⟨w4.heap.size, 4, none⟩ = some (.int .i64 (gotR s).2.2.2.2.1) ∧ w'.cell? ⟨w5.heap.size, 0, none⟩ = some (.int .i64 (gotR s).1) ∧ w'.cell? ⟨w5.heap.size, 1, none⟩ = some (.string (gotR s).2.1) ∧ w'.cell? ⟨w5.heap.size, 2, none⟩ = some (.string (gotR s).2.2.1) ∧ w'.cell? ⟨w5.heap.size, 3, none⟩ = some (.int .i64 (gotR s).2.2.2.1) ∧ w'.cell? ⟨w5.heap.size, 4, none⟩ = some (.int .i64 (gotR s).2.2.2.2.1) ∧ Below w.heap.size w w') (w5.alloc (.cells #[.int .i64 (gotR s).1, .string (gotR s).2.1, .string (gotR s).2.2.1, .int .i64 (gotR s).2.2.2.1, .int .i64 (gotR s).2.2.2.2.1] 23)) :=
    ⟨A6.1, A6.2.1, A6.2.2.1, A6.2.2.2.1, A6.2.2.2.2, D6.1, D6.2.1, D6.2.2.1, D6.2.2.2.1, D6.2.2.2.2, E6.1, E6.2.1, E6.2.2.1, E6.2.2.2.1, E6.2.2.2.2, B5⟩
  clear A6 D6 E6 B5 B5' B55 A5 D5 hl5
  clear hb5
  generalize (gotR s).1 = r1 at *
  generalize (gotR s).2.1 = r2 at *
  generalize (gotR s).2.2.1 = r3 at *
  generalize (gotR s).2.2.2.1 = r4 at *
  generalize (gotR s).2.2.2.2.1 = r5 at *
  generalize (gotR s).2.2.2.2.2 = r6 at *
  generalize w5.alloc (.cells #[.int .i64 r1, .string r2, .string r3, .int .i64 r4, .int .i64 r5] 23) = w6 at *
  generalize w5.heap.size = g5 at *
  generalize w4.heap.size = g4 at *
  obtain ⟨a0, a1, a2, a3, a4, d0, d1, d2, d3, d4, e0, e1, e2, e3, e4, hBel⟩ := hS
  have hBd : Below w.heap.size w w6.drew := Below.drew hBel
  go_region_held3 (fun w' => w'.cell? ⟨w.heap.size, 0, none⟩ = some (.int .i64 op) ∧ w'.cell? ⟨w.heap.size, 1, none⟩ = some (.string k) ∧ w'.cell? ⟨w.heap.size, 2, none⟩ = some (.string v) ∧ w'.cell? ⟨w.heap.size, 3, none⟩ = some (.int .i64 a) ∧ w'.cell? ⟨w.heap.size, 4, none⟩ = some (.int .i64 b) ∧ w'.cell? ⟨g4, 0, none⟩ = some (.int .i64 r1) ∧ w'.cell? ⟨g4, 1, none⟩ = some (.string r2) ∧ w'.cell? ⟨g4, 2, none⟩ = some (.string r3) ∧ w'.cell? ⟨g4, 3, none⟩ = some (.int .i64 r4) ∧ w'.cell? ⟨g4, 4, none⟩ = some (.int .i64 r5) ∧ w'.cell? ⟨g5, 0, none⟩ = some (.int .i64 r1) ∧ w'.cell? ⟨g5, 1, none⟩ = some (.string r2) ∧ w'.cell? ⟨g5, 2, none⟩ = some (.string r3) ∧ w'.cell? ⟨g5, 3, none⟩ = some (.int .i64 r4) ∧ w'.cell? ⟨g5, 4, none⟩ = some (.int .i64 r5) ∧ Below w.heap.size w w')
    (first
      | go_keep
      | ((try go_split_ands)
         refine ⟨?_, ?_, ?_, ?_, ?_, ?_, ?_, ?_, ?_, ?_, ?_, ?_, ?_, ?_, ?_, ?_⟩ <;> first | assumption | (go_simp; done) | exact Below.drew (by assumption) | (refine Below.alloc (by assumption) (Below.size (by assumption)) _) | (exact cell_later hb (by assumption)) | (exact Below.trans (by assumption) (hb.mono (Below.size (by assumption))))))
    ((first
      | (go_at_call 14; refine (right_any _ _ _ _ _ _).mono ?_; rintro e w7 ⟨rfl, hb⟩)
      | (go_at_call 15; refine (rright_any _ _ _ _ _ _).mono ?_; rintro e w7 ⟨rfl, hb⟩)
      | (go_at_call 16; refine (class_any _ _).mono ?_; rintro e w7 ⟨rfl, rfl⟩)
      | (go_at_call 17; refine (rclass_any _ _).mono ?_; rintro e w7 ⟨rfl, rfl⟩)
      | (go_at_call 18; go_split_ands; refine (name_any _ _ (hL.below rfl ?_)).mono ?_; rotate_left; (rintro e w7 ⟨rfl, hb⟩); rotate_left; assumption)
      | (go_at_call 19; refine (rname_any _ _ _ (nm_some _)).mono ?_; rintro e w7 ⟨rfl, hb⟩)))
  clear a0 a1 a2 a3 a4 d0 d1 d2 d3 d4 e0 e1 e2 e3 e4 hBel hBd
  clear B1 C1 B2 C2 B3 C3 B4 C4
  go_split_ands
  rename_i a0 a1 a2 a3 a4 d0 d1 d2 d3 d4 e0 e1 e2 e3 e4 hBel
  clear d0 d1 d2 d3 d4 e0 e1 e2 e3 e4
  cases hr : rightB op k.size v.size a b with
  | true =>
    have HR := Lib.hid hr
    clear hr
    go_wp2_with fail
    refine (get_put op k v a b (of_decide_eq_true HR.out) _).mono ?_
    rintro e w8 ⟨rfl, hb8⟩
    have hc8 := fun o => (bcell hb8).1 w.heap.size o (World.block_lt_of_cell? _ _ a0)
    have x0 := (hc8 0).trans a0; have x1 := (hc8 1).trans a1; have x2 := (hc8 2).trans a2; have x3 := (hc8 3).trans a3; have x4 := (hc8 4).trans a4
    have hl8 := World.block_lt_of_cell? _ _ x0
    have B8 := Lib.hid (hBel.trans (hb8.mono hBel.size))
    clear hc8 hb8 a0 a1 a2 a3 a4 hBel
    go_wp2
    go_ret
    exact ⟨rfl, B8.out.alloc B8.out.size _⟩
  | false =>
    have hps : putS op k v a b = ⟨#[]⟩ := by unfold putS; rw [hr]; rfl
    have hg0 : gotR ⟨#[]⟩ = (0, ⟨#[]⟩, ⟨#[]⟩, 0, 0, false) := by unfold gotR; rw [gotOk_nil]; rfl
    have HPS := Lib.hid hps
    clear hps
    go_wp2_with fail
    rw [HPS.out]
    refine ((get_any ⟨#[]⟩ _ (by decide)).mono fun e w' h => gotE_of hg0 h).mono ?_
    rintro e w8 ⟨rfl, hb8⟩
    have B8 := Lib.hid (hBel.trans (hb8.mono hBel.size))
    clear hb8 a0 a1 a2 a3 a4 hBel
    go_wp2
    go_ret
    exact ⟨rfl, B8.out.alloc B8.out.size _⟩
end Go.Proofs.YtbfdaclekjgkfaaDoor
