/- CommandEdges: the walk. -/
import Derived.Test.YtbfdaclekjgkfaaDoorEdR
set_option linter.unusedVariables false
set_option linter.unusedSimpArgs false
namespace Go.Proofs.YtbfdaclekjgkfaaDoor
open Go.RowKit Go.Proofs.YtbfdaclekjgkfaaDoorW.PrintWords Go.Proofs.YtbfdaclekjgkfaaDoorW.PrintLast

theorem alloc_size_ (V : World) (o : Obj) : (V.alloc o).heap.size = V.heap.size + 1 := by unfold World.alloc; rw [Array.size_push]
theorem zconv_new2 (n : Nat) (V : World) (o : Obj) : (convert 35 9 (.slice (some ⟨V.heap.size + 1, 0, none⟩) n n)).run Tryd.prog ((V.alloc o).alloc (.cells (madeCells #[Value.int .u8 0] n) 5)) = .ok (.string (zB n)) ((V.alloc o).alloc (.cells (madeCells #[Value.int .u8 0] n) 5)) := by
  have := zconv_new n (V.alloc o)
  rw [alloc_size_] at this
  exact this
attribute [local irreducible] zB
/-- The four stores behind the copies. -/
def four (W : World) (a0 a1 a2 a3 : Nat) : World := (((W.setCell ⟨a0, 3, none⟩ (.int .i64 1000000000000)).setCell ⟨a1, 3, none⟩ (.int .i64 1000000000001)).setCell ⟨a2, 4, none⟩ (.int .i64 1000000000000)).setCell ⟨a3, 4, none⟩ (.int .i64 (-1))
theorem four_other {W : World} {a0 a1 a2 a3 k : Nat} (h0 : k ≠ a0) (h1 : k ≠ a1) (h2 : k ≠ a2) (h3 : k ≠ a3) : (four W a0 a1 a2 a3).heap[k]? = W.heap[k]? := by
  unfold four
  rw [Below.heap_setCell _ _ _ _ h3, Below.heap_setCell _ _ _ _ h2, Below.heap_setCell _ _ _ _ h1, Below.heap_setCell _ _ _ _ h0]
theorem four_size (W : World) (a0 a1 a2 a3 : Nat) : (four W a0 a1 a2 a3).heap.size = W.heap.size := by simp [four, World.setCell]
theorem four_0 {W : World} {a0 a1 a2 a3 T : Nat} {x0 x1 x2 x3 x4 : Value} (h : W.heap[a0]? = some (.cells #[x0, x1, x2, x3, x4] T (0, 0))) (h1 : a0 ≠ a1) (h2 : a0 ≠ a2) (h3 : a0 ≠ a3) : (four W a0 a1 a2 a3).heap[a0]? = some (.cells #[x0, x1, x2, .int .i64 1000000000000, x4] T (0, 0)) := by
  unfold four
  rw [Below.heap_setCell _ _ _ _ h3, Below.heap_setCell _ _ _ _ h2, Below.heap_setCell _ _ _ _ h1]
  exact heap_setCell_same W a0 3 _ T _ h
theorem four_1 {W : World} {a0 a1 a2 a3 T : Nat} {x0 x1 x2 x3 x4 : Value} (h : W.heap[a1]? = some (.cells #[x0, x1, x2, x3, x4] T (0, 0))) (h0 : a1 ≠ a0) (h2 : a1 ≠ a2) (h3 : a1 ≠ a3) : (four W a0 a1 a2 a3).heap[a1]? = some (.cells #[x0, x1, x2, .int .i64 1000000000001, x4] T (0, 0)) := by
  unfold four
  rw [Below.heap_setCell _ _ _ _ h3, Below.heap_setCell _ _ _ _ h2]
  exact heap_setCell_same _ a1 3 _ T _ ((Below.heap_setCell _ _ _ _ h0).trans h)
theorem four_2 {W : World} {a0 a1 a2 a3 T : Nat} {x0 x1 x2 x3 x4 : Value} (h : W.heap[a2]? = some (.cells #[x0, x1, x2, x3, x4] T (0, 0))) (h0 : a2 ≠ a0) (h1 : a2 ≠ a1) (h3 : a2 ≠ a3) : (four W a0 a1 a2 a3).heap[a2]? = some (.cells #[x0, x1, x2, x3, .int .i64 1000000000000] T (0, 0)) := by
  unfold four
  rw [Below.heap_setCell _ _ _ _ h3]
  exact heap_setCell_same _ a2 4 _ T _ ((Below.heap_setCell _ _ _ _ h1).trans ((Below.heap_setCell _ _ _ _ h0).trans h))
theorem four_3 {W : World} {a0 a1 a2 a3 T : Nat} {x0 x1 x2 x3 x4 : Value} (h : W.heap[a3]? = some (.cells #[x0, x1, x2, x3, x4] T (0, 0))) (h0 : a3 ≠ a0) (h1 : a3 ≠ a1) (h2 : a3 ≠ a2) : (four W a0 a1 a2 a3).heap[a3]? = some (.cells #[x0, x1, x2, x3, .int .i64 (-1)] T (0, 0)) := by
  unfold four
  exact heap_setCell_same _ a3 4 _ T _ ((Below.heap_setCell _ _ _ _ h2).trans ((Below.heap_setCell _ _ _ _ h1).trans ((Below.heap_setCell _ _ _ _ h0).trans h)))
theorem four_below {w W : World} {a0 a1 a2 a3 : Nat} (hb : Below w.heap.size w W) (h0 : w.heap.size ≤ a0) (h1 : w.heap.size ≤ a1) (h2 : w.heap.size ≤ a2) (h3 : w.heap.size ≤ a3) : Below w.heap.size w (four W a0 a1 a2 a3) := by
  unfold four
  exact (((hb.setCell (p := ⟨a0, 3, none⟩) h0 _).setCell (p := ⟨a1, 3, none⟩) h1 _).setCell (p := ⟨a2, 4, none⟩) h2 _).setCell (p := ⟨a3, 4, none⟩) h3 _
theorem rk_yes (q : Int) (h1 : 1 ≤ q) (h2 : q ≤ 13) (hq : q ≠ 12 ∧ q ≠ 13) (k v : Nat) (a b : Int) (hk : 1 ≤ k ∧ k ≤ 60) (hv : v ≤ 500) (hn : -1000000000000 ≤ a ∧ a ≤ 1000000000000 ∧ 0 ≤ b ∧ b ≤ 1000000000000) : rightB q k v a b = true :=
  rightB_true ⟨h1, h2, by unfold KeyP; omega, hv, hn⟩
theorem rk_no (q : Int) (k v : Nat) (a b : Int) (h : 500 < v ∨ 1000000000000 < a ∨ b < 0) : rightB q k v a b = false :=
  rightB_false (fun hr => by obtain ⟨_, _, _, h1, h2, h3, h4, h5⟩ := hr; omega)
theorem rk2_yes (q : Int) (hq : q = 12 ∨ q = 13) (v : Nat) (a b : Int) (hv : v ≤ 500) (hn : -1000000000000 ≤ a ∧ a ≤ 1000000000000 ∧ 0 ≤ b ∧ b ≤ 1000000000000) : rightB q (⟨#[]⟩ : ByteArray).size v a b = true :=
  rightB_true ⟨by omega, by omega, by show KeyP q 0; unfold KeyP; omega, hv, hn⟩
theorem rk2_no (q : Int) (hq : q = 12 ∨ q = 13) : rightB q (⟨#[107]⟩ : ByteArray).size (⟨#[]⟩ : ByteArray).size 0 0 = false :=
  rightB_false (fun hr => by
    have h : KeyP q 1 := hr.2.2.1
    unfold KeyP at h
    omega)
theorem rk_long (q : Int) (k v : Nat) (a b : Int) (h : 60 < k) : rightB q k v a b = false :=
  rightB_false (fun hr => by
    have h' := hr.2.2.1
    unfold KeyP at h'
    omega)
theorem rk_scan (q : Int) (h1 : 1 ≤ q) (h2 : q ≤ 13) (hq : q ≠ 12 ∧ q ≠ 13) : rightB q (⟨#[]⟩ : ByteArray).size (⟨#[]⟩ : ByteArray).size 0 0 = (q == 11) := by
  by_cases h : q = 11
  · subst h
    exact rightB_true ⟨by decide, by decide, by show KeyP 11 0; unfold KeyP; omega, by decide, by decide⟩
  · rw [beq_eq_false_iff_ne.2 h]
    exact rightB_false (fun hr => by
      have h' : KeyP q 0 := hr.2.2.1
      unfold KeyP at h'
      omega)
theorem rb_yes {op : Int} {k v : Nat} {a b : Int} (h : RightP op k v a b) : rightB op k v a b = true := decide_eq_true h

set_option maxRecDepth 100000 in
set_option maxHeartbeats 3200000 in
theorem edges_walk (o : Int) (w : World) (hL : Laid w) (_ho : -9223372036854775808 ≤ o ∧ o ≤ 9223372036854775807) :
    Calls Tryd.prog 7 #[.int .i64 o] w fun e w' => e = .returned (.bool true) ∧ Below w.heap.size w w' := by
  go_enter Tryd.func7, Tryd.ntmps7
  go_wp2_with fail
  refine (alive_any _ hL).mono ?_
  rintro e w1 ⟨rfl, hb1⟩
  obtain ⟨hq1, hq2⟩ := q_range o
  generalize wrap64 (1 + (wrap64 (o.tmod 13 + 13)).tmod 13) = q at *
  have HB1 := Lib.hid hb1
  clear hb1
  have hmk := mk60_
  have hcv := zconv_new2 60
  go_wp2_with fail
  · rename_i h1 K hK
    apply R8 (w := w)
    case hC => exact (blk_alloc (heap_alloc_new w1 _) _)
    case hb => exact below_step HB1.out (((Below.refl _ w1).alloc (Nat.le_refl _) _).alloc (Nat.le_of_lt (alloc_lt_ w1 _)) _)
    case hlt => rw [alloc_size_, alloc_size_]; omega
    case hwC => exact HB1.out.size
    case hQ =>
      intro g W x31 x32 x33 x34 x35 x36 hsix hC hb hlt hgl
      show K _ W
      refine hK _ _ ?_
      clear hK
      obtain ⟨hs, hne⟩ := hsix
      obtain ⟨b0, s0, t0⟩ := hs 0 (by decide)
      obtain ⟨b1, s1, t1⟩ := hs 1 (by decide)
      obtain ⟨b2, s2, t2⟩ := hs 2 (by decide)
      obtain ⟨b3, s3, t3⟩ := hs 3 (by decide)
      obtain ⟨b4, s4, t4⟩ := hs 4 (by decide)
      obtain ⟨b5, s5, t5⟩ := hs 5 (by decide)
      have n01 := hne 0 1 (by decide) (by decide)
      have n02 := hne 0 2 (by decide) (by decide)
      have n03 := hne 0 3 (by decide) (by decide)
      have n04 := hne 0 4 (by decide) (by decide)
      have n05 := hne 0 5 (by decide) (by decide)
      have n12 := hne 1 2 (by decide) (by decide)
      have n13 := hne 1 3 (by decide) (by decide)
      have n14 := hne 1 4 (by decide) (by decide)
      have n15 := hne 1 5 (by decide) (by decide)
      have n23 := hne 2 3 (by decide) (by decide)
      have n24 := hne 2 4 (by decide) (by decide)
      have n25 := hne 2 5 (by decide) (by decide)
      have n34 := hne 3 4 (by decide) (by decide)
      have n35 := hne 3 5 (by decide) (by decide)
      have n45 := hne 4 5 (by decide) (by decide)
      have l0 := hgl 0 (by decide)
      have l1 := hgl 1 (by decide)
      have l2 := hgl 2 (by decide)
      have l3 := hgl 3 (by decide)
      have l4 := hgl 4 (by decide)
      have l5 := hgl 5 (by decide)
      clear hs hne hgl
      generalize g 0 = a0 at *
      generalize g 1 = a1 at *
      generalize g 2 = a2 at *
      generalize g 3 = a3 at *
      generalize g 4 = a4 at *
      generalize g 5 = a5 at *
      have c0 : W.cell? ⟨a0, 3, none⟩ = some (.int .i64 0) := (blk_cell b0 3).trans rfl
      have c1 : W.cell? ⟨a1, 3, none⟩ = some (.int .i64 0) := (blk_cell b1 3).trans rfl
      have c2 : W.cell? ⟨a2, 4, none⟩ = some (.int .i64 0) := (blk_cell b2 4).trans rfl
      have c3 : W.cell? ⟨a3, 4, none⟩ = some (.int .i64 0) := (blk_cell b3 4).trans rfl
      have f0 := blk_frozen b0 3
      have f1 := blk_frozen b1 3
      have f2 := blk_frozen b2 4
      have f3 := blk_frozen b3 4
      dsimp only
      go_wp2_with fail
      show Code.wp _ _ _ _ (four W a0 a1 a2 a3)
      have k0 := four_0 b0 n01 n02 n03
      have k1 := four_1 b1 (Ne.symm n01) n12 n13
      have k2 := four_2 b2 (Ne.symm n02) (Ne.symm n12) n23
      have k3 := four_3 b3 (Ne.symm n03) (Ne.symm n13) (Ne.symm n23)
      have k4 := (four_other (Ne.symm n04) (Ne.symm n14) (Ne.symm n24) (Ne.symm n34)).trans b4
      have k5 := (four_other (Ne.symm n05) (Ne.symm n15) (Ne.symm n25) (Ne.symm n35)).trans b5
      have kC := (four_other (Ne.symm t0) (Ne.symm t1) (Ne.symm t2) (Ne.symm t3)).trans hC
      have kz := four_size W a0 a1 a2 a3
      have kb := four_below hb s0 s1 s2 s3
      clear c0 c1 c2 c3 f0 f1 f2 f3 b0 b1 b2 b3 b4 b5 hC hb
      rw [← kz] at l0 l1 l2 l3 l4 l5 hlt
      clear kz
      generalize four W a0 a1 a2 a3 = W9 at *
      rename_i K2 hK2
      apply R10 (w := w) (W0 := W9)
      case h4w => exact s4
      case h5w => exact s5
      case h45 => exact n45
      case h4l => exact l4
      case h5l => exact l5
      case h4 => exact k4
      case h5 => exact k5
      case hb => exact kb
      case hQ =>
        intro W10 x41 x42 x43 x44 x45 x46 m4 m5 mb msz mk
        show K2 _ W10
        refine hK2 _ _ ?_
        clear hK2
        have m0 := (mk a0 l0 n04 n05).trans k0
        have m1 := (mk a1 l1 n14 n15).trans k1
        have m2 := (mk a2 l2 n24 n25).trans k2
        have m3 := (mk a3 l3 n34 n35).trans k3
        have mC := (mk w1.heap.size hlt (Ne.symm t4) (Ne.symm t5)).trans kC
        clear mk k0 k1 k2 k3 k4 k5 kC kb
        dsimp only
        have hq : (12 : Int) = 12 ∨ (12 : Int) = 13 := .inl rfl
        have r0 : rightB 12 (⟨#[]⟩ : ByteArray).size (⟨#[]⟩ : ByteArray).size 1000000000000 0 = true := rk2_yes 12 hq _ _ _ (by decide) (by omega)
        have r1 : rightB 12 (⟨#[]⟩ : ByteArray).size (⟨#[]⟩ : ByteArray).size 1000000000001 0 = false := rk_no _ _ _ _ _ (.inr (.inl (by decide)))
        have r2 : rightB 12 (⟨#[]⟩ : ByteArray).size (⟨#[]⟩ : ByteArray).size 0 1000000000000 = true := rk2_yes 12 hq _ _ _ (by decide) (by omega)
        have r3 : rightB 12 (⟨#[]⟩ : ByteArray).size (⟨#[]⟩ : ByteArray).size 0 (-1) = false := rk_no _ _ _ _ _ (.inr (.inr (by decide)))
        have r4 : rightB 12 (⟨#[]⟩ : ByteArray).size (zB 500).size 0 0 = true := rk2_yes 12 hq _ _ _ (by rw [zB_size]; decide) (by omega)
        have r5 : rightB 12 (⟨#[]⟩ : ByteArray).size (zB 501).size 0 0 = false := rk_no _ _ _ _ _ (.inl (by rw [zB_size]; decide))
        have r6 : rightB 12 (⟨#[107]⟩ : ByteArray).size (⟨#[]⟩ : ByteArray).size 0 0 = false := rk2_no 12 hq
        have ⟨c0, c1, c2, c3, c4⟩ := five_ m0
        go_wp2_with fail
        refine (right_any _ _ _ _ _ _).mono ?_
        rintro e0 W11 ⟨rfl, hb⟩
        rw [r0]
        replace m1 := blk_below m1 hb
        replace m2 := blk_below m2 hb
        replace m3 := blk_below m3 hb
        replace m4 := blk_below m4 hb
        replace m5 := blk_below m5 hb
        replace mC := blk_below mC hb
        replace mb := below_step mb hb
        clear hb c0 c1 c2 c3 c4
        have ⟨c0, c1, c2, c3, c4⟩ := five_ m1
        go_wp2_with fail
        refine (right_any _ _ _ _ _ _).mono ?_
        rintro e1 W12 ⟨rfl, hb⟩
        rw [r1]
        replace m2 := blk_below m2 hb
        replace m3 := blk_below m3 hb
        replace m4 := blk_below m4 hb
        replace m5 := blk_below m5 hb
        replace mC := blk_below mC hb
        replace mb := below_step mb hb
        clear hb c0 c1 c2 c3 c4
        have ⟨c0, c1, c2, c3, c4⟩ := five_ m2
        go_wp2_with fail
        refine (right_any _ _ _ _ _ _).mono ?_
        rintro e2 W13 ⟨rfl, hb⟩
        rw [r2]
        replace m3 := blk_below m3 hb
        replace m4 := blk_below m4 hb
        replace m5 := blk_below m5 hb
        replace mC := blk_below mC hb
        replace mb := below_step mb hb
        clear hb c0 c1 c2 c3 c4
        have ⟨c0, c1, c2, c3, c4⟩ := five_ m3
        go_wp2_with fail
        refine (right_any _ _ _ _ _ _).mono ?_
        rintro e3 W14 ⟨rfl, hb⟩
        rw [r3]
        replace m4 := blk_below m4 hb
        replace m5 := blk_below m5 hb
        replace mC := blk_below mC hb
        replace mb := below_step mb hb
        clear hb c0 c1 c2 c3 c4
        have ⟨c0, c1, c2, c3, c4⟩ := five_ m4
        go_wp2_with fail
        refine (right_any _ _ _ _ _ _).mono ?_
        rintro e4 W15 ⟨rfl, hb⟩
        rw [r4]
        replace m5 := blk_below m5 hb
        replace mC := blk_below mC hb
        replace mb := below_step mb hb
        clear hb c0 c1 c2 c3 c4
        have ⟨c0, c1, c2, c3, c4⟩ := five_ m5
        go_wp2_with fail
        refine (right_any _ _ _ _ _ _).mono ?_
        rintro e5 W16 ⟨rfl, hb⟩
        rw [r5]
        replace mC := blk_below mC hb
        replace mb := below_step mb hb
        clear hb c0 c1 c2 c3 c4
        have ⟨c0, c1, c2, c3, c4⟩ := five_ mC
        have fC := blk_frozen mC 1
        have hne : ((⟨#[]⟩ : ByteArray).toList == ([] : List UInt8)) = true := by decide +kernel
        have hz6 := zB_size 60
        go_wp2_with fail
        have mC' : (W16.setCell ⟨w1.heap.size, 1, none⟩ (.string ⟨#[107]⟩)).heap[w1.heap.size]? = some (.cells #[.int .i64 12, .string ⟨#[107]⟩, .string ⟨#[]⟩, .int .i64 0, .int .i64 0] 23 (0, 0)) := heap_setCell_same W16 w1.heap.size 1 _ _ (.string ⟨#[107]⟩) mC
        have mb' := mb.setCell (p := ⟨w1.heap.size, 1, none⟩) HB1.out.size (.string ⟨#[107]⟩)
        refine (right_any _ _ _ _ _ _).mono ?_
        rintro e6 W17 ⟨rfl, hb⟩
        rw [r6]
        replace mC := blk_below mC' hb
        replace mb := below_step mb' hb
        clear hb c0 c1 c2 c3 c4 mC' mb' fC
        go_wp2
        go_ret
        exact ⟨rfl, mb⟩
  · rename_i h12 h1 K hK
    have h13 : q = 13 := by
      rcases h1 with h1 | h1
      · exact absurd (beq_iff_eq.1 h1) h12
      · exact beq_iff_eq.1 h1
    subst h13
    clear h1 h12
    apply R8 (w := w)
    case hC => exact (blk_alloc (heap_alloc_new w1 _) _)
    case hb => exact below_step HB1.out (((Below.refl _ w1).alloc (Nat.le_refl _) _).alloc (Nat.le_of_lt (alloc_lt_ w1 _)) _)
    case hlt => rw [alloc_size_, alloc_size_]; omega
    case hwC => exact HB1.out.size
    case hQ =>
      intro g W x31 x32 x33 x34 x35 x36 hsix hC hb hlt hgl
      show K _ W
      refine hK _ _ ?_
      clear hK
      obtain ⟨hs, hne⟩ := hsix
      obtain ⟨b0, s0, t0⟩ := hs 0 (by decide)
      obtain ⟨b1, s1, t1⟩ := hs 1 (by decide)
      obtain ⟨b2, s2, t2⟩ := hs 2 (by decide)
      obtain ⟨b3, s3, t3⟩ := hs 3 (by decide)
      obtain ⟨b4, s4, t4⟩ := hs 4 (by decide)
      obtain ⟨b5, s5, t5⟩ := hs 5 (by decide)
      have n01 := hne 0 1 (by decide) (by decide)
      have n02 := hne 0 2 (by decide) (by decide)
      have n03 := hne 0 3 (by decide) (by decide)
      have n04 := hne 0 4 (by decide) (by decide)
      have n05 := hne 0 5 (by decide) (by decide)
      have n12 := hne 1 2 (by decide) (by decide)
      have n13 := hne 1 3 (by decide) (by decide)
      have n14 := hne 1 4 (by decide) (by decide)
      have n15 := hne 1 5 (by decide) (by decide)
      have n23 := hne 2 3 (by decide) (by decide)
      have n24 := hne 2 4 (by decide) (by decide)
      have n25 := hne 2 5 (by decide) (by decide)
      have n34 := hne 3 4 (by decide) (by decide)
      have n35 := hne 3 5 (by decide) (by decide)
      have n45 := hne 4 5 (by decide) (by decide)
      have l0 := hgl 0 (by decide)
      have l1 := hgl 1 (by decide)
      have l2 := hgl 2 (by decide)
      have l3 := hgl 3 (by decide)
      have l4 := hgl 4 (by decide)
      have l5 := hgl 5 (by decide)
      clear hs hne hgl
      generalize g 0 = a0 at *
      generalize g 1 = a1 at *
      generalize g 2 = a2 at *
      generalize g 3 = a3 at *
      generalize g 4 = a4 at *
      generalize g 5 = a5 at *
      have c0 : W.cell? ⟨a0, 3, none⟩ = some (.int .i64 0) := (blk_cell b0 3).trans rfl
      have c1 : W.cell? ⟨a1, 3, none⟩ = some (.int .i64 0) := (blk_cell b1 3).trans rfl
      have c2 : W.cell? ⟨a2, 4, none⟩ = some (.int .i64 0) := (blk_cell b2 4).trans rfl
      have c3 : W.cell? ⟨a3, 4, none⟩ = some (.int .i64 0) := (blk_cell b3 4).trans rfl
      have f0 := blk_frozen b0 3
      have f1 := blk_frozen b1 3
      have f2 := blk_frozen b2 4
      have f3 := blk_frozen b3 4
      dsimp only
      go_wp2_with fail
      show Code.wp _ _ _ _ (four W a0 a1 a2 a3)
      have k0 := four_0 b0 n01 n02 n03
      have k1 := four_1 b1 (Ne.symm n01) n12 n13
      have k2 := four_2 b2 (Ne.symm n02) (Ne.symm n12) n23
      have k3 := four_3 b3 (Ne.symm n03) (Ne.symm n13) (Ne.symm n23)
      have k4 := (four_other (Ne.symm n04) (Ne.symm n14) (Ne.symm n24) (Ne.symm n34)).trans b4
      have k5 := (four_other (Ne.symm n05) (Ne.symm n15) (Ne.symm n25) (Ne.symm n35)).trans b5
      have kC := (four_other (Ne.symm t0) (Ne.symm t1) (Ne.symm t2) (Ne.symm t3)).trans hC
      have kz := four_size W a0 a1 a2 a3
      have kb := four_below hb s0 s1 s2 s3
      clear c0 c1 c2 c3 f0 f1 f2 f3 b0 b1 b2 b3 b4 b5 hC hb
      rw [← kz] at l0 l1 l2 l3 l4 l5 hlt
      clear kz
      generalize four W a0 a1 a2 a3 = W9 at *
      rename_i K2 hK2
      apply R10 (w := w) (W0 := W9)
      case h4w => exact s4
      case h5w => exact s5
      case h45 => exact n45
      case h4l => exact l4
      case h5l => exact l5
      case h4 => exact k4
      case h5 => exact k5
      case hb => exact kb
      case hQ =>
        intro W10 x41 x42 x43 x44 x45 x46 m4 m5 mb msz mk
        show K2 _ W10
        refine hK2 _ _ ?_
        clear hK2
        have m0 := (mk a0 l0 n04 n05).trans k0
        have m1 := (mk a1 l1 n14 n15).trans k1
        have m2 := (mk a2 l2 n24 n25).trans k2
        have m3 := (mk a3 l3 n34 n35).trans k3
        have mC := (mk w1.heap.size hlt (Ne.symm t4) (Ne.symm t5)).trans kC
        clear mk k0 k1 k2 k3 k4 k5 kC kb
        dsimp only
        have hq : (13 : Int) = 12 ∨ (13 : Int) = 13 := .inr rfl
        have r0 : rightB 13 (⟨#[]⟩ : ByteArray).size (⟨#[]⟩ : ByteArray).size 1000000000000 0 = true := rk2_yes 13 hq _ _ _ (by decide) (by omega)
        have r1 : rightB 13 (⟨#[]⟩ : ByteArray).size (⟨#[]⟩ : ByteArray).size 1000000000001 0 = false := rk_no _ _ _ _ _ (.inr (.inl (by decide)))
        have r2 : rightB 13 (⟨#[]⟩ : ByteArray).size (⟨#[]⟩ : ByteArray).size 0 1000000000000 = true := rk2_yes 13 hq _ _ _ (by decide) (by omega)
        have r3 : rightB 13 (⟨#[]⟩ : ByteArray).size (⟨#[]⟩ : ByteArray).size 0 (-1) = false := rk_no _ _ _ _ _ (.inr (.inr (by decide)))
        have r4 : rightB 13 (⟨#[]⟩ : ByteArray).size (zB 500).size 0 0 = true := rk2_yes 13 hq _ _ _ (by rw [zB_size]; decide) (by omega)
        have r5 : rightB 13 (⟨#[]⟩ : ByteArray).size (zB 501).size 0 0 = false := rk_no _ _ _ _ _ (.inl (by rw [zB_size]; decide))
        have r6 : rightB 13 (⟨#[107]⟩ : ByteArray).size (⟨#[]⟩ : ByteArray).size 0 0 = false := rk2_no 13 hq
        have ⟨c0, c1, c2, c3, c4⟩ := five_ m0
        go_wp2_with fail
        refine (right_any _ _ _ _ _ _).mono ?_
        rintro e0 W11 ⟨rfl, hb⟩
        rw [r0]
        replace m1 := blk_below m1 hb
        replace m2 := blk_below m2 hb
        replace m3 := blk_below m3 hb
        replace m4 := blk_below m4 hb
        replace m5 := blk_below m5 hb
        replace mC := blk_below mC hb
        replace mb := below_step mb hb
        clear hb c0 c1 c2 c3 c4
        have ⟨c0, c1, c2, c3, c4⟩ := five_ m1
        go_wp2_with fail
        refine (right_any _ _ _ _ _ _).mono ?_
        rintro e1 W12 ⟨rfl, hb⟩
        rw [r1]
        replace m2 := blk_below m2 hb
        replace m3 := blk_below m3 hb
        replace m4 := blk_below m4 hb
        replace m5 := blk_below m5 hb
        replace mC := blk_below mC hb
        replace mb := below_step mb hb
        clear hb c0 c1 c2 c3 c4
        have ⟨c0, c1, c2, c3, c4⟩ := five_ m2
        go_wp2_with fail
        refine (right_any _ _ _ _ _ _).mono ?_
        rintro e2 W13 ⟨rfl, hb⟩
        rw [r2]
        replace m3 := blk_below m3 hb
        replace m4 := blk_below m4 hb
        replace m5 := blk_below m5 hb
        replace mC := blk_below mC hb
        replace mb := below_step mb hb
        clear hb c0 c1 c2 c3 c4
        have ⟨c0, c1, c2, c3, c4⟩ := five_ m3
        go_wp2_with fail
        refine (right_any _ _ _ _ _ _).mono ?_
        rintro e3 W14 ⟨rfl, hb⟩
        rw [r3]
        replace m4 := blk_below m4 hb
        replace m5 := blk_below m5 hb
        replace mC := blk_below mC hb
        replace mb := below_step mb hb
        clear hb c0 c1 c2 c3 c4
        have ⟨c0, c1, c2, c3, c4⟩ := five_ m4
        go_wp2_with fail
        refine (right_any _ _ _ _ _ _).mono ?_
        rintro e4 W15 ⟨rfl, hb⟩
        rw [r4]
        replace m5 := blk_below m5 hb
        replace mC := blk_below mC hb
        replace mb := below_step mb hb
        clear hb c0 c1 c2 c3 c4
        have ⟨c0, c1, c2, c3, c4⟩ := five_ m5
        go_wp2_with fail
        refine (right_any _ _ _ _ _ _).mono ?_
        rintro e5 W16 ⟨rfl, hb⟩
        rw [r5]
        replace mC := blk_below mC hb
        replace mb := below_step mb hb
        clear hb c0 c1 c2 c3 c4
        have ⟨c0, c1, c2, c3, c4⟩ := five_ mC
        have fC := blk_frozen mC 1
        have hne : ((⟨#[]⟩ : ByteArray).toList == ([] : List UInt8)) = true := by decide +kernel
        have hz6 := zB_size 60
        go_wp2_with fail
        have mC' : (W16.setCell ⟨w1.heap.size, 1, none⟩ (.string ⟨#[107]⟩)).heap[w1.heap.size]? = some (.cells #[.int .i64 13, .string ⟨#[107]⟩, .string ⟨#[]⟩, .int .i64 0, .int .i64 0] 23 (0, 0)) := heap_setCell_same W16 w1.heap.size 1 _ _ (.string ⟨#[107]⟩) mC
        have mb' := mb.setCell (p := ⟨w1.heap.size, 1, none⟩) HB1.out.size (.string ⟨#[107]⟩)
        refine (right_any _ _ _ _ _ _).mono ?_
        rintro e6 W17 ⟨rfl, hb⟩
        rw [r6]
        replace mC := blk_below mC' hb
        replace mb := below_step mb' hb
        clear hb c0 c1 c2 c3 c4 mC' mb' fC
        go_wp2
        go_ret
        exact ⟨rfl, mb⟩
  · rename_i h12 h1 K hK
    apply R8 (w := w)
    case hC => exact (blk_alloc (heap_alloc_new w1 _) _)
    case hb => exact below_step HB1.out (((Below.refl _ w1).alloc (Nat.le_refl _) _).alloc (Nat.le_of_lt (alloc_lt_ w1 _)) _)
    case hlt => rw [alloc_size_, alloc_size_]; omega
    case hwC => exact HB1.out.size
    case hQ =>
      intro g W x31 x32 x33 x34 x35 x36 hsix hC hb hlt hgl
      show K _ W
      refine hK _ _ ?_
      clear hK
      obtain ⟨hs, hne⟩ := hsix
      obtain ⟨b0, s0, t0⟩ := hs 0 (by decide)
      obtain ⟨b1, s1, t1⟩ := hs 1 (by decide)
      obtain ⟨b2, s2, t2⟩ := hs 2 (by decide)
      obtain ⟨b3, s3, t3⟩ := hs 3 (by decide)
      obtain ⟨b4, s4, t4⟩ := hs 4 (by decide)
      obtain ⟨b5, s5, t5⟩ := hs 5 (by decide)
      have n01 := hne 0 1 (by decide) (by decide)
      have n02 := hne 0 2 (by decide) (by decide)
      have n03 := hne 0 3 (by decide) (by decide)
      have n04 := hne 0 4 (by decide) (by decide)
      have n05 := hne 0 5 (by decide) (by decide)
      have n12 := hne 1 2 (by decide) (by decide)
      have n13 := hne 1 3 (by decide) (by decide)
      have n14 := hne 1 4 (by decide) (by decide)
      have n15 := hne 1 5 (by decide) (by decide)
      have n23 := hne 2 3 (by decide) (by decide)
      have n24 := hne 2 4 (by decide) (by decide)
      have n25 := hne 2 5 (by decide) (by decide)
      have n34 := hne 3 4 (by decide) (by decide)
      have n35 := hne 3 5 (by decide) (by decide)
      have n45 := hne 4 5 (by decide) (by decide)
      have l0 := hgl 0 (by decide)
      have l1 := hgl 1 (by decide)
      have l2 := hgl 2 (by decide)
      have l3 := hgl 3 (by decide)
      have l4 := hgl 4 (by decide)
      have l5 := hgl 5 (by decide)
      clear hs hne hgl
      generalize g 0 = a0 at *
      generalize g 1 = a1 at *
      generalize g 2 = a2 at *
      generalize g 3 = a3 at *
      generalize g 4 = a4 at *
      generalize g 5 = a5 at *
      have c0 : W.cell? ⟨a0, 3, none⟩ = some (.int .i64 0) := (blk_cell b0 3).trans rfl
      have c1 : W.cell? ⟨a1, 3, none⟩ = some (.int .i64 0) := (blk_cell b1 3).trans rfl
      have c2 : W.cell? ⟨a2, 4, none⟩ = some (.int .i64 0) := (blk_cell b2 4).trans rfl
      have c3 : W.cell? ⟨a3, 4, none⟩ = some (.int .i64 0) := (blk_cell b3 4).trans rfl
      have f0 := blk_frozen b0 3
      have f1 := blk_frozen b1 3
      have f2 := blk_frozen b2 4
      have f3 := blk_frozen b3 4
      dsimp only
      go_wp2_with fail
      show Code.wp _ _ _ _ (four W a0 a1 a2 a3)
      have k0 := four_0 b0 n01 n02 n03
      have k1 := four_1 b1 (Ne.symm n01) n12 n13
      have k2 := four_2 b2 (Ne.symm n02) (Ne.symm n12) n23
      have k3 := four_3 b3 (Ne.symm n03) (Ne.symm n13) (Ne.symm n23)
      have k4 := (four_other (Ne.symm n04) (Ne.symm n14) (Ne.symm n24) (Ne.symm n34)).trans b4
      have k5 := (four_other (Ne.symm n05) (Ne.symm n15) (Ne.symm n25) (Ne.symm n35)).trans b5
      have kC := (four_other (Ne.symm t0) (Ne.symm t1) (Ne.symm t2) (Ne.symm t3)).trans hC
      have kz := four_size W a0 a1 a2 a3
      have kb := four_below hb s0 s1 s2 s3
      clear c0 c1 c2 c3 f0 f1 f2 f3 b0 b1 b2 b3 b4 b5 hC hb
      rw [← kz] at l0 l1 l2 l3 l4 l5 hlt
      clear kz
      generalize four W a0 a1 a2 a3 = W9 at *
      rename_i K2 hK2
      apply R10 (w := w) (W0 := W9)
      case h4w => exact s4
      case h5w => exact s5
      case h45 => exact n45
      case h4l => exact l4
      case h5l => exact l5
      case h4 => exact k4
      case h5 => exact k5
      case hb => exact kb
      case hQ =>
        intro W10 x41 x42 x43 x44 x45 x46 m4 m5 mb msz mk
        show K2 _ W10
        refine hK2 _ _ ?_
        clear hK2
        have m0 := (mk a0 l0 n04 n05).trans k0
        have m1 := (mk a1 l1 n14 n15).trans k1
        have m2 := (mk a2 l2 n24 n25).trans k2
        have m3 := (mk a3 l3 n34 n35).trans k3
        have mC := (mk w1.heap.size hlt (Ne.symm t4) (Ne.symm t5)).trans kC
        clear mk k0 k1 k2 k3 k4 k5 kC kb
        dsimp only
        have hq : q ≠ 12 ∧ q ≠ 13 := by simpa using h1
        have r0 : rightB q (⟨#[107]⟩ : ByteArray).size (⟨#[]⟩ : ByteArray).size 1000000000000 0 = true := rk_yes q hq1 hq2 hq _ _ _ _ (by decide) (by decide) (by omega)
        have r1 : rightB q (⟨#[107]⟩ : ByteArray).size (⟨#[]⟩ : ByteArray).size 1000000000001 0 = false := rk_no _ _ _ _ _ (.inr (.inl (by decide)))
        have r2 : rightB q (⟨#[107]⟩ : ByteArray).size (⟨#[]⟩ : ByteArray).size 0 1000000000000 = true := rk_yes q hq1 hq2 hq _ _ _ _ (by decide) (by decide) (by omega)
        have r3 : rightB q (⟨#[107]⟩ : ByteArray).size (⟨#[]⟩ : ByteArray).size 0 (-1) = false := rk_no _ _ _ _ _ (.inr (.inr (by decide)))
        have r4 : rightB q (⟨#[107]⟩ : ByteArray).size (zB 500).size 0 0 = true := rk_yes q hq1 hq2 hq _ _ _ _ (by decide) (by rw [zB_size]; decide) (by omega)
        have r5 : rightB q (⟨#[107]⟩ : ByteArray).size (zB 501).size 0 0 = false := rk_no _ _ _ _ _ (.inl (by rw [zB_size]; decide))
        have ⟨c0, c1, c2, c3, c4⟩ := five_ m0
        go_wp2_with fail
        refine (right_any _ _ _ _ _ _).mono ?_
        rintro e0 W11 ⟨rfl, hb⟩
        rw [r0]
        replace m1 := blk_below m1 hb
        replace m2 := blk_below m2 hb
        replace m3 := blk_below m3 hb
        replace m4 := blk_below m4 hb
        replace m5 := blk_below m5 hb
        replace mC := blk_below mC hb
        replace mb := below_step mb hb
        clear hb c0 c1 c2 c3 c4
        have ⟨c0, c1, c2, c3, c4⟩ := five_ m1
        go_wp2_with fail
        refine (right_any _ _ _ _ _ _).mono ?_
        rintro e1 W12 ⟨rfl, hb⟩
        rw [r1]
        replace m2 := blk_below m2 hb
        replace m3 := blk_below m3 hb
        replace m4 := blk_below m4 hb
        replace m5 := blk_below m5 hb
        replace mC := blk_below mC hb
        replace mb := below_step mb hb
        clear hb c0 c1 c2 c3 c4
        have ⟨c0, c1, c2, c3, c4⟩ := five_ m2
        go_wp2_with fail
        refine (right_any _ _ _ _ _ _).mono ?_
        rintro e2 W13 ⟨rfl, hb⟩
        rw [r2]
        replace m3 := blk_below m3 hb
        replace m4 := blk_below m4 hb
        replace m5 := blk_below m5 hb
        replace mC := blk_below mC hb
        replace mb := below_step mb hb
        clear hb c0 c1 c2 c3 c4
        have ⟨c0, c1, c2, c3, c4⟩ := five_ m3
        go_wp2_with fail
        refine (right_any _ _ _ _ _ _).mono ?_
        rintro e3 W14 ⟨rfl, hb⟩
        rw [r3]
        replace m4 := blk_below m4 hb
        replace m5 := blk_below m5 hb
        replace mC := blk_below mC hb
        replace mb := below_step mb hb
        clear hb c0 c1 c2 c3 c4
        have ⟨c0, c1, c2, c3, c4⟩ := five_ m4
        go_wp2_with fail
        refine (right_any _ _ _ _ _ _).mono ?_
        rintro e4 W15 ⟨rfl, hb⟩
        rw [r4]
        replace m5 := blk_below m5 hb
        replace mC := blk_below mC hb
        replace mb := below_step mb hb
        clear hb c0 c1 c2 c3 c4
        have ⟨c0, c1, c2, c3, c4⟩ := five_ m5
        go_wp2_with fail
        refine (right_any _ _ _ _ _ _).mono ?_
        rintro e5 W16 ⟨rfl, hb⟩
        rw [r5]
        replace mC := blk_below mC hb
        replace mb := below_step mb hb
        clear hb c0 c1 c2 c3 c4
        have ⟨c0, c1, c2, c3, c4⟩ := five_ mC
        have fC := blk_frozen mC 1
        have hne : ((⟨#[107]⟩ : ByteArray).toList == ([] : List UInt8)) = false := by decide +kernel
        have hz6 := zB_size 60
        go_wp2_with fail
        have r6 : rightB q (zB 60).size (⟨#[]⟩ : ByteArray).size 0 0 = true := rk_yes q hq1 hq2 hq _ _ _ _ (by rw [zB_size]; decide) (by decide) (by omega)
        have r7 : rightB q (zB 60 ++ ⟨#[107]⟩ : ByteArray).size (⟨#[]⟩ : ByteArray).size 0 0 = false := rk_long q _ _ _ _ (by rw [ByteArray.size_append, zB_size]; decide)
        have r8 : rightB q (⟨#[]⟩ : ByteArray).size (⟨#[]⟩ : ByteArray).size 0 0 = (q == 11) := rk_scan q hq1 hq2 hq
        have mC' : (W16.setCell ⟨w1.heap.size, 1, none⟩ (.string (zB 60))).heap[w1.heap.size]? = some (.cells #[.int .i64 q, .string (zB 60), .string ⟨#[]⟩, .int .i64 0, .int .i64 0] 23 (0, 0)) := heap_setCell_same W16 w1.heap.size 1 _ _ (.string (zB 60)) mC
        have mb' := mb.setCell (p := ⟨w1.heap.size, 1, none⟩) HB1.out.size (.string (zB 60))
        refine (right_any _ _ _ _ _ _).mono ?_
        rintro e6 W17 ⟨rfl, hb⟩
        rw [r6]
        replace mC := blk_below mC' hb
        replace mb := below_step mb' hb
        clear hb c0 c1 c2 c3 c4 mC' mb' fC
        have ⟨c0, c1, c2, c3, c4⟩ := five_ mC
        have fC := blk_frozen mC 1
        go_wp2_with fail
        generalize hlk : zB 60 ++ (⟨#[107]⟩ : ByteArray) = lk at *
        have mC' : (W17.setCell ⟨w1.heap.size, 1, none⟩ (.string lk)).heap[w1.heap.size]? = some (.cells #[.int .i64 q, .string lk, .string ⟨#[]⟩, .int .i64 0, .int .i64 0] 23 (0, 0)) := heap_setCell_same W17 w1.heap.size 1 _ _ (.string lk) mC
        have mb' := mb.setCell (p := ⟨w1.heap.size, 1, none⟩) HB1.out.size (.string lk)
        refine (right_any _ _ _ _ _ _).mono ?_
        rintro e7 W18 ⟨rfl, hb⟩
        rw [r7]
        replace mC := blk_below mC' hb
        replace mb := below_step mb' hb
        clear hb c0 c1 c2 c3 c4 mC' mb' fC
        have ⟨c0, c1, c2, c3, c4⟩ := five_ mC
        have fC := blk_frozen mC 1
        go_wp2_with fail
        have mC' : (W18.setCell ⟨w1.heap.size, 1, none⟩ (.string ⟨#[]⟩)).heap[w1.heap.size]? = some (.cells #[.int .i64 q, .string ⟨#[]⟩, .string ⟨#[]⟩, .int .i64 0, .int .i64 0] 23 (0, 0)) := heap_setCell_same W18 w1.heap.size 1 _ _ (.string ⟨#[]⟩) mC
        have mb' := mb.setCell (p := ⟨w1.heap.size, 1, none⟩) HB1.out.size (.string ⟨#[]⟩)
        refine (right_any _ _ _ _ _ _).mono ?_
        rintro e8 W19 ⟨rfl, hb⟩
        rw [r8]
        replace mC := blk_below mC' hb
        replace mb := below_step mb' hb
        clear hb c0 c1 c2 c3 c4 mC' mb' fC
        go_wp2
        go_ret
        exact ⟨by simp, mb⟩
end Go.Proofs.YtbfdaclekjgkfaaDoor
