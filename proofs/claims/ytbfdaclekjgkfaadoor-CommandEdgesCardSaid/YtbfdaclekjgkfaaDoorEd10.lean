/- CommandEdges: its region of two long values, in any order. -/
import Derived.Test.YtbfdaclekjgkfaaDoorEd8
set_option linter.unusedVariables false
set_option linter.unusedSimpArgs false
namespace Go.Proofs.YtbfdaclekjgkfaaDoor
open Go.RowKit Go.Proofs.YtbfdaclekjgkfaaDoorW.PrintWords Go.Proofs.YtbfdaclekjgkfaaDoorW.PrintLast

/-- A text of n bytes, each nought. -/
def zB (n : Nat) : ByteArray := strOfNums (List.replicate n 0)
theorem zB_size (n : Nat) : (zB n).size = n := by unfold zB; rw [strOfNums_size, List.length_replicate]
theorem mkz_ (n : Nat) (hn : n ≤ 1000) (W : World) : (Instr.makeSlice 35 (.int .i64 n) (.int .i64 n)).run Tryd.prog W = .ok (.slice (some ⟨W.heap.size, 0, none⟩) n n) (W.alloc (.cells (madeCells (Value.int .u8 0).cells n) 5)) := by
  obtain ⟨i0, hi, hz0, hz1, hz2⟩ := info_parts info_u8
  have := run_make W 35 5 i0 _ Tryd.underlying35 hi hz0 .i64 .i64 n n (by omega) (Int.le_refl _) (by rw [hz2]; omega) (by omega)
  rw [hz1] at this
  simpa using this
theorem mk60_ (W : World) : (Instr.makeSlice 35 (.int .i64 60) (.int .i64 60)).run Tryd.prog W = .ok (.slice (some ⟨W.heap.size, 0, none⟩) 60 60) (W.alloc (.cells (madeCells (Value.int .u8 0).cells 60) 5)) := mkz_ 60 (by decide) W
theorem mk500_ (W : World) : (Instr.makeSlice 35 (.int .i64 500) (.int .i64 500)).run Tryd.prog W = .ok (.slice (some ⟨W.heap.size, 0, none⟩) 500 500) (W.alloc (.cells (madeCells (Value.int .u8 0).cells 500) 5)) := mkz_ 500 (by decide) W
theorem mk501_ (W : World) : (Instr.makeSlice 35 (.int .i64 501) (.int .i64 501)).run Tryd.prog W = .ok (.slice (some ⟨W.heap.size, 0, none⟩) 501 501) (W.alloc (.cells (madeCells (Value.int .u8 0).cells 501) 5)) := mkz_ 501 (by decide) W
theorem zrow_is {W : World} {h n : Nat} (hh : W.heap[h]? = some (.cells (madeCells (Value.int .u8 0).cells n) 5 (0, 0))) : isB W h (List.replicate n 0) := by
  refine hh.trans ?_
  congr 2
  apply Array.toList_inj.mp
  rw [show madeCells (Value.int .u8 0).cells n = madeCells #[Value.int .u8 0] n from rfl, toList_madeCells_one]
  simp
theorem zconv_ {W : World} {h n : Nat} (hh : W.heap[h]? = some (.cells (madeCells (Value.int .u8 0).cells n) 5 (0, 0))) : (convert 35 9 (.slice (some ⟨h, 0, none⟩) n n)).run Tryd.prog W = .ok (.string (zB n)) W :=
  (zrow_is hh).conv n n (List.length_replicate ..)
theorem zrow_below {W W1 : World} {x : Value} {n B : Nat} {o : Obj} (h : ∃ h, x = .slice (some ⟨h, 0, none⟩) n n ∧ B ≤ h ∧ W.heap[h]? = some o) (hb : Below W.heap.size W W1) : ∃ h, x = .slice (some ⟨h, 0, none⟩) n n ∧ B ≤ h ∧ W1.heap[h]? = some o := by
  obtain ⟨h, h1, h2, h3⟩ := h
  exact ⟨h, h1, h2, blk_below h3 hb⟩
theorem zrow_set {W : World} {x : Value} {n B g : Nat} {o : Obj} (h : ∃ h, x = .slice (some ⟨h, 0, none⟩) n n ∧ B ≤ h ∧ W.heap[h]? = some o) (hg : g < B) (u : Value) : ∃ h, x = .slice (some ⟨h, 0, none⟩) n n ∧ B ≤ h ∧ (W.setCell ⟨g, 2, none⟩ u).heap[h]? = some o := by
  obtain ⟨h, h1, h2, h3⟩ := h
  exact ⟨h, h1, h2, (Below.heap_setCell _ _ _ _ (Nat.ne_of_gt (Nat.lt_of_lt_of_le hg h2))).trans h3⟩
theorem set1_le {W : World} {n : Nat} (h : n ≤ W.heap.size) (a : Addr) (u : Value) : n ≤ (W.setCell a u).heap.size := by
  simpa [World.setCell] using h
def I10 (q : Int) (kk : ByteArray) (w : World) (g4 g5 : Nat) (W0 : World) (p0 p1 p2 p3 p4 p5 p6 p7 p8 p11 p12 p13 p14 p15 p16 p17 p18 p19 p20 p21 p22 p23 p24 p25 p26 p27 p28 p29 p30 p31 p32 p33 p34 p35 p36 p37 p38 p39 p40 p47 p48 p49 p50 p51 p52 p53 p54 p55 p56 p57 p58 p59 p60 p61 p62 p63 p64 p65 p66 p67 p68 p69 p70 p71 p72 p73 p74 p75 p76 p77 p78 p79 p80 p81 p82 p83 p84 p85 p86 p87 p88 p89 p90 p91 p92 p93 p94 p95 p96 p97 p98 p99 p100 : Value) (L : Nat → Bool) (a : Act) (W : World) : Prop :=
  ∃ x41 x42 x43 x44 x45 x46 : Value, a = ⟨#[p0, p1, p2, p3, p4, p5, p6, p7, p8, (.pointer (some ⟨g4, 0, none⟩)), (.pointer (some ⟨g5, 0, none⟩)), p11, p12, p13, p14, p15, p16, p17, p18, p19, p20, p21, p22, p23, p24, p25, p26, p27, p28, p29, p30, p31, p32, p33, p34, p35, p36, p37, p38, p39, p40, x41, x42, x43, x44, x45, x46, p47, p48, p49, p50, p51, p52, p53, p54, p55, p56, p57, p58, p59, p60, p61, p62, p63, p64, p65, p66, p67, p68, p69, p70, p71, p72, p73, p74, p75, p76, p77, p78, p79, p80, p81, p82, p83, p84, p85, p86, p87, p88, p89, p90, p91, p92, p93, p94, p95, p96, p97, p98, p99, p100], []⟩ ∧ (L 0 = true → (L 1 = false → ∃ h, x41 = .slice (some ⟨h, 0, none⟩) 500 500 ∧ W0.heap.size ≤ h ∧ W.heap[h]? = some (.cells (madeCells (Value.int .u8 0).cells 500) 5 (0, 0)))) ∧ (L 1 = true → x42 = .string (zB 500)) ∧ (L 2 = true → (L 3 = false → ∃ h, x43 = .slice (some ⟨h, 0, none⟩) 501 501 ∧ W0.heap.size ≤ h ∧ W.heap[h]? = some (.cells (madeCells (Value.int .u8 0).cells 501) 5 (0, 0)))) ∧ (L 3 = true → x44 = .string (zB 501)) ∧ (L 4 = true → x45 = .pointer (some ⟨g4, 2, none⟩)) ∧ (L 6 = true → x46 = .pointer (some ⟨g5, 2, none⟩)) ∧ (L 5 = false → W.heap[g4]? = some (.cells #[.int .i64 q, .string kk, .string ⟨#[]⟩, .int .i64 0, .int .i64 0] 23 (0, 0))) ∧ (L 5 = true → W.heap[g4]? = some (.cells #[.int .i64 q, .string kk, .string (zB 500), .int .i64 0, .int .i64 0] 23 (0, 0))) ∧ (L 7 = false → W.heap[g5]? = some (.cells #[.int .i64 q, .string kk, .string ⟨#[]⟩, .int .i64 0, .int .i64 0] 23 (0, 0))) ∧ (L 7 = true → W.heap[g5]? = some (.cells #[.int .i64 q, .string kk, .string (zB 501), .int .i64 0, .int .i64 0] 23 (0, 0))) ∧ (Below w.heap.size w W) ∧ (W0.heap.size ≤ W.heap.size) ∧ (∀ k, k < W0.heap.size → k ≠ g4 → k ≠ g5 → W.heap[k]? = W0.heap[k]?)
set_option maxHeartbeats 1600000 in
set_option maxRecDepth 100000 in
theorem I10.step (q : Int) (kk : ByteArray) (w : World) (g4 g5 : Nat) (W0 : World) (p0 p1 p2 p3 p4 p5 p6 p7 p8 p11 p12 p13 p14 p15 p16 p17 p18 p19 p20 p21 p22 p23 p24 p25 p26 p27 p28 p29 p30 p31 p32 p33 p34 p35 p36 p37 p38 p39 p40 p47 p48 p49 p50 p51 p52 p53 p54 p55 p56 p57 p58 p59 p60 p61 p62 p63 p64 p65 p66 p67 p68 p69 p70 p71 p72 p73 p74 p75 p76 p77 p78 p79 p80 p81 p82 p83 p84 p85 p86 p87 p88 p89 p90 p91 p92 p93 p94 p95 p96 p97 p98 p99 p100 : Value) (h4w : w.heap.size ≤ g4) (h5w : w.heap.size ≤ g5) (h45 : g4 ≠ g5) (h4l : g4 < W0.heap.size) (h5l : g5 < W0.heap.size) {Q : Exit → Act → World → Prop} : ∀ i o L a W, (opsOf Tryd.f7 10)[i]? = some o → L i = false → o.after.all (fun e => !Region.binds .any e || L e.on) = true → ClosedL (opsOf Tryd.f7 10) L → I10 q kk w g4 g5 W0 p0 p1 p2 p3 p4 p5 p6 p7 p8 p11 p12 p13 p14 p15 p16 p17 p18 p19 p20 p21 p22 p23 p24 p25 p26 p27 p28 p29 p30 p31 p32 p33 p34 p35 p36 p37 p38 p39 p40 p47 p48 p49 p50 p51 p52 p53 p54 p55 p56 p57 p58 p59 p60 p61 p62 p63 p64 p65 p66 p67 p68 p69 p70 p71 p72 p73 p74 p75 p76 p77 p78 p79 p80 p81 p82 p83 p84 p85 p86 p87 p88 p89 p90 p91 p92 p93 p94 p95 p96 p97 p98 p99 p100 L a W →
    if Region.wanted o (yielded (opsOf Tryd.f7 10) a.tmps) = true then Oper.wp Tryd.prog o a W (fun a' w' => I10 q kk w g4 g5 W0 p0 p1 p2 p3 p4 p5 p6 p7 p8 p11 p12 p13 p14 p15 p16 p17 p18 p19 p20 p21 p22 p23 p24 p25 p26 p27 p28 p29 p30 p31 p32 p33 p34 p35 p36 p37 p38 p39 p40 p47 p48 p49 p50 p51 p52 p53 p54 p55 p56 p57 p58 p59 p60 p61 p62 p63 p64 p65 p66 p67 p68 p69 p70 p71 p72 p73 p74 p75 p76 p77 p78 p79 p80 p81 p82 p83 p84 p85 p86 p87 p88 p89 p90 p91 p92 p93 p94 p95 p96 p97 p98 p99 p100 (fun j => j == i || L j) a' w') Q else I10 q kk w g4 g5 W0 p0 p1 p2 p3 p4 p5 p6 p7 p8 p11 p12 p13 p14 p15 p16 p17 p18 p19 p20 p21 p22 p23 p24 p25 p26 p27 p28 p29 p30 p31 p32 p33 p34 p35 p36 p37 p38 p39 p40 p47 p48 p49 p50 p51 p52 p53 p54 p55 p56 p57 p58 p59 p60 p61 p62 p63 p64 p65 p66 p67 p68 p69 p70 p71 p72 p73 p74 p75 p76 p77 p78 p79 p80 p81 p82 p83 p84 p85 p86 p87 p88 p89 p90 p91 p92 p93 p94 p95 p96 p97 p98 p99 p100 (fun j => j == i || L j) (a.put o.dst undef) W := by
  intro i o L a W ho hLi haft hcl hI
  obtain ⟨x41, x42, x43, x44, x45, x46, rfl, h0, h1, h2, h3, h4, h6, h4a, h4b, h5a, h5b, hb, hsz, hk⟩ := hI
  rcases i with _|_|_|_|_|_|_|_|_
  · obtain rfl : ({ dst := some 41, op := Go.Op.makeSlice 35 (Go.Operand.const (Go.Value.int Go.IntKind.i64 500)) (Go.Operand.const (Go.Value.int Go.IntKind.i64 500)), type := 35, pos := "more.go:57", after := #[], guard := none } : Oper) = o := Option.some.inj ho   -- 0
    have hmk := mk500_ W
    refine value_ (v := (.slice (some ⟨W.heap.size, 0, none⟩) 500 500)) (w1 := W.alloc (.cells (madeCells (Value.int .u8 0).cells 500) 5)) (by rfl) rfl ?_ ?_
    · go_simp; try rfl
    exact ⟨(.slice (some ⟨W.heap.size, 0, none⟩) 500 500), x42, x43, x44, x45, x46, rfl, fun _ => fun _ => ⟨_, rfl, hsz, heap_alloc_new W _⟩, h1, fun h h' => zrow_below (h2 h h') ((Below.refl W.heap.size W).alloc (Nat.le_refl _) _), h3, h4, h6, fun h => blk_below (h4a h) ((Below.refl W.heap.size W).alloc (Nat.le_refl _) _), fun h => blk_below (h4b h) ((Below.refl W.heap.size W).alloc (Nat.le_refl _) _), fun h => blk_below (h5a h) ((Below.refl W.heap.size W).alloc (Nat.le_refl _) _), fun h => blk_below (h5b h) ((Below.refl W.heap.size W).alloc (Nat.le_refl _) _), below_step hb ((Below.refl W.heap.size W).alloc (Nat.le_refl _) _), Nat.le_trans hsz (Below.size ((Below.refl W.heap.size W).alloc (Nat.le_refl _) _)), fun k h1 h2 h3 => (Below.block ((Below.refl W.heap.size W).alloc (Nat.le_refl _) _) k (Nat.lt_of_lt_of_le h1 hsz)).trans (hk k h1 h2 h3)⟩
  · obtain rfl : ({ dst := some 42, op := Go.Op.convert 35 9 (Go.Operand.tmp 41), type := 9, pos := "more.go:57", after := #[{ on := 0, ground := Go.Ground.data }], guard := none } : Oper) = o := Option.some.inj ho   -- 1
    obtain ⟨h, rfl, hh0, hh⟩ := h0 (dep_ haft 0 rfl) hLi
    have hcv := zconv_ hh
    refine value_ (v := .string (zB 500)) (w1 := W) (by rfl) rfl ?_ ?_
    · go_simp; try rfl
    exact ⟨(.slice (some ⟨h, 0, none⟩) 500 500), .string (zB 500), x43, x44, x45, x46, rfl, fun _ h => Bool.noConfusion h, fun _ => rfl, h2, h3, h4, h6, h4a, h4b, h5a, h5b, hb, hsz, hk⟩
  · obtain rfl : ({ dst := some 43, op := Go.Op.makeSlice 35 (Go.Operand.const (Go.Value.int Go.IntKind.i64 501)) (Go.Operand.const (Go.Value.int Go.IntKind.i64 501)), type := 35, pos := "more.go:57", after := #[], guard := none } : Oper) = o := Option.some.inj ho   -- 2
    have hmk := mk501_ W
    refine value_ (v := (.slice (some ⟨W.heap.size, 0, none⟩) 501 501)) (w1 := W.alloc (.cells (madeCells (Value.int .u8 0).cells 501) 5)) (by rfl) rfl ?_ ?_
    · go_simp; try rfl
    exact ⟨x41, x42, (.slice (some ⟨W.heap.size, 0, none⟩) 501 501), x44, x45, x46, rfl, fun h h' => zrow_below (h0 h h') ((Below.refl W.heap.size W).alloc (Nat.le_refl _) _), h1, fun _ => fun _ => ⟨_, rfl, hsz, heap_alloc_new W _⟩, h3, h4, h6, fun h => blk_below (h4a h) ((Below.refl W.heap.size W).alloc (Nat.le_refl _) _), fun h => blk_below (h4b h) ((Below.refl W.heap.size W).alloc (Nat.le_refl _) _), fun h => blk_below (h5a h) ((Below.refl W.heap.size W).alloc (Nat.le_refl _) _), fun h => blk_below (h5b h) ((Below.refl W.heap.size W).alloc (Nat.le_refl _) _), below_step hb ((Below.refl W.heap.size W).alloc (Nat.le_refl _) _), Nat.le_trans hsz (Below.size ((Below.refl W.heap.size W).alloc (Nat.le_refl _) _)), fun k h1 h2 h3 => (Below.block ((Below.refl W.heap.size W).alloc (Nat.le_refl _) _) k (Nat.lt_of_lt_of_le h1 hsz)).trans (hk k h1 h2 h3)⟩
  · obtain rfl : ({ dst := some 44, op := Go.Op.convert 35 9 (Go.Operand.tmp 43), type := 9, pos := "more.go:57", after := #[{ on := 2, ground := Go.Ground.data }, { on := 5, ground := Go.Ground.gcOnly Go.Departure.lateStores }], guard := none } : Oper) = o := Option.some.inj ho   -- 3
    obtain ⟨h, rfl, hh0, hh⟩ := h2 (dep_ haft 0 rfl) hLi
    have hcv := zconv_ hh
    refine value_ (v := .string (zB 501)) (w1 := W) (by rfl) rfl ?_ ?_
    · go_simp; try rfl
    exact ⟨x41, x42, (.slice (some ⟨h, 0, none⟩) 501 501), .string (zB 501), x45, x46, rfl, h0, h1, fun _ h => Bool.noConfusion h, fun _ => rfl, h4, h6, h4a, h4b, h5a, h5b, hb, hsz, hk⟩
  · obtain rfl : ({ dst := some 45, op := Go.Op.fieldAddr 23 (Go.Operand.tmp 9) 2, type := 0, pos := "more.go:57", after := #[{ on := 0, ground := Go.Ground.phase }, { on := 1, ground := Go.Ground.phase }, { on := 2, ground := Go.Ground.textOnly Go.Departure.lateStoresUnsure }, { on := 3, ground := Go.Ground.textOnly Go.Departure.lateStores }], guard := none } : Oper) = o := Option.some.inj ho   -- 4
    refine value_ (v := .pointer (some ⟨g4, 2, none⟩)) (w1 := W) (by rfl) rfl ?_ ?_
    · go_simp; try rfl
    exact ⟨x41, x42, x43, x44, .pointer (some ⟨g4, 2, none⟩), x46, rfl, h0, h1, h2, h3, fun _ => rfl, h6, h4a, h4b, h5a, h5b, hb, hsz, hk⟩
  · obtain rfl : ({ dst := none, op := Go.Op.store 9 (Go.Operand.tmp 45) (Go.Operand.tmp 42), type := 0, pos := "more.go:57", after := #[{ on := 4, ground := Go.Ground.data }, { on := 1, ground := Go.Ground.data }, { on := 0, ground := Go.Ground.phase }, { on := 1, ground := Go.Ground.phase }, { on := 2, ground := Go.Ground.textOnly Go.Departure.lateStoresUnsure }, { on := 3, ground := Go.Ground.textOnly Go.Departure.lateStores }], guard := none } : Oper) = o := Option.some.inj ho   -- 5
    obtain rfl := h4 (dep_ haft 0 rfl)
    obtain rfl := h1 (dep_ haft 1 rfl)
    have hbk := h4a hLi
    have c2 : W.cell? ⟨g4, 2, none⟩ = some (.string ⟨#[]⟩) := (blk_cell hbk 2).trans rfl
    have f2 := blk_frozen hbk 2
    refine skip_ (w1 := W.setCell ⟨g4, 2, none⟩ (.string (zB 500))) (by rfl) rfl ?_ ?_
    · go_simp
    exact ⟨x41, .string (zB 500), x43, x44, .pointer (some ⟨g4, 2, none⟩), x46, rfl, fun h h' => zrow_set (h0 h h') h4l _, fun _ => rfl, fun h h' => zrow_set (h2 h h') h4l _, h3, fun _ => rfl, h6, fun h => Bool.noConfusion h, fun _ => heap_setCell_same W g4 2 _ _ _ hbk, fun h => (Below.heap_setCell _ _ _ _ (Ne.symm h45)).trans (h5a h), fun h => (Below.heap_setCell _ _ _ _ (Ne.symm h45)).trans (h5b h), hb.setCell (p := ⟨g4, 2, none⟩) h4w _, set1_le hsz _ _, fun k h1 h2 h3 => (Below.heap_setCell _ _ _ _ h2).trans (hk k h1 h2 h3)⟩
  · obtain rfl : ({ dst := some 46, op := Go.Op.fieldAddr 23 (Go.Operand.tmp 10) 2, type := 0, pos := "more.go:57", after := #[{ on := 0, ground := Go.Ground.phase }, { on := 1, ground := Go.Ground.phase }, { on := 2, ground := Go.Ground.phase }, { on := 3, ground := Go.Ground.phase }, { on := 4, ground := Go.Ground.phase }, { on := 5, ground := Go.Ground.phase }], guard := none } : Oper) = o := Option.some.inj ho   -- 6
    refine value_ (v := .pointer (some ⟨g5, 2, none⟩)) (w1 := W) (by rfl) rfl ?_ ?_
    · go_simp; try rfl
    exact ⟨x41, x42, x43, x44, x45, .pointer (some ⟨g5, 2, none⟩), rfl, h0, h1, h2, h3, h4, fun _ => rfl, h4a, h4b, h5a, h5b, hb, hsz, hk⟩
  · obtain rfl : ({ dst := none, op := Go.Op.store 9 (Go.Operand.tmp 46) (Go.Operand.tmp 44), type := 0, pos := "more.go:57", after := #[{ on := 6, ground := Go.Ground.data }, { on := 3, ground := Go.Ground.data }, { on := 5, ground := Go.Ground.chain }, { on := 0, ground := Go.Ground.phase }, { on := 1, ground := Go.Ground.phase }, { on := 2, ground := Go.Ground.phase }, { on := 3, ground := Go.Ground.phase }, { on := 4, ground := Go.Ground.phase }, { on := 5, ground := Go.Ground.phase }], guard := none } : Oper) = o := Option.some.inj ho   -- 7
    obtain rfl := h6 (dep_ haft 0 rfl)
    obtain rfl := h3 (dep_ haft 1 rfl)
    have hbk := h5a hLi
    have c2 : W.cell? ⟨g5, 2, none⟩ = some (.string ⟨#[]⟩) := (blk_cell hbk 2).trans rfl
    have f2 := blk_frozen hbk 2
    refine skip_ (w1 := W.setCell ⟨g5, 2, none⟩ (.string (zB 501))) (by rfl) rfl ?_ ?_
    · go_simp
    exact ⟨x41, x42, x43, .string (zB 501), x45, .pointer (some ⟨g5, 2, none⟩), rfl, fun h h' => zrow_set (h0 h h') h5l _, h1, fun h h' => zrow_set (h2 h h') h5l _, fun _ => rfl, h4, fun _ => rfl, fun h => (Below.heap_setCell _ _ _ _ h45).trans (h4a h), fun h => (Below.heap_setCell _ _ _ _ h45).trans (h4b h), fun h => Bool.noConfusion h, fun _ => heap_setCell_same W g5 2 _ _ _ hbk, hb.setCell (p := ⟨g5, 2, none⟩) h5w _, set1_le hsz _ _, fun k h1 h2 h3 => (Below.heap_setCell _ _ _ _ h3).trans (hk k h1 h2 h3)⟩
  · cases ho
end Go.Proofs.YtbfdaclekjgkfaaDoor
