/- CommandEdges: the walk. -/
import Derived.Test.YtbfdaclekjgkfaaDoorEd10
import Derived.Test.YtbfdaclekjgkfaaDoorNames
set_option linter.unusedVariables false
set_option linter.unusedSimpArgs false
namespace Go.Proofs.YtbfdaclekjgkfaaDoor
open Go.RowKit Go.Proofs.YtbfdaclekjgkfaaDoorW.PrintWords Go.Proofs.YtbfdaclekjgkfaaDoorW.PrintLast

theorem q_range (o : Int) : 1 ≤ wrap64 (1 + (wrap64 (o.tmod 13 + 13)).tmod 13) ∧ wrap64 (1 + (wrap64 (o.tmod 13 + 13)).tmod 13) ≤ 13 := by
  have h1 := Int.tmod_lt_of_pos o (show (0 : Int) < 13 by decide)
  have h2 := Int.lt_tmod_of_pos o (show (0 : Int) < 13 by decide)
  have e1 : wrap64 (o.tmod 13 + 13) = o.tmod 13 + 13 := by unfold wrap64; omega
  rw [e1]
  have h3 := Int.tmod_lt_of_pos (o.tmod 13 + 13) (show (0 : Int) < 13 by decide)
  have h4 := Int.tmod_nonneg (13 : Int) (show 0 ≤ o.tmod 13 + 13 by omega)
  unfold wrap64
  omega
theorem zconv_new (n : Nat) (W : World) : (convert 35 9 (.slice (some ⟨W.heap.size, 0, none⟩) n n)).run Tryd.prog (W.alloc (.cells (madeCells (Value.int .u8 0).cells n) 5)) = .ok (.string (zB n)) (W.alloc (.cells (madeCells (Value.int .u8 0).cells n) 5)) :=
  zconv_ (heap_alloc_new W _)

/-- What the six copies are, behind the region of copies. -/
def Six (W w : World) (gC : Nat) (q : Int) (kk : ByteArray) (g : Nat → Nat) : Prop :=
  (∀ j, j < 6 → W.heap[g j]? = some (.cells #[.int .i64 q, .string kk, .string ⟨#[]⟩, .int .i64 0, .int .i64 0] 23 (0, 0)) ∧ w.heap.size ≤ g j ∧ g j ≠ gC) ∧ (∀ j k, j < k → k < 6 → g j ≠ g k)

set_option maxRecDepth 100000 in
set_option maxHeartbeats 1600000 in
theorem R8 {Q : Exit → Act → World → Prop} (q : Int) (kk : ByteArray) (w W0 : World) (gC : Nat) (p0 p1 p2 p4 p11 p12 p13 p14 p15 p16 p17 p18 p19 p20 p21 p22 p23 p24 p25 p26 p27 p28 p29 p30 p37 p38 p39 p40 p41 p42 p43 p44 p45 p46 p47 p48 p49 p50 p51 p52 p53 p54 p55 p56 p57 p58 p59 p60 p61 p62 p63 p64 p65 p66 p67 p68 p69 p70 p71 p72 p73 p74 p75 p76 p77 p78 p79 p80 p81 p82 p83 p84 p85 p86 p87 p88 p89 p90 p91 p92 p93 p94 p95 p96 p97 p98 p99 p100 u5 u6 u7 u8 u9 u10 u31 u32 u33 u34 u35 u36 : Value) (hwC : w.heap.size ≤ gC)
    (hC : W0.heap[gC]? = some (.cells #[.int .i64 q, .string kk, .string ⟨#[]⟩, .int .i64 0, .int .i64 0] 23 (0, 0))) (hb : Below w.heap.size w W0) (hlt : gC < W0.heap.size)
    (hQ : ∀ (g : Nat → Nat) (W : World) (x31 x32 x33 x34 x35 x36 : Value), Six W w gC q kk g → W.heap[gC]? = some (.cells #[.int .i64 q, .string kk, .string ⟨#[]⟩, .int .i64 0, .int .i64 0] 23 (0, 0)) → Below w.heap.size w W → gC < W.heap.size → (∀ j, j < 6 → g j < W.heap.size) →
      Q .normal ⟨#[p0, p1, p2, (.pointer (some ⟨gC, 0, none⟩)), p4, (.pointer (some ⟨g 0, 0, none⟩)), (.pointer (some ⟨g 1, 0, none⟩)), (.pointer (some ⟨g 2, 0, none⟩)), (.pointer (some ⟨g 3, 0, none⟩)), (.pointer (some ⟨g 4, 0, none⟩)), (.pointer (some ⟨g 5, 0, none⟩)), p11, p12, p13, p14, p15, p16, p17, p18, p19, p20, p21, p22, p23, p24, p25, p26, p27, p28, p29, p30, x31, x32, x33, x34, x35, x36, p37, p38, p39, p40, p41, p42, p43, p44, p45, p46, p47, p48, p49, p50, p51, p52, p53, p54, p55, p56, p57, p58, p59, p60, p61, p62, p63, p64, p65, p66, p67, p68, p69, p70, p71, p72, p73, p74, p75, p76, p77, p78, p79, p80, p81, p82, p83, p84, p85, p86, p87, p88, p89, p90, p91, p92, p93, p94, p95, p96, p97, p98, p99, p100], []⟩ W) :
    (Code.region 8 (opsOf Tryd.f7 8) true).wp Tryd.prog Q ⟨#[p0, p1, p2, (.pointer (some ⟨gC, 0, none⟩)), p4, u5, u6, u7, u8, u9, u10, p11, p12, p13, p14, p15, p16, p17, p18, p19, p20, p21, p22, p23, p24, p25, p26, p27, p28, p29, p30, u31, u32, u33, u34, u35, u36, p37, p38, p39, p40, p41, p42, p43, p44, p45, p46, p47, p48, p49, p50, p51, p52, p53, p54, p55, p56, p57, p58, p59, p60, p61, p62, p63, p64, p65, p66, p67, p68, p69, p70, p71, p72, p73, p74, p75, p76, p77, p78, p79, p80, p81, p82, p83, p84, p85, p86, p87, p88, p89, p90, p91, p92, p93, p94, p95, p96, p97, p98, p99, p100], []⟩ W0 := by
  refine wp_region_inv2 (by kernel_rfl) (by kernel_rfl) (I8 q kk w gC p0 p1 p2 p4 p11 p12 p13 p14 p15 p16 p17 p18 p19 p20 p21 p22 p23 p24 p25 p26 p27 p28 p29 p30 p37 p38 p39 p40 p41 p42 p43 p44 p45 p46 p47 p48 p49 p50 p51 p52 p53 p54 p55 p56 p57 p58 p59 p60 p61 p62 p63 p64 p65 p66 p67 p68 p69 p70 p71 p72 p73 p74 p75 p76 p77 p78 p79 p80 p81 p82 p83 p84 p85 p86 p87 p88 p89 p90 p91 p92 p93 p94 p95 p96 p97 p98 p99 p100) ?_ (I8.step q kk w gC p0 p1 p2 p4 p11 p12 p13 p14 p15 p16 p17 p18 p19 p20 p21 p22 p23 p24 p25 p26 p27 p28 p29 p30 p37 p38 p39 p40 p41 p42 p43 p44 p45 p46 p47 p48 p49 p50 p51 p52 p53 p54 p55 p56 p57 p58 p59 p60 p61 p62 p63 p64 p65 p66 p67 p68 p69 p70 p71 p72 p73 p74 p75 p76 p77 p78 p79 p80 p81 p82 p83 p84 p85 p86 p87 p88 p89 p90 p91 p92 p93 p94 p95 p96 p97 p98 p99 p100 hwC) ?_
  · have no : ∀ {p : Prop}, false = true → p := fun h => Bool.noConfusion h
    exact ⟨0, 0, 0, 0, 0, 0, u5, u6, u7, u8, u9, u10, u31, u32, u33, u34, u35, u36, rfl, no, no, no, no, no, no, no, no, no, no, no, no, hC, hb.drew, hlt, no, no, no, no, no, no, no, no, no, no, no, no, no, no, no, no, no, no, no, no, no, no, no, no, no, no, no, no, no, no, no, no, no⟩
  rintro L a' W hall ⟨g0, g1, g2, g3, g4, g5, x5, x6, x7, x8, x9, x10, x31, x32, x33, x34, x35, x36, rfl, h0, h1, h2, h3, h4, h5, h6, h7, h8, h9, h10, h11, hC, hb, hlt, hz0, hf0, hw0, hz1, hf1, hw1, hz2, hf2, hw2, hz3, hf3, hw3, hz4, hf4, hw4, hz5, hf5, hw5, hn0_1, hn0_2, hn0_3, hn0_4, hn0_5, hn1_2, hn1_3, hn1_4, hn1_5, hn2_3, hn2_4, hn2_5, hn3_4, hn3_5, hn4_5⟩
  obtain rfl := h6 (hall 6 (by decide))
  obtain rfl := h7 (hall 7 (by decide))
  obtain rfl := h8 (hall 8 (by decide))
  obtain rfl := h9 (hall 9 (by decide))
  obtain rfl := h10 (hall 10 (by decide))
  obtain rfl := h11 (hall 11 (by decide))
  refine hQ (fun j => match j with | 0 => g0 | 1 => g1 | 2 => g2 | 3 => g3 | 4 => g4 | _ => g5) W x31 x32 x33 x34 x35 x36 ⟨?_, ?_⟩ hC hb hlt ?_
  · intro j hj
    match j, hj with
    | 0, _ => exact ⟨hf0 (hall 12 (by decide)), (hw0 (hall 6 (by decide))).1, (hw0 (hall 6 (by decide))).2.2⟩
    | 1, _ => exact ⟨hf1 (hall 13 (by decide)), (hw1 (hall 7 (by decide))).1, (hw1 (hall 7 (by decide))).2.2⟩
    | 2, _ => exact ⟨hf2 (hall 14 (by decide)), (hw2 (hall 8 (by decide))).1, (hw2 (hall 8 (by decide))).2.2⟩
    | 3, _ => exact ⟨hf3 (hall 15 (by decide)), (hw3 (hall 9 (by decide))).1, (hw3 (hall 9 (by decide))).2.2⟩
    | 4, _ => exact ⟨hf4 (hall 16 (by decide)), (hw4 (hall 10 (by decide))).1, (hw4 (hall 10 (by decide))).2.2⟩
    | 5, _ => exact ⟨hf5 (hall 17 (by decide)), (hw5 (hall 11 (by decide))).1, (hw5 (hall 11 (by decide))).2.2⟩
  · intro j k hjk hk
    match j, k, hjk, hk with
    | 0, 1, _, _ => exact hn0_1 (hall 6 (by decide)) (hall 7 (by decide))
    | 0, 2, _, _ => exact hn0_2 (hall 6 (by decide)) (hall 8 (by decide))
    | 0, 3, _, _ => exact hn0_3 (hall 6 (by decide)) (hall 9 (by decide))
    | 0, 4, _, _ => exact hn0_4 (hall 6 (by decide)) (hall 10 (by decide))
    | 0, 5, _, _ => exact hn0_5 (hall 6 (by decide)) (hall 11 (by decide))
    | 1, 2, _, _ => exact hn1_2 (hall 7 (by decide)) (hall 8 (by decide))
    | 1, 3, _, _ => exact hn1_3 (hall 7 (by decide)) (hall 9 (by decide))
    | 1, 4, _, _ => exact hn1_4 (hall 7 (by decide)) (hall 10 (by decide))
    | 1, 5, _, _ => exact hn1_5 (hall 7 (by decide)) (hall 11 (by decide))
    | 2, 3, _, _ => exact hn2_3 (hall 8 (by decide)) (hall 9 (by decide))
    | 2, 4, _, _ => exact hn2_4 (hall 8 (by decide)) (hall 10 (by decide))
    | 2, 5, _, _ => exact hn2_5 (hall 8 (by decide)) (hall 11 (by decide))
    | 3, 4, _, _ => exact hn3_4 (hall 9 (by decide)) (hall 10 (by decide))
    | 3, 5, _, _ => exact hn3_5 (hall 9 (by decide)) (hall 11 (by decide))
    | 4, 5, _, _ => exact hn4_5 (hall 10 (by decide)) (hall 11 (by decide))
    | _ + 5, _, h1, h2 => omega
  · intro j hj
    match j, hj with
    | 0, _ => exact (hw0 (hall 6 (by decide))).2.1
    | 1, _ => exact (hw1 (hall 7 (by decide))).2.1
    | 2, _ => exact (hw2 (hall 8 (by decide))).2.1
    | 3, _ => exact (hw3 (hall 9 (by decide))).2.1
    | 4, _ => exact (hw4 (hall 10 (by decide))).2.1
    | 5, _ => exact (hw5 (hall 11 (by decide))).2.1

set_option maxRecDepth 100000 in
set_option maxHeartbeats 1600000 in
theorem R10 {Q : Exit → Act → World → Prop} (q : Int) (kk : ByteArray) (w W0 : World) (g4 g5 : Nat) (p0 p1 p2 p3 p4 p5 p6 p7 p8 p11 p12 p13 p14 p15 p16 p17 p18 p19 p20 p21 p22 p23 p24 p25 p26 p27 p28 p29 p30 p31 p32 p33 p34 p35 p36 p37 p38 p39 p40 p47 p48 p49 p50 p51 p52 p53 p54 p55 p56 p57 p58 p59 p60 p61 p62 p63 p64 p65 p66 p67 p68 p69 p70 p71 p72 p73 p74 p75 p76 p77 p78 p79 p80 p81 p82 p83 p84 p85 p86 p87 p88 p89 p90 p91 p92 p93 p94 p95 p96 p97 p98 p99 p100 u41 u42 u43 u44 u45 u46 : Value) (h4w : w.heap.size ≤ g4) (h5w : w.heap.size ≤ g5) (h45 : g4 ≠ g5) (h4l : g4 < W0.heap.size) (h5l : g5 < W0.heap.size)
    (h4 : W0.heap[g4]? = some (.cells #[.int .i64 q, .string kk, .string ⟨#[]⟩, .int .i64 0, .int .i64 0] 23 (0, 0))) (h5 : W0.heap[g5]? = some (.cells #[.int .i64 q, .string kk, .string ⟨#[]⟩, .int .i64 0, .int .i64 0] 23 (0, 0))) (hb : Below w.heap.size w W0)
    (hQ : ∀ (W : World) (x41 x42 x43 x44 x45 x46 : Value), W.heap[g4]? = some (.cells #[.int .i64 q, .string kk, .string (zB 500), .int .i64 0, .int .i64 0] 23 (0, 0)) → W.heap[g5]? = some (.cells #[.int .i64 q, .string kk, .string (zB 501), .int .i64 0, .int .i64 0] 23 (0, 0)) → Below w.heap.size w W → W0.heap.size ≤ W.heap.size → (∀ k, k < W0.heap.size → k ≠ g4 → k ≠ g5 → W.heap[k]? = W0.heap[k]?) → Q .normal ⟨#[p0, p1, p2, p3, p4, p5, p6, p7, p8, (.pointer (some ⟨g4, 0, none⟩)), (.pointer (some ⟨g5, 0, none⟩)), p11, p12, p13, p14, p15, p16, p17, p18, p19, p20, p21, p22, p23, p24, p25, p26, p27, p28, p29, p30, p31, p32, p33, p34, p35, p36, p37, p38, p39, p40, x41, x42, x43, x44, x45, x46, p47, p48, p49, p50, p51, p52, p53, p54, p55, p56, p57, p58, p59, p60, p61, p62, p63, p64, p65, p66, p67, p68, p69, p70, p71, p72, p73, p74, p75, p76, p77, p78, p79, p80, p81, p82, p83, p84, p85, p86, p87, p88, p89, p90, p91, p92, p93, p94, p95, p96, p97, p98, p99, p100], []⟩ W) :
    (Code.region 10 (opsOf Tryd.f7 10) true).wp Tryd.prog Q ⟨#[p0, p1, p2, p3, p4, p5, p6, p7, p8, (.pointer (some ⟨g4, 0, none⟩)), (.pointer (some ⟨g5, 0, none⟩)), p11, p12, p13, p14, p15, p16, p17, p18, p19, p20, p21, p22, p23, p24, p25, p26, p27, p28, p29, p30, p31, p32, p33, p34, p35, p36, p37, p38, p39, p40, u41, u42, u43, u44, u45, u46, p47, p48, p49, p50, p51, p52, p53, p54, p55, p56, p57, p58, p59, p60, p61, p62, p63, p64, p65, p66, p67, p68, p69, p70, p71, p72, p73, p74, p75, p76, p77, p78, p79, p80, p81, p82, p83, p84, p85, p86, p87, p88, p89, p90, p91, p92, p93, p94, p95, p96, p97, p98, p99, p100], []⟩ W0 := by
  refine wp_region_inv2 (by kernel_rfl) (by kernel_rfl) (I10 q kk w g4 g5 W0 p0 p1 p2 p3 p4 p5 p6 p7 p8 p11 p12 p13 p14 p15 p16 p17 p18 p19 p20 p21 p22 p23 p24 p25 p26 p27 p28 p29 p30 p31 p32 p33 p34 p35 p36 p37 p38 p39 p40 p47 p48 p49 p50 p51 p52 p53 p54 p55 p56 p57 p58 p59 p60 p61 p62 p63 p64 p65 p66 p67 p68 p69 p70 p71 p72 p73 p74 p75 p76 p77 p78 p79 p80 p81 p82 p83 p84 p85 p86 p87 p88 p89 p90 p91 p92 p93 p94 p95 p96 p97 p98 p99 p100) ?_ (I10.step q kk w g4 g5 W0 p0 p1 p2 p3 p4 p5 p6 p7 p8 p11 p12 p13 p14 p15 p16 p17 p18 p19 p20 p21 p22 p23 p24 p25 p26 p27 p28 p29 p30 p31 p32 p33 p34 p35 p36 p37 p38 p39 p40 p47 p48 p49 p50 p51 p52 p53 p54 p55 p56 p57 p58 p59 p60 p61 p62 p63 p64 p65 p66 p67 p68 p69 p70 p71 p72 p73 p74 p75 p76 p77 p78 p79 p80 p81 p82 p83 p84 p85 p86 p87 p88 p89 p90 p91 p92 p93 p94 p95 p96 p97 p98 p99 p100 h4w h5w h45 h4l h5l) ?_
  · have no : ∀ {p : Prop}, false = true → p := fun h => Bool.noConfusion h
    exact ⟨u41, u42, u43, u44, u45, u46, rfl, no, no, no, no, no, no, fun _ => h4, no, fun _ => h5, no, hb.drew, Nat.le_refl _, fun _ _ _ _ => rfl⟩
  rintro L a' W hall ⟨x41, x42, x43, x44, x45, x46, rfl, h0, h1, h2, h3, h4', h6, h4a, h4b, h5a, h5b, hb, hsz, hk⟩
  exact hQ W x41 x42 x43 x44 x45 x46 (h4b (hall 5 (by decide))) (h5b (hall 7 (by decide))) hb hsz hk
end Go.Proofs.YtbfdaclekjgkfaaDoor
