import Derived.Test.YtbfdaclekjgkfaaGreatDoorBkta
import Derived.Test.YtbfdaclekjgkfaaGreatDoorGet2
import Derived.Test.YtbfdaclekjgkfaaGreatDoorPRep

/- command.GetReply's region that reads one key more. -/
set_option linter.unusedVariables false
namespace Go.Proofs.YtbfdaclekjgkfaaGreatDoor.Bk
open Go.RowKit Go.Proofs.YtbfdaclekjgkfaaGreatDoor Go.Proofs.YtbfdaclekjgkfaaGreatDoorW.PrintWords Go.Proofs.YtbfdaclekjgkfaaGreatDoorW.PrintLast
theorem one_str {W : World} {b : Nat} {s : ByteArray} (h : W.heap[b]? = some (.cells #[.string s] 9 (0, 0))) : Kd.C Kd.string W (some ⟨b, 0, none⟩) 1 [s] := by
  refine ⟨rfl, by decide, fun _ => ⟨⟨b, 0, none⟩, rfl, fun j p hj => ?_⟩⟩
  match j, hj with
  | 0, hj =>
    obtain rfl := Option.some.inj hj
    refine ⟨[.string s], rfl, rfl, fun i u hu => ?_⟩
    match i, hu with
    | 0, hu =>
      obtain rfl := Option.some.inj hu
      rw [add_at]
      exact (blk_cell h _).trans rfl
def Ig (g c : Nat) (b : ByteArray) (bad : Bool) (e : Int) (v : ByteArray) (x y : Int) (kv : Value) (ks : List ByteArray) (B : Nat) (w : World) (p0 p1 p2 p3 p6 p7 p8 p9 p10 p11 p12 p13 p14 p15 p16 p17 p18 p19 p20 p21 p22 p23 p24 p25 p26 p27 p28 p29 p30 p31 p32 p33 p34 p35 p36 p37 p38 p39 p49 p50 p51 p52 p53 p54 p55 p56 p57 p58 p59 p60 p61 p62 p63 p64 p65 p66 p67 p68 : Value) (L : Nat → Bool) (a : Act) (W : World) : Prop :=
  ∃ x40 x41 x42 x43 x44 x45 x46 x47 x48 : Value, a = ⟨#[p0, p1, p2, p3, (.pointer (some ⟨g, 0, none⟩)), (.pointer (some ⟨c, 0, none⟩)), p6, p7, p8, p9, p10, p11, p12, p13, p14, p15, p16, p17, p18, p19, p20, p21, p22, p23, p24, p25, p26, p27, p28, p29, p30, p31, p32, p33, p34, p35, p36, p37, p38, p39, x40, x41, x42, x43, x44, x45, x46, x47, x48, p49, p50, p51, p52, p53, p54, p55, p56, p57, p58, p59, p60, p61, p62, p63, p64, p65, p66, p67, p68], []⟩ ∧ (L 0 = true → x40 = .pointer (some ⟨c, 4, none⟩)) ∧ (L 1 = true → x41 = kv) ∧ (L 2 = true → x42 = .pointer (some ⟨g, 0, none⟩)) ∧ (L 3 = true → x43 = .pointer (some ⟨g, 0, none⟩)) ∧ (L 4 = true → x44 = .int .i64 (numV b bad 1)) ∧ (L 5 = true → x45 = .string (takeOut (takeLeft b bad 1) (takeBad b bad 1) (numV b bad 1))) ∧ (L 6 = true → ∃ q, x46 = .slice (some ⟨q, 0, none⟩) 1 1 ∧ w.heap.size ≤ q ∧ W.heap[q]? = some (.cells #[.string (takeOut (takeLeft b bad 1) (takeBad b bad 1) (numV b bad 1))] 9 (0, 0))) ∧ (L 7 = true → Kd.R Kd.string 9 W B (fun _ => True) x47 (ks ++ [(takeOut (takeLeft b bad 1) (takeBad b bad 1) (numV b bad 1))])) ∧ (L 8 = true → x48 = .pointer (some ⟨c, 4, none⟩)) ∧ (L 9 = true → W.heap[c]? = some (.cells #[.int .i64 e, .string v, .int .i64 x, .int .i64 y, x47] 25 (0, 0))) ∧ (L 4 = false → RS W g b bad) ∧ (L 4 = true → L 5 = false → RS W g (takeLeft b bad 1) (takeBad b bad 1)) ∧ (L 5 = true → RS W g (takeLeft (takeLeft b bad 1) (takeBad b bad 1) (numV b bad 1)) (takeBad (takeLeft b bad 1) (takeBad b bad 1) (numV b bad 1))) ∧ (L 9 = false → W.heap[c]? = some (.cells #[.int .i64 e, .string v, .int .i64 x, .int .i64 y, kv] 25 (0, 0))) ∧ (L 7 = false → Kd.R Kd.string 9 W B (fun _ => True) kv ks) ∧ (Tch (fun k => k = g ∨ k = c ∨ kv.ownBlock = some k) w W)
set_option maxHeartbeats 1600000 in
set_option maxRecDepth 100000 in
theorem Ig.step (g c : Nat) (b : ByteArray) (bad : Bool) (e : Int) (v : ByteArray) (x y : Int) (kv : Value) (ks : List ByteArray) (B : Nat) (w : World) (p0 p1 p2 p3 p6 p7 p8 p9 p10 p11 p12 p13 p14 p15 p16 p17 p18 p19 p20 p21 p22 p23 p24 p25 p26 p27 p28 p29 p30 p31 p32 p33 p34 p35 p36 p37 p38 p39 p49 p50 p51 p52 p53 p54 p55 p56 p57 p58 p59 p60 p61 p62 p63 p64 p65 p66 p67 p68 : Value) (hgc : g ≠ c) (hgl : g < w.heap.size) (hcl0 : c < w.heap.size) (hkg : kv.ownBlock ≠ some g) (hkc : kv.ownBlock ≠ some c) (hkl : ∀ k, kv.ownBlock = some k → k < w.heap.size) (hs : b.size ≤ 140737488351232) (hB : B ≤ w.heap.size) (hkn : ks.length ≤ 300) {Q : Exit → Act → World → Prop} : ∀ i o L a W, (opsOf Tryz.f8 9)[i]? = some o → L i = false → o.after.all (fun e => !Region.binds .any e || L e.on) = true → ClosedL (opsOf Tryz.f8 9) L → Ig g c b bad e v x y kv ks B w p0 p1 p2 p3 p6 p7 p8 p9 p10 p11 p12 p13 p14 p15 p16 p17 p18 p19 p20 p21 p22 p23 p24 p25 p26 p27 p28 p29 p30 p31 p32 p33 p34 p35 p36 p37 p38 p39 p49 p50 p51 p52 p53 p54 p55 p56 p57 p58 p59 p60 p61 p62 p63 p64 p65 p66 p67 p68 L a W →
    if Region.wanted o (yielded (opsOf Tryz.f8 9) a.tmps) = true then Oper.wp Tryz.prog o a W (fun a' w' => Ig g c b bad e v x y kv ks B w p0 p1 p2 p3 p6 p7 p8 p9 p10 p11 p12 p13 p14 p15 p16 p17 p18 p19 p20 p21 p22 p23 p24 p25 p26 p27 p28 p29 p30 p31 p32 p33 p34 p35 p36 p37 p38 p39 p49 p50 p51 p52 p53 p54 p55 p56 p57 p58 p59 p60 p61 p62 p63 p64 p65 p66 p67 p68 (fun j => j == i || L j) a' w') Q else Ig g c b bad e v x y kv ks B w p0 p1 p2 p3 p6 p7 p8 p9 p10 p11 p12 p13 p14 p15 p16 p17 p18 p19 p20 p21 p22 p23 p24 p25 p26 p27 p28 p29 p30 p31 p32 p33 p34 p35 p36 p37 p38 p39 p49 p50 p51 p52 p53 p54 p55 p56 p57 p58 p59 p60 p61 p62 p63 p64 p65 p66 p67 p68 (fun j => j == i || L j) (a.put o.dst undef) W := by
  intro i o L a W ho hLi haft hcl hI
  obtain ⟨x40, x41, x42, x43, x44, x45, x46, x47, x48, rfl, h0, h1, h2, h3, h4, h5, h6, h7, h8, h9, k1, k2, k3, kc, ko, kt⟩ := hI
  rcases i with _|_|_|_|_|_|_|_|_|_|_
  · obtain rfl : ({ dst := some 40, op := Go.Op.fieldAddr 25 (Go.Operand.tmp 5) 4, type := 0, pos := "command.go:161", after := #[], guard := none } : Oper) = o := Option.some.inj ho   -- 0
    refine value_ (v := .pointer (some ⟨c, 4, none⟩)) (w1 := W) (by rfl) rfl ?_ ?_
    · go_simp; try rfl
    exact ⟨.pointer (some ⟨c, 4, none⟩), x41, x42, x43, x44, x45, x46, x47, x48, rfl, fun _ => rfl, h1, h2, h3, h4, h5, h6, h7, h8, h9, k1, k2, k3, kc, ko, kt⟩
  · obtain rfl : ({ dst := some 41, op := Go.Op.load 23 (Go.Operand.tmp 40), type := 23, pos := "command.go:161", after := #[{ on := 0, ground := Go.Ground.data }], guard := none } : Oper) = o := Option.some.inj ho   -- 1
    obtain rfl := h0 (dep_ haft 0 rfl)
    have hb := kc (no_f hcl 9 (by rfl) 4 rfl hLi)
    have r0 := ko (no_f hcl 7 (by rfl) 0 rfl hLi)
    obtain ⟨Ak, ck, rfl, _⟩ := Kd.R_reads r0
    have hc' : W.cell? ⟨c, 4, none⟩ = some (.slice Ak ks.length ck) := (blk_cell hb 4).trans rfl
    refine value_ (v := .slice Ak ks.length ck) (w1 := W) (by rfl) rfl ?_ ?_
    · go_simp; try rfl
    exact ⟨.pointer (some ⟨c, 4, none⟩), .slice Ak ks.length ck, x42, x43, x44, x45, x46, x47, x48, rfl, fun _ => rfl, fun _ => rfl, h2, h3, h4, h5, h6, h7, h8, h9, k1, k2, k3, kc, ko, kt⟩
  · obtain rfl : ({ dst := some 42, op := Go.Op.move (Go.Operand.tmp 4), type := 68, pos := "command.go:161", after := #[], guard := none } : Oper) = o := Option.some.inj ho   -- 2
    refine value_ (v := .pointer (some ⟨g, 0, none⟩)) (w1 := W) (by rfl) rfl ?_ ?_
    · go_simp; try rfl
    exact ⟨x40, x41, .pointer (some ⟨g, 0, none⟩), x43, x44, x45, x46, x47, x48, rfl, h0, h1, fun _ => rfl, h3, h4, h5, h6, h7, h8, h9, k1, k2, k3, kc, ko, kt⟩
  · obtain rfl : ({ dst := some 43, op := Go.Op.move (Go.Operand.tmp 4), type := 68, pos := "command.go:161", after := #[], guard := none } : Oper) = o := Option.some.inj ho   -- 3
    refine value_ (v := .pointer (some ⟨g, 0, none⟩)) (w1 := W) (by rfl) rfl ?_ ?_
    · go_simp; try rfl
    exact ⟨x40, x41, x42, .pointer (some ⟨g, 0, none⟩), x44, x45, x46, x47, x48, rfl, h0, h1, h2, fun _ => rfl, h4, h5, h6, h7, h8, h9, k1, k2, k3, kc, ko, kt⟩
  · obtain rfl : ({ dst := some 44, op := Go.Op.call { callee := Go.Callee.value (Go.Operand.func 27), args := #[Go.Operand.tmp 43, Go.Operand.const (Go.Value.int Go.IntKind.i64 1)], argTypes := #[68, 3] }, type := 3, pos := "command.go:161", after := #[{ on := 3, ground := Go.Ground.data }], guard := none } : Oper) = o := Option.some.inj ho   -- 4
    obtain rfl := h3 (dep_ haft 0 rfl)
    refine goes_ Tryz.func27 (by kernel_rfl) rfl #[.pointer (some ⟨g, 0, none⟩), .int .i64 1] (by rfl) rfl rfl (by (try simp only [List.map_toArray, List.map_cons, List.map_nil]); rfl) ?_
    refine Calls.mono (number_any g b bad 1 W (k1 hLi) hs (by omega)) ?_
    rintro e W1 ⟨rfl, hr, hgr⟩
    refine ⟨_, rfl, ?_⟩
    exact ⟨x40, x41, x42, .pointer (some ⟨g, 0, none⟩), .int .i64 (numV b bad 1), x45, x46, x47, x48, rfl, h0, h1, h2, fun _ => rfl, fun _ => rfl, h5, fun hL => absurd hL (no_ hcl 6 (by rfl) 0 rfl (no_f hcl 5 (by rfl) 1 rfl hLi)), fun hL => absurd hL (no_ hcl 7 (by rfl) 2 rfl (no_f hcl 5 (by rfl) 1 rfl hLi)), h8, fun hL => absurd hL (no_ hcl 9 (by rfl) 7 rfl hLi), (fun h => Bool.noConfusion h), fun _ _ => hr, fun hL => absurd hL (no_ hcl 5 (by rfl) 1 rfl hLi), fun hL => blk_grown (kc hL) hgr (fun h => hgc (Option.some.inj h).symm), fun hL => R_tch rfl (ko hL) (Tch.of_grown hgr) (fun k a h => hkg (by rw [a, h])), kt.trans (Tch.of_grown hgr) (fun k _ h => .inl (Option.some.inj h).symm)⟩
  · obtain rfl : ({ dst := some 45, op := Go.Op.call { callee := Go.Callee.value (Go.Operand.func 28), args := #[Go.Operand.tmp 42, Go.Operand.tmp 44], argTypes := #[68, 3] }, type := 9, pos := "command.go:161", after := #[{ on := 2, ground := Go.Ground.data }, { on := 4, ground := Go.Ground.data }, { on := 4, ground := Go.Ground.chain }], guard := none } : Oper) = o := Option.some.inj ho   -- 5
    obtain rfl := h2 (dep_ haft 0 rfl)
    obtain rfl := h4 (dep_ haft 1 rfl)
    refine goes_ Tryz.func28 (by kernel_rfl) rfl #[.pointer (some ⟨g, 0, none⟩), .int .i64 (numV b bad 1)] (by rfl) rfl rfl (by (try simp only [List.map_toArray, List.map_cons, List.map_nil]); rfl) ?_
    refine Calls.mono (take_any g (takeLeft b bad 1) (takeBad b bad 1) (numV b bad 1) W (k2 (dep_ haft 1 rfl) hLi) (Nat.le_trans (takeLeft_size _ _ _) hs) (numV_one _ _).1) ?_
    rintro e W1 ⟨rfl, hr, hgr⟩
    refine ⟨_, rfl, ?_⟩
    exact ⟨x40, x41, .pointer (some ⟨g, 0, none⟩), x43, .int .i64 (numV b bad 1), .string (takeOut (takeLeft b bad 1) (takeBad b bad 1) (numV b bad 1)), x46, x47, x48, rfl, h0, h1, fun _ => rfl, h3, fun _ => rfl, fun _ => rfl, fun hL => absurd hL (no_ hcl 6 (by rfl) 0 rfl hLi), fun hL => absurd hL (no_ hcl 7 (by rfl) 2 rfl hLi), h8, fun hL => absurd hL (no_ hcl 9 (by rfl) 8 rfl hLi), fun hL => absurd (dep_ haft 1 rfl : L 4 = true) (fun hh => Bool.noConfusion (hh.symm.trans (show L 4 = false from hL))), fun _ h => Bool.noConfusion h, fun _ => hr, fun hL => blk_grown (kc hL) hgr (fun h => hgc (Option.some.inj h).symm), fun hL => R_tch rfl (ko hL) (Tch.of_grown hgr) (fun k a h => hkg (by rw [a, h])), kt.trans (Tch.of_grown hgr) (fun k _ h => .inl (Option.some.inj h).symm)⟩
  · obtain rfl : ({ dst := some 46, op := Go.Op.buildSlice 23 1 #[(0, Go.Operand.tmp 45)], type := 23, pos := "command.go:161", after := #[{ on := 5, ground := Go.Ground.data }], guard := none } : Oper) = o := Option.some.inj ho   -- 6
    obtain rfl := h5 (dep_ haft 0 rfl)
    have al := (Below.refl W.heap.size W).alloc (Nat.le_refl _) (.cells #[.string (takeOut (takeLeft b bad 1) (takeBad b bad 1) (numV b bad 1))] 9)
    refine value_ (v := .slice (some ⟨W.heap.size, 0, none⟩) 1 1) (w1 := (W.alloc (.cells #[.string (takeOut (takeLeft b bad 1) (takeBad b bad 1) (numV b bad 1))] 9))) (by rfl) rfl ?_ ?_
    · go_simp; try rfl
    exact ⟨x40, x41, x42, x43, x44, .string (takeOut (takeLeft b bad 1) (takeBad b bad 1) (numV b bad 1)), .slice (some ⟨W.heap.size, 0, none⟩) 1 1, x47, x48, rfl, h0, h1, h2, h3, h4, fun _ => rfl, fun _ => ⟨_, rfl, kt.size, blk_new W _⟩, fun hL => absurd hL (no_ hcl 7 (by rfl) 1 rfl hLi), h8, fun hL => absurd hL (no_ hcl 9 (by rfl) 9 rfl hLi), fun hL => (k1 hL).below al, fun hL h2 => (k2 hL h2).below al, fun hL => (k3 hL).below al, fun hL => blk_below (kc hL) al, fun hL => Kd.R_below (ko hL) al, kt.trans (Tch.of_below (fun _ => False) al) (fun _ _ x => x.elim)⟩
  · obtain rfl : ({ dst := some 47, op := Go.Op.call { callee := Go.Callee.builtin Go.Builtin.append, args := #[Go.Operand.tmp 41, Go.Operand.tmp 46], argTypes := #[23, 23] }, type := 23, pos := "command.go:161", after := #[{ on := 1, ground := Go.Ground.data }, { on := 6, ground := Go.Ground.data }, { on := 5, ground := Go.Ground.chain }], guard := none } : Oper) = o := Option.some.inj ho   -- 7
    obtain e1 := h1 (dep_ haft 0 rfl)
    obtain ⟨q, rfl, hqw, hqb⟩ := h6 (dep_ haft 1 rfl)
    obtain rfl := e1.symm
    have ro := ko hLi
    obtain ⟨v1, w1, hr1, h1R, _, h1g, _⟩ := run_R_append (P := Tryz.prog) Kd.string (w0 := W) B 23 23 9 (.string ⟨#[]⟩) 16 (by kernel_rfl) info_t rfl (by decide) (by omega) kv ks [(takeOut (takeLeft b bad 1) (takeBad b bad 1) (numV b bad 1))] (some ⟨q, 0, none⟩) 1 1 (fun _ => True) (fun _ => False) ro (one_str hqb) (fun _ _ h => h) (fun _ h => h.elim) (fun _ _ => trivial) (Below.refl _ _) (Nat.le_trans hB kt.size) (by omega)
    have tg := Tch.of_grown h1g
    refine value_ (v := v1) (w1 := w1) (by rfl) rfl ?_ ?_
    · exact exec_append rfl rfl rfl hr1
    exact ⟨x40, kv, x42, x43, x44, x45, .slice (some ⟨q, 0, none⟩) 1 1, v1, x48, rfl, h0, fun _ => rfl, h2, h3, h4, h5, fun _ => ⟨q, rfl, hqw, blk_grown hqb h1g (fun h => by have := hkl q h.symm; omega)⟩, fun _ => h1R, h8, fun hL => absurd hL (no_ hcl 9 (by rfl) 1 rfl hLi), fun hL => (blk_grown (k1 hL) h1g (fun h => hkg h.symm) : RS w1 g b bad), fun hL h2 => (blk_grown (k2 hL h2) h1g (fun h => hkg h.symm) : RS w1 g _ _), fun hL => (blk_grown (k3 hL) h1g (fun h => hkg h.symm) : RS w1 g _ _), fun hL => blk_grown (kc hL) h1g (fun h => hkc h.symm), (fun h => Bool.noConfusion h), kt.trans tg (fun k _ h => .inr (.inr h))⟩
  · obtain rfl : ({ dst := some 48, op := Go.Op.fieldAddr 25 (Go.Operand.tmp 5) 4, type := 0, pos := "command.go:161", after := #[{ on := 0, ground := Go.Ground.phase }, { on := 1, ground := Go.Ground.phase }, { on := 2, ground := Go.Ground.phase }, { on := 3, ground := Go.Ground.phase }, { on := 4, ground := Go.Ground.phase }, { on := 5, ground := Go.Ground.phase }, { on := 6, ground := Go.Ground.phase }, { on := 7, ground := Go.Ground.phase }], guard := none } : Oper) = o := Option.some.inj ho   -- 8
    refine value_ (v := .pointer (some ⟨c, 4, none⟩)) (w1 := W) (by rfl) rfl ?_ ?_
    · go_simp; try rfl
    exact ⟨x40, x41, x42, x43, x44, x45, x46, x47, .pointer (some ⟨c, 4, none⟩), rfl, h0, h1, h2, h3, h4, h5, h6, h7, fun _ => rfl, h9, k1, k2, k3, kc, ko, kt⟩
  · obtain rfl : ({ dst := none, op := Go.Op.store 23 (Go.Operand.tmp 48) (Go.Operand.tmp 47), type := 0, pos := "command.go:161", after := #[{ on := 8, ground := Go.Ground.data }, { on := 7, ground := Go.Ground.data }, { on := 7, ground := Go.Ground.chain }, { on := 0, ground := Go.Ground.phase }, { on := 1, ground := Go.Ground.phase }, { on := 2, ground := Go.Ground.phase }, { on := 3, ground := Go.Ground.phase }, { on := 4, ground := Go.Ground.phase }, { on := 5, ground := Go.Ground.phase }, { on := 6, ground := Go.Ground.phase }, { on := 7, ground := Go.Ground.phase }], guard := none } : Oper) = o := Option.some.inj ho   -- 9
    obtain rfl := h8 (dep_ haft 0 rfl)
    have r7 := h7 (dep_ haft 1 rfl)
    have hb := kc hLi
    have hc' : W.cell? ⟨c, 4, none⟩ = some kv := (blk_cell hb 4).trans rfl
    have hf' : W.frozen? ⟨c, 4, none⟩ = false := blk_frozen hb 4
    obtain ⟨A8, c8, rfl, _⟩ := Kd.R_reads r7
    refine skip_ (w1 := (W.setCell ⟨c, 4, none⟩ (.slice A8 (ks ++ [(takeOut (takeLeft b bad 1) (takeBad b bad 1) (numV b bad 1))]).length c8))) (by rfl) rfl ?_ ?_
    · go_simp
    exact ⟨x40, x41, x42, x43, x44, x45, x46, .slice A8 (ks ++ [(takeOut (takeLeft b bad 1) (takeBad b bad 1) (numV b bad 1))]).length c8, .pointer (some ⟨c, 4, none⟩), rfl, h0, h1, h2, h3, h4, h5, fun hL => (h6 hL).imp fun q h => ⟨h.1, h.2.1, (Below.heap_setCell _ _ _ _ (by have := h.2.1; show q ≠ c; omega)).trans h.2.2⟩, fun _ => R_tch rfl r7 (Tch.set W _ _) (R_off r7 hb (by decide)), fun _ => rfl, fun _ => (blk_set hb 4 _).trans rfl, fun hL => (k1 hL).setO hgc, fun hL h2 => (k2 hL h2).setO hgc, fun hL => (k3 hL).setO hgc, (fun h => Bool.noConfusion h), fun hL => absurd (dep_ haft 1 rfl : L 7 = true) (fun hh => Bool.noConfusion (hh.symm.trans (show L 7 = false from hL))), kt.trans (Tch.set W _ _) (fun k _ x => .inr (.inl x))⟩
  · cases ho
theorem Ig.region {Q : Exit → Act → World → Prop} (g c : Nat) (b : ByteArray) (bad : Bool) (e : Int) (v : ByteArray) (x y : Int) (kv : Value) (ks : List ByteArray) (B : Nat) (w : World) (p0 p1 p2 p3 p6 p7 p8 p9 p10 p11 p12 p13 p14 p15 p16 p17 p18 p19 p20 p21 p22 p23 p24 p25 p26 p27 p28 p29 p30 p31 p32 p33 p34 p35 p36 p37 p38 p39 p49 p50 p51 p52 p53 p54 p55 p56 p57 p58 p59 p60 p61 p62 p63 p64 p65 p66 p67 p68 : Value) (u40 u41 u42 u43 u44 u45 u46 u47 u48 : Value) (hgc : g ≠ c) (hgl : g < w.heap.size) (hcl0 : c < w.heap.size) (hkg : kv.ownBlock ≠ some g) (hkc : kv.ownBlock ≠ some c) (hkl : ∀ k, kv.ownBlock = some k → k < w.heap.size) (hs : b.size ≤ 140737488351232) (hB : B ≤ w.heap.size) (hkn : ks.length ≤ 300) (hr : RS w g b bad) (hc0 : w.heap[c]? = some (.cells #[.int .i64 e, .string v, .int .i64 x, .int .i64 y, kv] 25 (0, 0))) (ho : Kd.R Kd.string 9 w B (fun _ => True) kv ks)
    (hQ : ∀ (W : World) (x40 x41 x42 x43 x44 x45 x46 x47 x48 : Value), RS W g (takeLeft (takeLeft b bad 1) (takeBad b bad 1) (numV b bad 1)) (takeBad (takeLeft b bad 1) (takeBad b bad 1) (numV b bad 1)) → W.heap[c]? = some (.cells #[.int .i64 e, .string v, .int .i64 x, .int .i64 y, x47] 25 (0, 0)) → Kd.R Kd.string 9 W B (fun _ => True) x47 (ks ++ [(takeOut (takeLeft b bad 1) (takeBad b bad 1) (numV b bad 1))]) → Tch (fun k => k = g ∨ k = c ∨ kv.ownBlock = some k) w W → Q .normal ⟨#[p0, p1, p2, p3, (.pointer (some ⟨g, 0, none⟩)), (.pointer (some ⟨c, 0, none⟩)), p6, p7, p8, p9, p10, p11, p12, p13, p14, p15, p16, p17, p18, p19, p20, p21, p22, p23, p24, p25, p26, p27, p28, p29, p30, p31, p32, p33, p34, p35, p36, p37, p38, p39, x40, x41, x42, x43, x44, x45, x46, x47, x48, p49, p50, p51, p52, p53, p54, p55, p56, p57, p58, p59, p60, p61, p62, p63, p64, p65, p66, p67, p68], []⟩ W) :
    (Code.region 9 (opsOf Tryz.f8 9) true).wp Tryz.prog Q ⟨#[p0, p1, p2, p3, (.pointer (some ⟨g, 0, none⟩)), (.pointer (some ⟨c, 0, none⟩)), p6, p7, p8, p9, p10, p11, p12, p13, p14, p15, p16, p17, p18, p19, p20, p21, p22, p23, p24, p25, p26, p27, p28, p29, p30, p31, p32, p33, p34, p35, p36, p37, p38, p39, u40, u41, u42, u43, u44, u45, u46, u47, u48, p49, p50, p51, p52, p53, p54, p55, p56, p57, p58, p59, p60, p61, p62, p63, p64, p65, p66, p67, p68], []⟩ w := by
  refine wp_region_inv2 (by kernel_rfl) (by kernel_rfl) (Ig g c b bad e v x y kv ks B w p0 p1 p2 p3 p6 p7 p8 p9 p10 p11 p12 p13 p14 p15 p16 p17 p18 p19 p20 p21 p22 p23 p24 p25 p26 p27 p28 p29 p30 p31 p32 p33 p34 p35 p36 p37 p38 p39 p49 p50 p51 p52 p53 p54 p55 p56 p57 p58 p59 p60 p61 p62 p63 p64 p65 p66 p67 p68) ?_ (Ig.step g c b bad e v x y kv ks B w p0 p1 p2 p3 p6 p7 p8 p9 p10 p11 p12 p13 p14 p15 p16 p17 p18 p19 p20 p21 p22 p23 p24 p25 p26 p27 p28 p29 p30 p31 p32 p33 p34 p35 p36 p37 p38 p39 p49 p50 p51 p52 p53 p54 p55 p56 p57 p58 p59 p60 p61 p62 p63 p64 p65 p66 p67 p68 hgc hgl hcl0 hkg hkc hkl hs hB hkn) ?_
  · have no : ∀ {p : Prop}, false = true → p := fun h => Bool.noConfusion h
    exact ⟨u40, u41, u42, u43, u44, u45, u46, u47, u48, rfl, no, no, no, no, no, no, no, no, no, no, fun _ => hr, fun h => Bool.noConfusion h, fun h => Bool.noConfusion h, fun _ => hc0, fun _ => Kd.R_drew ho, Tch.of_below _ (Below.refl _ _).drew⟩
  rintro L a' W hall ⟨x40, x41, x42, x43, x44, x45, x46, x47, x48, rfl, h0, h1, h2, h3, h4, h5, h6, h7, h8, h9, k1, k2, k3, kc, ko, kt⟩
  exact hQ W x40 x41 x42 x43 x44 x45 x46 x47 x48 (k3 (hall 5 (by decide))) (h9 (hall 9 (by decide))) (h7 (hall 7 (by decide))) kt
end Go.Proofs.YtbfdaclekjgkfaaGreatDoor.Bk

/- The reply of bytes, by the program. -/
set_option linter.unusedVariables false
namespace Go.Proofs.YtbfdaclekjgkfaaGreatDoor.Bk
open Go.RowKit Go.Proofs.YtbfdaclekjgkfaaGreatDoor Go.Proofs.YtbfdaclekjgkfaaGreatDoorW.PrintWords Go.Proofs.YtbfdaclekjgkfaaGreatDoorW.PrintLast

/-- GetReply's state: the reader at g, the reply at c with its keys' row, the result's block ahead of all. -/
structure GR (w W : World) (g c : Nat) (b : ByteArray) (bad : Bool) (e : Int) (v : ByteArray) (x y : Int) (kv : Value) (ks : List ByteArray) : Prop where
  rs : RS W g b bad
  cb : W.heap[c]? = some (.cells #[.int .i64 e, .string v, .int .i64 x, .int .i64 y, kv] 25 (0, 0))
  rb : W.heap[w.heap.size]? = some (.cells #[.int .i64 0, .string ⟨#[]⟩, .int .i64 0, .int .i64 0, .slice none 0 0] 25 (0, 0))
  kr : Kd.R Kd.string 9 W w.heap.size (fun _ => True) kv ks
  bel : Below w.heap.size w W
  hg : w.heap.size < g
  hc : g < c

section
variable {w W W' : World} {g c : Nat} {b b' : ByteArray} {bad bad' : Bool} {e : Int} {v : ByteArray} {x y : Int} {kv : Value} {ks : List ByteArray}
theorem GR.offg (h : GR w W g c b bad e v x y kv ks) : ∀ k, kv.ownBlock = some k → ¬ k = g := R_off h.kr (show W.heap[g]? = some (.cells #[.string b, .bool bad] 70 (0, 0)) from h.rs) (by decide)
theorem GR.offc (h : GR w W g c b bad e v x y kv ks) : ∀ k, kv.ownBlock = some k → ¬ k = c := R_off h.kr h.cb (by decide)
theorem GR.grown (h : GR w W g c b bad e v x y kv ks) (hr : RS W' g b' bad') (hgr : W.grownBy W' (some g)) : GR w W' g c b' bad' e v x y kv ks :=
  have h1 := h.hg
  have h2 := h.hc
  ⟨hr, blk_grown h.cb hgr (by simp; omega), blk_grown h.rb hgr (by simp; omega), R_tch rfl h.kr (Tch.of_grown hgr) (fun k a z => h.offg k a (Option.some.inj z).symm), h.bel.grown hgr h.bel.size (fun q hq => by cases hq; omega), h.hg, h.hc⟩
theorem GR.below (h : GR w W g c b bad e v x y kv ks) (hb : Below W.heap.size W W') : GR w W' g c b bad e v x y kv ks := h.grown (h.rs.below hb) (grown_below hb _)
theorem GR.cellset (h : GR w W g c b bad e v x y kv ks) (o : Nat) (u : Value) {e' : Int} {v' : ByteArray} {x' y' : Int} (hc' : (#[Value.int .i64 e, .string v, .int .i64 x, .int .i64 y, kv] : Array Value).setIfInBounds o u = #[.int .i64 e', .string v', .int .i64 x', .int .i64 y', kv]) :
    GR w (W.setCell ⟨c, o, none⟩ u) g c b bad e' v' x' y' kv ks := by
  have h1 := h.hg
  have h2 := h.hc
  refine ⟨h.rs.setO (by omega), (blk_set h.cb o u).trans (by rw [hc']), (Below.heap_setCell _ _ _ _ (by show w.heap.size ≠ c; omega)).trans h.rb, R_tch rfl h.kr (Tch.set W _ _) (fun k a z => h.offc k a z), h.bel.setCell (by show w.heap.size ≤ c; omega) _, h1, h2⟩
theorem GR.setv (h : GR w W g c b bad e v x y kv ks) (u : ByteArray) : GR w (W.setCell ⟨c, 1, none⟩ (.string u)) g c b bad e u x y kv ks := h.cellset 1 _ rfl
theorem GR.setx (h : GR w W g c b bad e v x y kv ks) (u : Int) : GR w (W.setCell ⟨c, 2, none⟩ (.int .i64 u)) g c b bad e v u y kv ks := h.cellset 2 _ rfl
theorem GR.sety (h : GR w W g c b bad e v x y kv ks) (u : Int) : GR w (W.setCell ⟨c, 3, none⟩ (.int .i64 u)) g c b bad e v x u kv ks := h.cellset 3 _ rfl
theorem GR.cells (h : GR w W g c b bad e v x y kv ks) : (W.cell? ⟨c, 0, none⟩ = some (.int .i64 e) ∧ W.cell? ⟨c, 1, none⟩ = some (.string v) ∧ W.cell? ⟨c, 2, none⟩ = some (.int .i64 x) ∧ W.cell? ⟨c, 3, none⟩ = some (.int .i64 y) ∧ W.cell? ⟨c, 4, none⟩ = some kv) ∧ (∀ o, W.frozen? ⟨c, o, none⟩ = false) :=
  ⟨⟨(blk_cell h.cb 0).trans rfl, (blk_cell h.cb 1).trans rfl, (blk_cell h.cb 2).trans rfl, (blk_cell h.cb 3).trans rfl, (blk_cell h.cb 4).trans rfl⟩, fun o => blk_frozen h.cb o⟩
end

/-- The keys that n lengths tell. -/
def keysR : Nat → ByteArray → Bool → List ByteArray → List ByteArray × Bool
  | 0, _, bad, ks => (ks, bad)
  | n + 1, b, bad, ks => if bad = true then (ks, bad) else
    keysR n (takeLeft (takeLeft b bad 1) (takeBad b bad 1) (numV b bad 1)) (takeBad (takeLeft b bad 1) (takeBad b bad 1) (numV b bad 1)) (ks ++ [takeOut (takeLeft b bad 1) (takeBad b bad 1) (numV b bad 1)])
theorem keysR_bad (n : Nat) (b : ByteArray) (ks : List ByteArray) : keysR n b true ks = (ks, true) := by
  cases n with
  | zero => rfl
  | succ n => rw [keysR, if_pos rfl]

structure GotR where
  e : Int
  v : ByteArray
  a : Int
  b : Int
  ks : List ByteArray
  bad : Bool
def gotR (s : ByteArray) : GotR :=
  let b1 := takeLeft s false 1; let d1 := takeBad s false 1
  let b2 := takeLeft b1 d1 8; let d2 := takeBad b1 d1 8
  let b3 := takeLeft b2 d2 8; let d3 := takeBad b2 d2 8
  let n := numV b3 d3 2
  let b4 := takeLeft b3 d3 2; let d4 := takeBad b3 d3 2
  let b5 := takeLeft b4 d4 n; let d5 := takeBad b4 d4 n
  let m := numV b5 d5 1
  let b6 := takeLeft b5 d5 1; let d6 := takeBad b5 d5 1
  let k := keysR m.toNat b6 d6 []
  ⟨numV s false 1, takeOut b4 d4 n, wrap64 (numV b1 d1 8 - 1000000000000), numV b2 d2 8, k.1, k.2⟩
def repOk (s : ByteArray) (r : GotR) : Bool := !r.bad && (decide (RepP r.e r.v r.a r.b r.ks) && ((repS r.e r.v r.a r.b r.ks).toList == s.toList))
/-- What GetReply leaves. -/
def GetRE (s : ByteArray) (w : World) (e : Ending) (w' : World) : Prop :=
  if repOk s (gotR s) = true then ∃ A c, e = .returned (.tuple #[.agg #[.int .i64 (gotR s).e, .string (gotR s).v, .int .i64 (gotR s).a, .int .i64 (gotR s).b, .slice A (gotR s).ks.length c], .bool true]) ∧ Kd.R Kd.string 9 w' w.heap.size (fun _ => True) (.slice A (gotR s).ks.length c) (gotR s).ks ∧ Below w.heap.size w w'
  else e = .returned (.tuple #[.agg #[.int .i64 0, .string ⟨#[]⟩, .int .i64 0, .int .i64 0, .slice none 0 0], .bool false]) ∧ Below w.heap.size w w'

theorem numV_two (b : ByteArray) (bad : Bool) : 0 ≤ numV b bad 2 ∧ numV b bad 2 ≤ 65535 := by
  have h := bigL_lt ((takeOut b bad 2).data.toList.drop ((takeOut b bad 2).size - 8))
  have hl : ((takeOut b bad 2).data.toList.drop ((takeOut b bad 2).size - 8)).length ≤ 2 := by
    rw [List.length_drop, ← Lib.size_eq]
    unfold takeOut
    split
    · simp; omega
    · exact Nat.zero_le _
  have h2 := Nat.lt_of_lt_of_le h (Nat.pow_le_pow_right (by decide) hl)
  unfold numV wrap64
  omega

theorem GR.start {w w1 : World} {g : Nat} {b : ByteArray} {bad : Bool} {e : Int} (hr : RS w1 g b bad) (hrb : w1.heap[w.heap.size]? = some (.cells #[.int .i64 0, .string ⟨#[]⟩, .int .i64 0, .int .i64 0, .slice none 0 0] 25 (0, 0))) (hbel : Below w.heap.size w w1) (hg : w.heap.size < g) :
    GR w (w1.alloc (.cells #[.int .i64 e, .string ⟨#[]⟩, .int .i64 0, .int .i64 0, .slice none 0 0] 25)) g w1.heap.size b bad e ⟨#[]⟩ 0 0 (.slice none 0 0) [] :=
  ⟨(Below.heap_alloc _ _ _ hr.lt).trans hr, heap_alloc_new w1 _, blk_alloc hrb _, Kd.R_nil _ _ _ _ _, hbel.alloc hbel.size _, hg, hr.lt⟩

/-- A whole reply stored into a block, cell by cell. -/
def put5R (W : World) (R : Nat) (e : Int) (v : ByteArray) (a b : Int) (kv : Value) : World :=
  ((((W.setCell ⟨R, 0, none⟩ (.int .i64 e)).setCell ⟨R, 1, none⟩ (.string v)).setCell ⟨R, 2, none⟩ (.int .i64 a)).setCell ⟨R, 3, none⟩ (.int .i64 b)).setCell ⟨R, 4, none⟩ kv
theorem put5R_blk {W : World} {R t : Nat} {z0 z1 z2 z3 z4 : Value} (h : W.heap[R]? = some (.cells #[z0, z1, z2, z3, z4] t (0, 0))) (e : Int) (v : ByteArray) (a b : Int) (kv : Value) :
    (put5R W R e v a b kv).heap[R]? = some (.cells #[.int .i64 e, .string v, .int .i64 a, .int .i64 b, kv] t (0, 0)) :=
  (blk_set (blk_set (blk_set (blk_set (blk_set h 0 (.int .i64 e)) 1 (.string v)) 2 (.int .i64 a)) 3 (.int .i64 b)) 4 kv).trans rfl
theorem blk5_cells {W : World} {R t : Nat} {z0 z1 z2 z3 z4 : Value} (h : W.heap[R]? = some (.cells #[z0, z1, z2, z3, z4] t (0, 0))) :
    W.cell? ⟨R, 0, none⟩ = some z0 ∧ W.cell? ⟨R, 1, none⟩ = some z1 ∧ W.cell? ⟨R, 2, none⟩ = some z2 ∧ W.cell? ⟨R, 3, none⟩ = some z3 ∧ W.cell? ⟨R, 4, none⟩ = some z4 :=
  ⟨(blk_cell h 0).trans rfl, (blk_cell h 1).trans rfl, (blk_cell h 2).trans rfl, (blk_cell h 3).trans rfl, (blk_cell h 4).trans rfl⟩
theorem put5R_tch (W : World) (R : Nat) (e : Int) (v : ByteArray) (a b : Int) (kv : Value) : Tch (fun k => k = R) W (put5R W R e v a b kv) := by
  unfold put5R
  have t : ∀ (X : World) (o : Nat) (u : Value), Tch (fun k => k = R) X (X.setCell ⟨R, o, none⟩ u) := fun X o u => Tch.set X ⟨R, o, none⟩ u
  exact ((((t _ 0 _).trans (t _ 1 _) (fun _ _ h => h)).trans (t _ 2 _) (fun _ _ h => h)).trans (t _ 3 _) (fun _ _ h => h)).trans (t _ 4 _) (fun _ _ h => h)

/-- The loop's rounds. -/
structure LoopR (w : World) (g c : Nat) (e : Int) (v : ByteArray) (x y : Int) (F : List ByteArray × Bool) (m : Nat) (b : ByteArray) (bad : Bool) (kv : Value) (ks : List ByteArray) (W : World) : Prop where
  le : m + ks.length ≤ 255
  sz : b.size ≤ 140737488351232
  fin : keysR m b bad ks = F
  st : GR w W g c b bad e v x y kv ks
def LoopW (w : World) (g c : Nat) (e : Int) (v : ByteArray) (x y : Int) (F : List ByteArray × Bool) (m : Nat) (W : World) : Prop := ∃ b bad kv ks, LoopR w g c e v x y F m b bad kv ks W

theorem LoopR.next {w W W' : World} {g c : Nat} {e : Int} {v : ByteArray} {x y : Int} {F : List ByteArray × Bool} {m : Nat} {b : ByteArray} {kv kv' : Value} {ks : List ByteArray} (h : LoopR w g c e v x y F (m + 1) b false kv ks W)
    (hr : RS W' g (takeLeft (takeLeft b false 1) (takeBad b false 1) (numV b false 1)) (takeBad (takeLeft b false 1) (takeBad b false 1) (numV b false 1)))
    (hc : W'.heap[c]? = some (.cells #[.int .i64 e, .string v, .int .i64 x, .int .i64 y, kv'] 25 (0, 0)))
    (hk : Kd.R Kd.string 9 W' w.heap.size (fun _ => True) kv' (ks ++ [takeOut (takeLeft b false 1) (takeBad b false 1) (numV b false 1)])) (t : Tch (fun k => k = g ∨ k = c ∨ kv.ownBlock = some k) W W') : LoopW w g c e v x y F m W' := by
  have h1 := h.st.hg
  have h2 := h.st.hc
  refine ⟨_, _, kv', _, by have := h.le; rw [List.length_append, List.length_singleton]; omega, Nat.le_trans (takeLeft_size _ _ _) (Nat.le_trans (takeLeft_size _ _ _) h.sz), ?_, hr, hc, ?_, hk, ?_, h1, h2⟩
  · have := h.fin
    rw [keysR, if_neg (by decide)] at this
    exact this
  · have hlt := blk_lt h.st.rb
    refine (t.block w.heap.size hlt ?_).trans h.st.rb
    rintro (z | z | z)
    · omega
    · omega
    · exact R_off h.st.kr h.st.rb (by decide) _ z rfl
  · refine t.below h.st.bel h.st.bel.size ?_
    rintro k (z | z | z)
    · omega
    · omega
    · exact Kd.R_base h.st.kr k z

theorem getRE_no {s : ByteArray} {w w' : World} (h : repOk s (gotR s) = false) (hb : Below w.heap.size w w') : GetRE s w (.returned (.tuple #[.agg #[.int .i64 0, .string ⟨#[]⟩, .int .i64 0, .int .i64 0, .slice none 0 0], .bool false])) w' := by
  unfold GetRE
  rw [if_neg (by rw [h]; decide)]
  exact ⟨rfl, hb⟩
theorem getRE_yes {s : ByteArray} {w w' : World} {e : Int} {v : ByteArray} {a b : Int} {ks : List ByteArray} {A : Option Addr} {c : Nat} {bad : Bool} (hg : gotR s = ⟨e, v, a, b, ks, bad⟩) (h : repOk s (gotR s) = true) (hk : Kd.R Kd.string 9 w' w.heap.size (fun _ => True) (.slice A ks.length c) ks) (hb : Below w.heap.size w w') :
    GetRE s w (.returned (.tuple #[.agg #[.int .i64 e, .string v, .int .i64 a, .int .i64 b, .slice A ks.length c], .bool true])) w' := by
  unfold GetRE
  rw [if_pos h, hg]
  exact ⟨A, c, rfl, hk, hb⟩

set_option maxRecDepth 100000 in
set_option maxHeartbeats 3200000 in
theorem getReply_any (s : ByteArray) (w : World) (hs : s.size ≤ 140737488351232) :
    Calls Tryz.prog 8 #[.string s] w (GetRE s w) := by
  go_enter Tryz.func8, Tryz.ntmps8
  go_wp2_with fail
  refine (number_any (w.heap.size + 1) s false 1 _ (RS.two _ _ _) hs (by omega)).mono ?_
  rintro e w1 ⟨rfl, hr, hg⟩
  have G0 := Lib.hid (GR.start (w := w) (e := numV s false 1) hr ((hg.block _ (by simp; omega) (by simp)).trans (alloc_two _ _ _)) ((((Below.refl _ w).alloc (Nat.le_refl _) _).alloc (by simp) _).grown hg (by simp; omega) (by simp)) (by omega))
  clear hr hg
  have hs1 := Nat.le_trans (takeLeft_size s false 1) hs
  obtain ⟨b1, hb1⟩ : ∃ x, x = takeLeft s false 1 := ⟨_, rfl⟩
  obtain ⟨d1, hd1⟩ : ∃ x, x = takeBad s false 1 := ⟨_, rfl⟩
  obtain ⟨op, hop⟩ : ∃ x, x = numV s false 1 := ⟨_, rfl⟩
  rw [← hb1] at hs1
  rw [← hb1, ← hd1, ← hop] at G0
  rw [← hop]
  have HB1 := Lib.hid hb1; have HD1 := Lib.hid hd1; have HOP := Lib.hid hop
  clear hb1 hd1 hop
  go_wp2_with fail
  refine (number_any _ _ _ 8 _ G0.out.rs hs1 (by omega)).mono ?_
  rintro e w2 ⟨rfl, hr, hg⟩
  have G1 := Lib.hid (G0.out.grown hr hg)
  clear hr hg
  have hs2 := Nat.le_trans (takeLeft_size b1 d1 8) hs1
  obtain ⟨b2, hb2⟩ : ∃ x, x = takeLeft b1 d1 8 := ⟨_, rfl⟩
  obtain ⟨d2, hd2⟩ : ∃ x, x = takeBad b1 d1 8 := ⟨_, rfl⟩
  obtain ⟨n8, hn8⟩ : ∃ x, x = numV b1 d1 8 := ⟨_, rfl⟩
  rw [← hb2] at hs2
  rw [← hb2, ← hd2] at G1
  rw [← hn8]
  have HB2 := Lib.hid hb2; have HD2 := Lib.hid hd2; have HN8 := Lib.hid hn8
  clear hb2 hd2 hn8
  obtain ⟨⟨c0, c1, c2, c3, c4⟩, cf⟩ := G1.out.cells
  go_wp2_with fail
  clear c0 c1 c2 c3 c4 cf
  have G2 := Lib.hid (G1.out.setx (wrap64 (n8 - 1000000000000)))
  refine (number_any _ _ _ 8 _ G2.out.rs hs2 (by omega)).mono ?_
  rintro e w3 ⟨rfl, hr, hg⟩
  have G3 := Lib.hid (G2.out.grown hr hg)
  clear hr hg
  have hs3 := Nat.le_trans (takeLeft_size b2 d2 8) hs2
  obtain ⟨b3, hb3⟩ : ∃ x, x = takeLeft b2 d2 8 := ⟨_, rfl⟩
  obtain ⟨d3, hd3⟩ : ∃ x, x = takeBad b2 d2 8 := ⟨_, rfl⟩
  obtain ⟨ver, hver⟩ : ∃ x, x = numV b2 d2 8 := ⟨_, rfl⟩
  rw [← hb3] at hs3
  rw [← hb3, ← hd3] at G3
  rw [← hver]
  have HB3 := Lib.hid hb3; have HD3 := Lib.hid hd3; have HVER := Lib.hid hver
  clear hb3 hd3 hver
  obtain ⟨⟨c0, c1, c2, c3, c4⟩, cf⟩ := G3.out.cells
  go_wp2_with fail
  clear c0 c1 c2 c3 c4 cf
  have G4 := Lib.hid (G3.out.sety ver)
  refine (number_any _ _ _ 2 _ G4.out.rs hs3 (by omega)).mono ?_
  rintro e w4 ⟨rfl, hr, hg⟩
  have G5 := Lib.hid (G4.out.grown hr hg)
  clear hr hg
  have hs4 := Nat.le_trans (takeLeft_size b3 d3 2) hs3
  have hkl := numV_two b3 d3
  obtain ⟨b4, hb4⟩ : ∃ x, x = takeLeft b3 d3 2 := ⟨_, rfl⟩
  obtain ⟨d4, hd4⟩ : ∃ x, x = takeBad b3 d3 2 := ⟨_, rfl⟩
  obtain ⟨kl, hkl'⟩ : ∃ x, x = numV b3 d3 2 := ⟨_, rfl⟩
  rw [← hb4] at hs4
  rw [← hkl'] at hkl
  rw [← hb4, ← hd4] at G5
  rw [← hkl']
  have HB4 := Lib.hid hb4; have HD4 := Lib.hid hd4; have HKL := Lib.hid hkl'
  clear hb4 hd4 hkl'
  obtain ⟨hkl0, hkl1⟩ := hkl
  go_wp2_with fail
  refine (take_any _ _ _ kl _ G5.out.rs hs4 hkl0).mono ?_
  rintro e w5 ⟨rfl, hr, hg⟩
  have G6 := Lib.hid (G5.out.grown hr hg)
  clear hr hg
  have hs5 := Nat.le_trans (takeLeft_size b4 d4 kl) hs4
  obtain ⟨b5, hb5⟩ : ∃ x, x = takeLeft b4 d4 kl := ⟨_, rfl⟩
  obtain ⟨d5, hd5⟩ : ∃ x, x = takeBad b4 d4 kl := ⟨_, rfl⟩
  obtain ⟨val, hval⟩ : ∃ x, x = takeOut b4 d4 kl := ⟨_, rfl⟩
  rw [← hb5] at hs5
  rw [← hb5, ← hd5] at G6
  rw [← hval]
  have HB5 := Lib.hid hb5; have HD5 := Lib.hid hd5; have HVAL := Lib.hid hval
  clear hb5 hd5 hval
  have G7 := Lib.hid (G6.out.setv val)
  obtain ⟨⟨c0, c1, c2, c3, c4⟩, cf⟩ := G6.out.cells
  go_wp2_with fail
  clear c0 c1 c2 c3 c4 cf
  refine (number_any _ _ _ 1 _ G7.out.rs hs5 (by omega)).mono ?_
  rintro e w6 ⟨rfl, hr, hg⟩
  have G8 := Lib.hid (G7.out.grown hr hg)
  clear hr hg
  have hs6 := Nat.le_trans (takeLeft_size b5 d5 1) hs5
  have hm := numV_one b5 d5
  obtain ⟨b6, hb6⟩ : ∃ x, x = takeLeft b5 d5 1 := ⟨_, rfl⟩
  obtain ⟨d6, hd6⟩ : ∃ x, x = takeBad b5 d5 1 := ⟨_, rfl⟩
  obtain ⟨mm, hmm'⟩ := Int.eq_ofNat_of_zero_le hm.1
  have hmm := hmm'.symm
  clear hmm'
  rw [← hb6] at hs6
  rw [← hmm] at hm
  rw [← hb6, ← hd6] at G8
  rw [← hmm]
  have HB6 := Lib.hid hb6; have HD6 := Lib.hid hd6; have HMM := Lib.hid hmm
  clear hb6 hd6 hmm
  obtain ⟨num, hnum⟩ : ∃ x, x = wrap64 (n8 - 1000000000000) := ⟨_, rfl⟩
  rw [← hnum] at G8
  have HGOT : Hid (gotR s = ⟨op, val, num, ver, (keysR mm b6 d6 []).1, (keysR mm b6 d6 []).2⟩) := Lib.hid (by
    have hmt : mm = (numV b5 d5 1).toNat := by rw [← HMM.out]; exact (Int.toNat_natCast mm).symm
    rw [hmt, hnum, HD6.out, HB6.out, HVAL.out, HD5.out, HB5.out, HKL.out, HD4.out, HB4.out, HVER.out, HD3.out, HB3.out, HN8.out, HD2.out, HB2.out, HOP.out, HD1.out, HB1.out]
    rfl)
  clear hnum HB1 HD1 HOP HB2 HD2 HN8 HB3 HD3 HVER HB4 HD4 HKL HB5 HD5 HVAL HB6 HD6 HMM G0 G1 G2 G3 G4 G5 G6 G7
  obtain ⟨F, hF⟩ : ∃ F, F = keysR mm b6 d6 [] := ⟨_, rfl⟩
  rw [← hF] at HGOT
  have HL0 : Hid (LoopW w (w.heap.size + 1) w1.heap.size op val num ver F mm w6) := Lib.hid ⟨b6, d6, _, [], by have := hm.2; simp; omega, hs6, hF.symm, G8.out⟩
  clear G8 hF
  go_wp2
  go_loopw [6] (fun nn W => ∃ m : Nat, nn = .int .i64 m ∧ LoopW w (w.heap.size + 1) w1.heap.size op val num ver F m W) (fun nn _ => (intOf nn).toNat)
  case atStart => exact ⟨mm, rfl, HL0.out⟩
  case round =>
    clear HL0
    obtain ⟨m, rfl, b, bad, kv, ks, hL⟩ := hrel
    have r1 := hL.st.rs.c1
    by_cases hstop : m = 0 ∨ bad = true
    · have hfin : F = (ks, bad) := by
        rw [← hL.fin]
        rcases hstop with rfl | rfl
        · rfl
        · exact keysR_bad m b ks
      have hok := HGOT.out
      rw [hfin] at hok
      have HOK := Lib.hid hok
      obtain ⟨A, ck, rfl, hck, hC⟩ := Kd.R_reads hL.st.kr
      have HS := Lib.hid hL.st
      have HCK := Lib.hid hC
      obtain ⟨⟨c0, c1, c2, c3, c4⟩, cf⟩ := hL.st.cells
      have hput : ∃ r1 r2, command_PutReply.f op val num ver ks = some (r1, r2) ∧ (r2 && (r1.toList == s.toList)) = (decide (RepP op val num ver ks) && ((repS op val num ver ks).toList == s.toList)) := by
        unfold command_PutReply.f
        by_cases hR : RepP op val num ver ks
        · exact ⟨_, true, by rw [if_pos hR], by rw [decide_eq_true hR]⟩
        · exact ⟨_, false, by rw [if_neg hR], by rw [decide_eq_false hR]; rfl⟩
      obtain ⟨again, is, hp1, hp2⟩ := hput
      have HP1 := Lib.hid hp1
      have HP2 := Lib.hid hp2
      clear hp1 hp2 hfin hok hC hL
      have hstop2 : m = 0 ∨ (0 < m ∧ bad = true) := by
        rcases Nat.eq_zero_or_pos m with h | h
        · exact .inl h
        · exact .inr ⟨h, hstop.resolve_left (by omega)⟩
      clear hstop
      rcases hstop2 with rfl | ⟨hpos, rfl⟩
      · cases bad
        · try have hlt : decide ((0 : Int) < (m : Int)) = true := decide_eq_true (by omega)
          go_wp2_with fail
          refine (command_PutReply.calls op val num ver A ck ks again is _ HCK.out hck HP1.out).mono ?_
          rintro e w7 ⟨rfl, hb⟩
          have HS7 := Lib.hid (HS.out.below hb)
          clear hb c0 c1 c2 c3 c4 cf r1
          have r1 := HS7.out.rs.c1
          obtain ⟨⟨c0, c1, c2, c3, c4⟩, cf⟩ := HS7.out.cells
          have f0 := blk_frozen HS7.out.rb
          obtain ⟨y0, y1, y2, y3, y4⟩ := blk5_cells HS7.out.rb
          have bp := put5R_blk HS7.out.rb op val num ver (.slice A ks.length ck)
          have bq := put5R_blk HS7.out.rb 0 ⟨#[]⟩ 0 0 (.slice none 0 0)
          have tp := put5R_tch w7 w.heap.size op val num ver (.slice A ks.length ck)
          have tq := put5R_tch w7 w.heap.size 0 ⟨#[]⟩ 0 0 (.slice none 0 0)
          have kp := R_tch rfl HS7.out.kr tp (R_off HS7.out.kr HS7.out.rb (by decide))
          have belp := tp.below HS7.out.bel HS7.out.bel.size (fun k h => by omega)
          have belq := tq.below HS7.out.bel HS7.out.bel.size (fun k h => by omega)
          have pa := blk5_cells bp
          have qa := blk5_cells bq
          unfold put5R at pa qa kp belp belq
          have P := Lib.hid pa
          have Q := Lib.hid qa
          have HKP := Lib.hid kp
          have HBP := Lib.hid belp
          have HBQ := Lib.hid belq
          clear bp bq tp tq kp belp belq pa qa
          have hw7 := blk_lt HS7.out.rb
          have hgf : repOk s (gotR s) = (is && (again.toList == s.toList)) := by rw [HOK.out, HP2.out]; rfl
          cases is with
          | false =>
            have HGF := Lib.hid (hgf.trans (Bool.false_and _))
            clear hgf
            go_wp2
            obtain ⟨q0, q1, q2, q3, q4⟩ := Q.out
            refine bodyPost_ret (v := .tuple #[.agg #[.int .i64 0, .string ⟨#[]⟩, .int .i64 0, .int .i64 0, .slice none 0 0], .bool false]) (by simp [results, Tryz.results8, go_sem, q0, q1, q2, q3, q4]) rfl ?_
            exact getRE_no HGF.out HBQ.out
          | true =>
            rw [Bool.true_and] at hgf
            cases heq : (again.toList == s.toList) with
            | false =>
              have hne : (!(again.toList == s.toList)) = true := by rw [heq]; rfl
              have HGF := Lib.hid (hgf.trans heq)
              clear hgf heq
              go_wp2
              obtain ⟨q0, q1, q2, q3, q4⟩ := Q.out
              refine bodyPost_ret (v := .tuple #[.agg #[.int .i64 0, .string ⟨#[]⟩, .int .i64 0, .int .i64 0, .slice none 0 0], .bool false]) (by simp [results, Tryz.results8, go_sem, q0, q1, q2, q3, q4]) rfl ?_
              exact getRE_no HGF.out HBQ.out
            | true =>
              have hne : (!(again.toList == s.toList)) = false := by rw [heq]; rfl
              have HGF := Lib.hid (hgf.trans heq)
              clear hgf heq
              go_wp2
              obtain ⟨p0, p1, p2, p3, p4⟩ := P.out
              refine bodyPost_ret (v := .tuple #[.agg #[.int .i64 op, .string val, .int .i64 num, .int .i64 ver, .slice A ks.length ck], .bool true]) (by simp [results, Tryz.results8, go_sem, p0, p1, p2, p3, p4]) rfl ?_
              exact getRE_yes HOK.out HGF.out HKP.out HBP.out
        · try have hlt : decide ((0 : Int) < (m : Int)) = true := decide_eq_true (by omega)
          go_wp2_with fail
          refine (command_PutReply.calls op val num ver A ck ks again is _ HCK.out hck HP1.out).mono ?_
          rintro e w7 ⟨rfl, hb⟩
          have HS7 := Lib.hid (HS.out.below hb)
          clear hb c0 c1 c2 c3 c4 cf r1
          have r1 := HS7.out.rs.c1
          obtain ⟨⟨c0, c1, c2, c3, c4⟩, cf⟩ := HS7.out.cells
          have f0 := blk_frozen HS7.out.rb
          obtain ⟨y0, y1, y2, y3, y4⟩ := blk5_cells HS7.out.rb
          have bp := put5R_blk HS7.out.rb op val num ver (.slice A ks.length ck)
          have bq := put5R_blk HS7.out.rb 0 ⟨#[]⟩ 0 0 (.slice none 0 0)
          have tp := put5R_tch w7 w.heap.size op val num ver (.slice A ks.length ck)
          have tq := put5R_tch w7 w.heap.size 0 ⟨#[]⟩ 0 0 (.slice none 0 0)
          have kp := R_tch rfl HS7.out.kr tp (R_off HS7.out.kr HS7.out.rb (by decide))
          have belp := tp.below HS7.out.bel HS7.out.bel.size (fun k h => by omega)
          have belq := tq.below HS7.out.bel HS7.out.bel.size (fun k h => by omega)
          have pa := blk5_cells bp
          have qa := blk5_cells bq
          unfold put5R at pa qa kp belp belq
          have P := Lib.hid pa
          have Q := Lib.hid qa
          have HKP := Lib.hid kp
          have HBP := Lib.hid belp
          have HBQ := Lib.hid belq
          clear bp bq tp tq kp belp belq pa qa
          have hw7 := blk_lt HS7.out.rb
          have hgf : repOk s (gotR s) = false := by rw [HOK.out]; rfl
          have HGF := Lib.hid hgf
          clear hgf
          go_wp2
          obtain ⟨q0, q1, q2, q3, q4⟩ := Q.out
          refine bodyPost_ret (v := .tuple #[.agg #[.int .i64 0, .string ⟨#[]⟩, .int .i64 0, .int .i64 0, .slice none 0 0], .bool false]) (by simp [results, Tryz.results8, go_sem, q0, q1, q2, q3, q4]) rfl ?_
          exact getRE_no HGF.out HBQ.out
      · try have hlt : decide ((0 : Int) < (m : Int)) = true := decide_eq_true (by omega)
        go_wp2_with fail
        refine (command_PutReply.calls op val num ver A ck ks again is _ HCK.out hck HP1.out).mono ?_
        rintro e w7 ⟨rfl, hb⟩
        have HS7 := Lib.hid (HS.out.below hb)
        clear hb c0 c1 c2 c3 c4 cf r1
        have r1 := HS7.out.rs.c1
        obtain ⟨⟨c0, c1, c2, c3, c4⟩, cf⟩ := HS7.out.cells
        have f0 := blk_frozen HS7.out.rb
        obtain ⟨y0, y1, y2, y3, y4⟩ := blk5_cells HS7.out.rb
        have bp := put5R_blk HS7.out.rb op val num ver (.slice A ks.length ck)
        have bq := put5R_blk HS7.out.rb 0 ⟨#[]⟩ 0 0 (.slice none 0 0)
        have tp := put5R_tch w7 w.heap.size op val num ver (.slice A ks.length ck)
        have tq := put5R_tch w7 w.heap.size 0 ⟨#[]⟩ 0 0 (.slice none 0 0)
        have kp := R_tch rfl HS7.out.kr tp (R_off HS7.out.kr HS7.out.rb (by decide))
        have belp := tp.below HS7.out.bel HS7.out.bel.size (fun k h => by omega)
        have belq := tq.below HS7.out.bel HS7.out.bel.size (fun k h => by omega)
        have pa := blk5_cells bp
        have qa := blk5_cells bq
        unfold put5R at pa qa kp belp belq
        have P := Lib.hid pa
        have Q := Lib.hid qa
        have HKP := Lib.hid kp
        have HBP := Lib.hid belp
        have HBQ := Lib.hid belq
        clear bp bq tp tq kp belp belq pa qa
        have hw7 := blk_lt HS7.out.rb
        have hgf : repOk s (gotR s) = false := by rw [HOK.out]; rfl
        have HGF := Lib.hid hgf
        clear hgf
        go_wp2
        obtain ⟨q0, q1, q2, q3, q4⟩ := Q.out
        refine bodyPost_ret (v := .tuple #[.agg #[.int .i64 0, .string ⟨#[]⟩, .int .i64 0, .int .i64 0, .slice none 0 0], .bool false]) (by simp [results, Tryz.results8, go_sem, q0, q1, q2, q3, q4]) rfl ?_
        exact getRE_no HGF.out HBQ.out
    · obtain ⟨m, rfl⟩ : ∃ m', m = m' + 1 := ⟨m - 1, by omega⟩
      obtain rfl : bad = false := by cases bad <;> simp_all
      clear hstop
      have hlt : decide ((0 : Int) < ((m + 1 : Nat) : Int)) = true := decide_eq_true (by omega)
      have HL := Lib.hid hL
      clear hL
      go_wp2_with fail
      have h1 := HL.out.st.hg
      have h2 := HL.out.st.hc
      have hle := HL.out.le
      refine Ig.region (w.heap.size + 1) w1.heap.size b false op val num ver kv ks w.heap.size wr _ _ _ _ _ _ _ _ _ _ _ _ _ _ _ _ _ _ _ _ _ _ _ _ _ _ _ _ _ _ _ _ _ _ _ _ _ _ _ _ _ _ _ _ _ _ _ _ _ _ _ _ _ _ _ _ _ _ _ _ _ _ _ _ _ _ _ (by omega) HL.out.st.rs.lt (blk_lt HL.out.st.cb) (fun h => HL.out.st.offg _ h rfl) (fun h => HL.out.st.offc _ h rfl) (Kd.R_lt HL.out.st.kr) HL.out.sz HL.out.st.bel.size (by omega) HL.out.st.rs HL.out.st.cb HL.out.st.kr ?_
      intro W2 x40 x41 x42 x43 x44 x45 x46 x47 x48 q1 q2 q3 q4
      have HN := Lib.hid (HL.out.next q1 q2 q3 q4)
      clear q1 q2 q3 q4 h1 h2
      go_wp2
      go_roundw
      case rel => exact ⟨m, by go_num, HN.out⟩
      case measure => simp [intOf]
end Go.Proofs.YtbfdaclekjgkfaaGreatDoor.Bk
