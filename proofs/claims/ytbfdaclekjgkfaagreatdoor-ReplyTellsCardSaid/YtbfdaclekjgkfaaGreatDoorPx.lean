import Derived.Test.YtbfdaclekjgkfaaGreatDoorGr
import Derived.Test.YtbfdaclekjgkfaaGreatDoorPRep
import Derived.Test.YtbfdaclekjgkfaaGreatDoorWrap
import Derived.IntWalk
import Derived.Test.YtbfdaclekjgkfaaGreatDoorPn

/- escutcheonref1.PutReply's regions that draw their order. -/
set_option linter.unusedVariables false
set_option linter.unusedSimpArgs false
namespace Go.Proofs.YtbfdaclekjgkfaaGreatDoor.Bk
open Go.RowKit Go.Proofs.YtbfdaclekjgkfaaGreatDoor Go.Proofs.YtbfdaclekjgkfaaGreatDoorW.PrintWords Go.Proofs.YtbfdaclekjgkfaaGreatDoorW.PrintLast
theorem wrap_mx (a : Int) (h1 : -1000000000000 ≤ a) (h2 : a ≤ 1000000000000) : wrap64 (a + 1000000000000) = a + 1000000000000 := by unfold wrap64; omega
theorem wrap_mi (a : Int) (h1 : -1000000000000 ≤ a) (h2 : a ≤ 1000000000000) : IntKind.i64.wrap (a + 1000000000000) = a + 1000000000000 := IntWalk.i64_in _ (by omega)
theorem wrap_uu (x : Int) (h1 : 0 ≤ x) (h2 : x ≤ 2000000000000) : IntKind.u64.wrap x = x := by
  show x % 18446744073709551616 = x
  omega
theorem big_ok (x n : Int) (h1 : 0 ≤ x) (h2 : x ≤ 2000000000000) (h3 : 1 ≤ n) (h4 : n ≤ 8) : escutcheonref1_PutBig.f x n = some (strOfNums (pcells x n.toNat n.toNat)) := by
  unfold escutcheonref1_PutBig.f
  rw [if_pos (by omega)]
def Ip3 (e : Int) (v : ByteArray) (a0 b0 : Int) (A : Option Addr) (c : Nat) (l : List ByteArray) (w : World) (g : Nat) (p0 p2 p3 p5 p6 p7 p8 p9 p10 p11 p12 p13 p14 p15 p16 p17 p18 p19 p20 p21 p22 p23 p24 p25 p26 p27 p28 p29 p30 p31 p32 p33 p34 p35 p36 p37 p38 p39 p40 p41 p74 p75 p76 p77 p78 p79 p80 p81 p82 p83 p84 p85 p86 p87 p88 p89 p90 p91 p92 p93 p94 p95 p96 p97 p98 p99 p100 p101 p102 p103 p104 p105 : Value) (L : Nat → Bool) (a : Act) (W : World) : Prop :=
  ∃ x4 x42 x43 x44 x45 x46 x47 x48 x49 x50 x51 x52 x53 x54 x55 x56 x57 x58 x59 x60 x61 x62 x63 x64 x65 x66 x67 x68 x69 x70 x71 x72 x73 : Value, a = ⟨#[p0, (.pointer (some ⟨g, 0, none⟩)), p2, p3, x4, p5, p6, p7, p8, p9, p10, p11, p12, p13, p14, p15, p16, p17, p18, p19, p20, p21, p22, p23, p24, p25, p26, p27, p28, p29, p30, p31, p32, p33, p34, p35, p36, p37, p38, p39, p40, p41, x42, x43, x44, x45, x46, x47, x48, x49, x50, x51, x52, x53, x54, x55, x56, x57, x58, x59, x60, x61, x62, x63, x64, x65, x66, x67, x68, x69, x70, x71, x72, x73, p74, p75, p76, p77, p78, p79, p80, p81, p82, p83, p84, p85, p86, p87, p88, p89, p90, p91, p92, p93, p94, p95, p96, p97, p98, p99, p100, p101, p102, p103, p104, p105], []⟩ ∧ (L 0 = true → x42 = .pointer (some ⟨g, 0, none⟩)) ∧ (L 1 = true → x43 = .int .i64 e) ∧ (L 2 = true → x44 = .int .u8 (e % 256)) ∧ (L 3 = true → (L 4 = false → ∃ h, x45 = .slice (some ⟨h, 0, none⟩) 1 1 ∧ W.heap[h]? = some (.cells #[.int .u8 (e % 256)] 5 (0, 0)))) ∧ (L 4 = true → x46 = .string (oneB (e % 256))) ∧ (L 5 = true → x47 = .pointer (some ⟨g, 2, none⟩)) ∧ (L 6 = true → x48 = .int .i64 a0) ∧ (L 7 = true → x49 = .int .i64 (a0 + 1000000000000)) ∧ (L 8 = true → x50 = .int .u64 (a0 + 1000000000000)) ∧ (L 9 = true → x51 = .string (strOfNums (pcells (a0 + 1000000000000) 8 8))) ∧ (L 10 = true → x52 = .string ((oneB (e % 256)) ++ (strOfNums (pcells (a0 + 1000000000000) 8 8)))) ∧ (L 11 = true → x53 = .pointer (some ⟨g, 3, none⟩)) ∧ (L 12 = true → x54 = .int .i64 b0) ∧ (L 13 = true → x55 = .int .u64 b0) ∧ (L 14 = true → x56 = .string (strOfNums (pcells b0 8 8))) ∧ (L 15 = true → x57 = .string (((oneB (e % 256)) ++ (strOfNums (pcells (a0 + 1000000000000) 8 8))) ++ (strOfNums (pcells b0 8 8)))) ∧ (L 16 = true → x58 = .pointer (some ⟨g, 1, none⟩)) ∧ (L 17 = true → x59 = .string v) ∧ (L 18 = true → x60 = .int .i64 (v.size : Int)) ∧ (L 19 = true → x61 = .int .u64 (v.size : Int)) ∧ (L 20 = true → x62 = .string (big2 v.size)) ∧ (L 21 = true → x63 = .string ((((oneB (e % 256)) ++ (strOfNums (pcells (a0 + 1000000000000) 8 8))) ++ (strOfNums (pcells b0 8 8))) ++ big2 v.size)) ∧ (L 22 = true → x64 = .pointer (some ⟨g, 1, none⟩)) ∧ (L 23 = true → x65 = .string v) ∧ (L 24 = true → x66 = .string (((((oneB (e % 256)) ++ (strOfNums (pcells (a0 + 1000000000000) 8 8))) ++ (strOfNums (pcells b0 8 8))) ++ big2 v.size) ++ v)) ∧ (L 25 = true → x67 = .pointer (some ⟨g, 4, none⟩)) ∧ (L 26 = true → x68 = .slice A l.length c) ∧ (L 27 = true → x69 = .int .i64 (l.length : Int)) ∧ (L 28 = true → x70 = .int .u8 ((l.length : Int) % 256)) ∧ (L 29 = true → (L 30 = false → ∃ h, x71 = .slice (some ⟨h, 0, none⟩) 1 1 ∧ W.heap[h]? = some (.cells #[.int .u8 ((l.length : Int) % 256)] 5 (0, 0)))) ∧ (L 30 = true → x72 = .string (oneB ((l.length : Int) % 256))) ∧ (L 31 = true → x73 = .string ((((((oneB (e % 256)) ++ (strOfNums (pcells (a0 + 1000000000000) 8 8))) ++ (strOfNums (pcells b0 8 8))) ++ big2 v.size) ++ v) ++ (oneB ((l.length : Int) % 256)))) ∧ (L 32 = true → x4 = .string ((((((oneB (e % 256)) ++ (strOfNums (pcells (a0 + 1000000000000) 8 8))) ++ (strOfNums (pcells b0 8 8))) ++ big2 v.size) ++ v) ++ (oneB ((l.length : Int) % 256)))) ∧ (W.heap[g]? = some (.cells #[.int .i64 e, .string v, .int .i64 a0, .int .i64 b0, .slice A l.length c] 25 (0, 0))) ∧ (Below w.heap.size w W)
set_option maxHeartbeats 1600000 in
set_option maxRecDepth 100000 in
theorem Ip3.step (e : Int) (v : ByteArray) (a0 b0 : Int) (A : Option Addr) (c : Nat) (l : List ByteArray) (w : World) (g : Nat) (p0 p2 p3 p5 p6 p7 p8 p9 p10 p11 p12 p13 p14 p15 p16 p17 p18 p19 p20 p21 p22 p23 p24 p25 p26 p27 p28 p29 p30 p31 p32 p33 p34 p35 p36 p37 p38 p39 p40 p41 p74 p75 p76 p77 p78 p79 p80 p81 p82 p83 p84 p85 p86 p87 p88 p89 p90 p91 p92 p93 p94 p95 p96 p97 p98 p99 p100 p101 p102 p103 p104 p105 : Value) (hgl : w.heap.size ≤ w.heap.size) (hN : NumP a0 b0) (hv : v.size ≤ 500) {Q : Exit → Act → World → Prop} : ∀ i o L a W, (opsOf Tryz.f7 3)[i]? = some o → L i = false → o.after.all (fun e => !Region.binds .any e || L e.on) = true → ClosedL (opsOf Tryz.f7 3) L → Ip3 e v a0 b0 A c l w g p0 p2 p3 p5 p6 p7 p8 p9 p10 p11 p12 p13 p14 p15 p16 p17 p18 p19 p20 p21 p22 p23 p24 p25 p26 p27 p28 p29 p30 p31 p32 p33 p34 p35 p36 p37 p38 p39 p40 p41 p74 p75 p76 p77 p78 p79 p80 p81 p82 p83 p84 p85 p86 p87 p88 p89 p90 p91 p92 p93 p94 p95 p96 p97 p98 p99 p100 p101 p102 p103 p104 p105 L a W →
    if Region.wanted o (yielded (opsOf Tryz.f7 3) a.tmps) = true then Oper.wp Tryz.prog o a W (fun a' w' => Ip3 e v a0 b0 A c l w g p0 p2 p3 p5 p6 p7 p8 p9 p10 p11 p12 p13 p14 p15 p16 p17 p18 p19 p20 p21 p22 p23 p24 p25 p26 p27 p28 p29 p30 p31 p32 p33 p34 p35 p36 p37 p38 p39 p40 p41 p74 p75 p76 p77 p78 p79 p80 p81 p82 p83 p84 p85 p86 p87 p88 p89 p90 p91 p92 p93 p94 p95 p96 p97 p98 p99 p100 p101 p102 p103 p104 p105 (fun j => j == i || L j) a' w') Q else Ip3 e v a0 b0 A c l w g p0 p2 p3 p5 p6 p7 p8 p9 p10 p11 p12 p13 p14 p15 p16 p17 p18 p19 p20 p21 p22 p23 p24 p25 p26 p27 p28 p29 p30 p31 p32 p33 p34 p35 p36 p37 p38 p39 p40 p41 p74 p75 p76 p77 p78 p79 p80 p81 p82 p83 p84 p85 p86 p87 p88 p89 p90 p91 p92 p93 p94 p95 p96 p97 p98 p99 p100 p101 p102 p103 p104 p105 (fun j => j == i || L j) (a.put o.dst undef) W := by
  intro i o L a W ho hLi haft hcl hI
  obtain ⟨x4, x42, x43, x44, x45, x46, x47, x48, x49, x50, x51, x52, x53, x54, x55, x56, x57, x58, x59, x60, x61, x62, x63, x64, x65, x66, x67, x68, x69, x70, x71, x72, x73, rfl, h0, h1, h2, h3, h4, h5, h6, h7, h8, h9, h10, h11, h12, h13, h14, h15, h16, h17, h18, h19, h20, h21, h22, h23, h24, h25, h26, h27, h28, h29, h30, h31, h32, hg, hb⟩ := hI
  rcases i with _|_|_|_|_|_|_|_|_|_|_|_|_|_|_|_|_|_|_|_|_|_|_|_|_|_|_|_|_|_|_|_|_|_
  · obtain rfl : ({ dst := some 42, op := Go.Op.fieldAddr 25 (Go.Operand.tmp 1) 0, type := 0, pos := "crypto.go:492", after := #[], guard := none } : Oper) = o := Option.some.inj ho   -- 0
    refine value_ (v := .pointer (some ⟨g, 0, none⟩)) (w1 := W) (by rfl) rfl ?_ ?_
    · go_simp; try rfl
    exact ⟨x4, .pointer (some ⟨g, 0, none⟩), x43, x44, x45, x46, x47, x48, x49, x50, x51, x52, x53, x54, x55, x56, x57, x58, x59, x60, x61, x62, x63, x64, x65, x66, x67, x68, x69, x70, x71, x72, x73, rfl, fun _ => rfl, h1, h2, h3, h4, h5, h6, h7, h8, h9, h10, h11, h12, h13, h14, h15, h16, h17, h18, h19, h20, h21, h22, h23, h24, h25, h26, h27, h28, h29, h30, h31, h32, hg, hb⟩
  · obtain rfl : ({ dst := some 43, op := Go.Op.load 22 (Go.Operand.tmp 42), type := 22, pos := "crypto.go:492", after := #[{ on := 0, ground := Go.Ground.data }], guard := none } : Oper) = o := Option.some.inj ho   -- 1
    obtain rfl := h0 (dep_ haft 0 rfl)
    have hc : W.cell? ⟨g, 0, none⟩ = some (.int .i64 e) := (blk_cell hg 0).trans rfl
    refine value_ (v := .int .i64 e) (w1 := W) (by rfl) rfl ?_ ?_
    · go_simp; try rfl
    exact ⟨x4, .pointer (some ⟨g, 0, none⟩), .int .i64 e, x44, x45, x46, x47, x48, x49, x50, x51, x52, x53, x54, x55, x56, x57, x58, x59, x60, x61, x62, x63, x64, x65, x66, x67, x68, x69, x70, x71, x72, x73, rfl, fun _ => rfl, fun _ => rfl, h2, h3, h4, h5, h6, h7, h8, h9, h10, h11, h12, h13, h14, h15, h16, h17, h18, h19, h20, h21, h22, h23, h24, h25, h26, h27, h28, h29, h30, h31, h32, hg, hb⟩
  · obtain rfl : ({ dst := some 44, op := Go.Op.convert 22 5 (Go.Operand.tmp 43), type := 5, pos := "crypto.go:492", after := #[{ on := 1, ground := Go.Ground.data }], guard := none } : Oper) = o := Option.some.inj ho   -- 2
    obtain rfl := h1 (dep_ haft 0 rfl)
    refine value_ (v := .int .u8 (e % 256)) (w1 := W) (by rfl) rfl ?_ ?_
    · go_simp; try rfl
    exact ⟨x4, x42, .int .i64 e, .int .u8 (e % 256), x45, x46, x47, x48, x49, x50, x51, x52, x53, x54, x55, x56, x57, x58, x59, x60, x61, x62, x63, x64, x65, x66, x67, x68, x69, x70, x71, x72, x73, rfl, h0, fun _ => rfl, fun _ => rfl, h3, h4, h5, h6, h7, h8, h9, h10, h11, h12, h13, h14, h15, h16, h17, h18, h19, h20, h21, h22, h23, h24, h25, h26, h27, h28, h29, h30, h31, h32, hg, hb⟩
  · obtain rfl : ({ dst := some 45, op := Go.Op.buildSlice 55 1 #[(0, Go.Operand.tmp 44)], type := 55, pos := "crypto.go:492", after := #[{ on := 2, ground := Go.Ground.data }], guard := none } : Oper) = o := Option.some.inj ho   -- 3
    obtain rfl := h2 (dep_ haft 0 rfl)
    refine value_ (v := (.slice (some ⟨W.heap.size, 0, none⟩) 1 1)) (w1 := W.alloc (.cells #[.int .u8 (e % 256)] 5)) (by rfl) rfl ?_ ?_
    · go_simp; try rfl
    exact ⟨x4, x42, x43, .int .u8 (e % 256), (.slice (some ⟨W.heap.size, 0, none⟩) 1 1), x46, x47, x48, x49, x50, x51, x52, x53, x54, x55, x56, x57, x58, x59, x60, x61, x62, x63, x64, x65, x66, x67, x68, x69, x70, x71, x72, x73, rfl, h0, h1, fun _ => rfl, fun _ => fun _ => ⟨_, rfl, heap_alloc_new W _⟩, h4, h5, h6, h7, h8, h9, h10, h11, h12, h13, h14, h15, h16, h17, h18, h19, h20, h21, h22, h23, h24, h25, h26, h27, h28, fun hL h4 => blk3_ (h29 hL h4) ((Below.refl W.heap.size W).alloc (Nat.le_refl _) _), h30, h31, h32, blk_below hg ((Below.refl W.heap.size W).alloc (Nat.le_refl _) _), below_step hb ((Below.refl W.heap.size W).alloc (Nat.le_refl _) _)⟩
  · obtain rfl : ({ dst := some 46, op := Go.Op.convert 55 9 (Go.Operand.tmp 45), type := 9, pos := "crypto.go:492", after := #[{ on := 3, ground := Go.Ground.data }], guard := none } : Oper) = o := Option.some.inj ho   -- 4
    obtain ⟨h, rfl, hh⟩ := h3 (dep_ haft 0 rfl) hLi
    have hcv := conv_h hh
    refine value_ (v := .string (oneB (e % 256))) (w1 := W) (by rfl) rfl ?_ ?_
    · go_simp; try rfl
    exact ⟨x4, x42, x43, x44, (.slice (some ⟨h, 0, none⟩) 1 1), .string (oneB (e % 256)), x47, x48, x49, x50, x51, x52, x53, x54, x55, x56, x57, x58, x59, x60, x61, x62, x63, x64, x65, x66, x67, x68, x69, x70, x71, x72, x73, rfl, h0, h1, h2, fun _ h4 => Bool.noConfusion h4, fun _ => rfl, h5, h6, h7, h8, h9, h10, h11, h12, h13, h14, h15, h16, h17, h18, h19, h20, h21, h22, h23, h24, h25, h26, h27, h28, h29, h30, h31, h32, hg, hb⟩
  · obtain rfl : ({ dst := some 47, op := Go.Op.fieldAddr 25 (Go.Operand.tmp 1) 2, type := 0, pos := "crypto.go:492", after := #[], guard := none } : Oper) = o := Option.some.inj ho   -- 5
    refine value_ (v := .pointer (some ⟨g, 2, none⟩)) (w1 := W) (by rfl) rfl ?_ ?_
    · go_simp; try rfl
    exact ⟨x4, x42, x43, x44, x45, x46, .pointer (some ⟨g, 2, none⟩), x48, x49, x50, x51, x52, x53, x54, x55, x56, x57, x58, x59, x60, x61, x62, x63, x64, x65, x66, x67, x68, x69, x70, x71, x72, x73, rfl, h0, h1, h2, h3, h4, fun _ => rfl, h6, h7, h8, h9, h10, h11, h12, h13, h14, h15, h16, h17, h18, h19, h20, h21, h22, h23, h24, h25, h26, h27, h28, h29, h30, h31, h32, hg, hb⟩
  · obtain rfl : ({ dst := some 48, op := Go.Op.load 3 (Go.Operand.tmp 47), type := 3, pos := "crypto.go:492", after := #[{ on := 5, ground := Go.Ground.data }], guard := none } : Oper) = o := Option.some.inj ho   -- 6
    obtain rfl := h5 (dep_ haft 0 rfl)
    have hc : W.cell? ⟨g, 2, none⟩ = some (.int .i64 a0) := (blk_cell hg 2).trans rfl
    refine value_ (v := .int .i64 a0) (w1 := W) (by rfl) rfl ?_ ?_
    · go_simp; try rfl
    exact ⟨x4, x42, x43, x44, x45, x46, .pointer (some ⟨g, 2, none⟩), .int .i64 a0, x49, x50, x51, x52, x53, x54, x55, x56, x57, x58, x59, x60, x61, x62, x63, x64, x65, x66, x67, x68, x69, x70, x71, x72, x73, rfl, h0, h1, h2, h3, h4, fun _ => rfl, fun _ => rfl, h7, h8, h9, h10, h11, h12, h13, h14, h15, h16, h17, h18, h19, h20, h21, h22, h23, h24, h25, h26, h27, h28, h29, h30, h31, h32, hg, hb⟩
  · obtain rfl : ({ dst := some 49, op := Go.Op.binOp Go.BinOp.add 3 (Go.Operand.tmp 48) (Go.Operand.const (Go.Value.int Go.IntKind.i64 1000000000000)) 3, type := 3, pos := "crypto.go:492", after := #[{ on := 6, ground := Go.Ground.data }], guard := none } : Oper) = o := Option.some.inj ho   -- 7
    obtain rfl := h6 (dep_ haft 0 rfl)
    obtain ⟨n1, n2, n3, n4⟩ := hN
    have hwa := wrap_mi a0 n1 n2
    refine value_ (v := .int .i64 (a0 + 1000000000000)) (w1 := W) (by rfl) rfl ?_ ?_
    · go_simp; try rfl
    exact ⟨x4, x42, x43, x44, x45, x46, x47, .int .i64 a0, .int .i64 (a0 + 1000000000000), x50, x51, x52, x53, x54, x55, x56, x57, x58, x59, x60, x61, x62, x63, x64, x65, x66, x67, x68, x69, x70, x71, x72, x73, rfl, h0, h1, h2, h3, h4, h5, fun _ => rfl, fun _ => rfl, h8, h9, h10, h11, h12, h13, h14, h15, h16, h17, h18, h19, h20, h21, h22, h23, h24, h25, h26, h27, h28, h29, h30, h31, h32, hg, hb⟩
  · obtain rfl : ({ dst := some 50, op := Go.Op.convert 3 64 (Go.Operand.tmp 49), type := 64, pos := "crypto.go:492", after := #[{ on := 7, ground := Go.Ground.data }], guard := none } : Oper) = o := Option.some.inj ho   -- 8
    obtain rfl := h7 (dep_ haft 0 rfl)
    obtain ⟨n1, n2, n3, n4⟩ := hN
    have hwu : IntKind.u64.wrap (a0 + 1000000000000) = a0 + 1000000000000 := wrap_uu _ (by omega) (by omega)
    refine value_ (v := .int .u64 (a0 + 1000000000000)) (w1 := W) (by rfl) rfl ?_ ?_
    · go_simp; try rfl
    exact ⟨x4, x42, x43, x44, x45, x46, x47, x48, .int .i64 (a0 + 1000000000000), .int .u64 (a0 + 1000000000000), x51, x52, x53, x54, x55, x56, x57, x58, x59, x60, x61, x62, x63, x64, x65, x66, x67, x68, x69, x70, x71, x72, x73, rfl, h0, h1, h2, h3, h4, h5, h6, fun _ => rfl, fun _ => rfl, h9, h10, h11, h12, h13, h14, h15, h16, h17, h18, h19, h20, h21, h22, h23, h24, h25, h26, h27, h28, h29, h30, h31, h32, hg, hb⟩
  · obtain rfl : ({ dst := some 51, op := Go.Op.call { callee := Go.Callee.value (Go.Operand.func 26), args := #[Go.Operand.tmp 50, Go.Operand.const (Go.Value.int Go.IntKind.i64 8)], argTypes := #[64, 3] }, type := 9, pos := "crypto.go:492", after := #[{ on := 8, ground := Go.Ground.data }], guard := none } : Oper) = o := Option.some.inj ho   -- 9
    obtain rfl := h8 (dep_ haft 0 rfl)
    refine goes_ Tryz.func26 (by kernel_rfl) rfl #[.int .u64 (a0 + 1000000000000), .int .i64 8] (by rfl) rfl rfl (by (try simp only [List.map_toArray, List.map_cons, List.map_nil]); rfl) ?_
    refine Calls.mono (escutcheonref1_PutBig.calls (a0 + 1000000000000) 8 _ W (big_ok _ _ (by have := hN; unfold NumP at this; omega) (by have := hN; unfold NumP at this; omega) (by decide) (by decide))) ?_
    rintro e W1 ⟨rfl, hb1⟩
    refine ⟨_, rfl, ?_⟩
    exact ⟨x4, x42, x43, x44, x45, x46, x47, x48, x49, .int .u64 (a0 + 1000000000000), .string (strOfNums (pcells (a0 + 1000000000000) 8 8)), x52, x53, x54, x55, x56, x57, x58, x59, x60, x61, x62, x63, x64, x65, x66, x67, x68, x69, x70, x71, x72, x73, rfl, h0, h1, h2, fun hL h4 => blk3_ (h3 hL h4) hb1, h4, h5, h6, h7, fun _ => rfl, fun _ => rfl, h10, h11, h12, h13, h14, h15, h16, h17, h18, h19, h20, h21, h22, h23, h24, h25, h26, h27, h28, fun hL h4 => blk3_ (h29 hL h4) hb1, h30, h31, h32, blk_below hg hb1, below_step hb hb1⟩
  · obtain rfl : ({ dst := some 52, op := Go.Op.binOp Go.BinOp.add 9 (Go.Operand.tmp 46) (Go.Operand.tmp 51) 9, type := 9, pos := "crypto.go:492", after := #[{ on := 4, ground := Go.Ground.data }, { on := 9, ground := Go.Ground.data }], guard := none } : Oper) = o := Option.some.inj ho   -- 10
    obtain rfl := h4 (dep_ haft 0 rfl)
    obtain rfl := h9 (dep_ haft 1 rfl)
    have hz1 : (oneB (e % 256)).size = 1 := by simp only [ByteArray.size_append, oneB_size, strOfNums_size, pcells_length, big2_size]
    have hz2 : (strOfNums (pcells (a0 + 1000000000000) 8 8)).size = 8 := by simp only [ByteArray.size_append, oneB_size, strOfNums_size, pcells_length, big2_size]
    refine value_ (v := .string ((oneB (e % 256)) ++ (strOfNums (pcells (a0 + 1000000000000) 8 8)))) (w1 := W) (by rfl) rfl ?_ ?_
    · go_simp; try rfl
    exact ⟨x4, x42, x43, x44, x45, .string (oneB (e % 256)), x47, x48, x49, x50, .string (strOfNums (pcells (a0 + 1000000000000) 8 8)), .string ((oneB (e % 256)) ++ (strOfNums (pcells (a0 + 1000000000000) 8 8))), x53, x54, x55, x56, x57, x58, x59, x60, x61, x62, x63, x64, x65, x66, x67, x68, x69, x70, x71, x72, x73, rfl, h0, h1, h2, h3, fun _ => rfl, h5, h6, h7, h8, fun _ => rfl, fun _ => rfl, h11, h12, h13, h14, h15, h16, h17, h18, h19, h20, h21, h22, h23, h24, h25, h26, h27, h28, h29, h30, h31, h32, hg, hb⟩
  · obtain rfl : ({ dst := some 53, op := Go.Op.fieldAddr 25 (Go.Operand.tmp 1) 3, type := 0, pos := "crypto.go:492", after := #[], guard := none } : Oper) = o := Option.some.inj ho   -- 11
    refine value_ (v := .pointer (some ⟨g, 3, none⟩)) (w1 := W) (by rfl) rfl ?_ ?_
    · go_simp; try rfl
    exact ⟨x4, x42, x43, x44, x45, x46, x47, x48, x49, x50, x51, x52, .pointer (some ⟨g, 3, none⟩), x54, x55, x56, x57, x58, x59, x60, x61, x62, x63, x64, x65, x66, x67, x68, x69, x70, x71, x72, x73, rfl, h0, h1, h2, h3, h4, h5, h6, h7, h8, h9, h10, fun _ => rfl, h12, h13, h14, h15, h16, h17, h18, h19, h20, h21, h22, h23, h24, h25, h26, h27, h28, h29, h30, h31, h32, hg, hb⟩
  · obtain rfl : ({ dst := some 54, op := Go.Op.load 3 (Go.Operand.tmp 53), type := 3, pos := "crypto.go:492", after := #[{ on := 11, ground := Go.Ground.data }], guard := none } : Oper) = o := Option.some.inj ho   -- 12
    obtain rfl := h11 (dep_ haft 0 rfl)
    have hc : W.cell? ⟨g, 3, none⟩ = some (.int .i64 b0) := (blk_cell hg 3).trans rfl
    refine value_ (v := .int .i64 b0) (w1 := W) (by rfl) rfl ?_ ?_
    · go_simp; try rfl
    exact ⟨x4, x42, x43, x44, x45, x46, x47, x48, x49, x50, x51, x52, .pointer (some ⟨g, 3, none⟩), .int .i64 b0, x55, x56, x57, x58, x59, x60, x61, x62, x63, x64, x65, x66, x67, x68, x69, x70, x71, x72, x73, rfl, h0, h1, h2, h3, h4, h5, h6, h7, h8, h9, h10, fun _ => rfl, fun _ => rfl, h13, h14, h15, h16, h17, h18, h19, h20, h21, h22, h23, h24, h25, h26, h27, h28, h29, h30, h31, h32, hg, hb⟩
  · obtain rfl : ({ dst := some 55, op := Go.Op.convert 3 64 (Go.Operand.tmp 54), type := 64, pos := "crypto.go:492", after := #[{ on := 12, ground := Go.Ground.data }], guard := none } : Oper) = o := Option.some.inj ho   -- 13
    obtain rfl := h12 (dep_ haft 0 rfl)
    obtain ⟨n1, n2, n3, n4⟩ := hN
    have hwu : IntKind.u64.wrap b0 = b0 := wrap_uu _ n3 (by omega)
    refine value_ (v := .int .u64 b0) (w1 := W) (by rfl) rfl ?_ ?_
    · go_simp; try rfl
    exact ⟨x4, x42, x43, x44, x45, x46, x47, x48, x49, x50, x51, x52, x53, .int .i64 b0, .int .u64 b0, x56, x57, x58, x59, x60, x61, x62, x63, x64, x65, x66, x67, x68, x69, x70, x71, x72, x73, rfl, h0, h1, h2, h3, h4, h5, h6, h7, h8, h9, h10, h11, fun _ => rfl, fun _ => rfl, h14, h15, h16, h17, h18, h19, h20, h21, h22, h23, h24, h25, h26, h27, h28, h29, h30, h31, h32, hg, hb⟩
  · obtain rfl : ({ dst := some 56, op := Go.Op.call { callee := Go.Callee.value (Go.Operand.func 26), args := #[Go.Operand.tmp 55, Go.Operand.const (Go.Value.int Go.IntKind.i64 8)], argTypes := #[64, 3] }, type := 9, pos := "crypto.go:492", after := #[{ on := 13, ground := Go.Ground.data }, { on := 9, ground := Go.Ground.chain }], guard := none } : Oper) = o := Option.some.inj ho   -- 14
    obtain rfl := h13 (dep_ haft 0 rfl)
    refine goes_ Tryz.func26 (by kernel_rfl) rfl #[.int .u64 b0, .int .i64 8] (by rfl) rfl rfl (by (try simp only [List.map_toArray, List.map_cons, List.map_nil]); rfl) ?_
    refine Calls.mono (escutcheonref1_PutBig.calls b0 8 _ W (big_ok _ _ (by have := hN; unfold NumP at this; omega) (by have := hN; unfold NumP at this; omega) (by decide) (by decide))) ?_
    rintro e W1 ⟨rfl, hb1⟩
    refine ⟨_, rfl, ?_⟩
    exact ⟨x4, x42, x43, x44, x45, x46, x47, x48, x49, x50, x51, x52, x53, x54, .int .u64 b0, .string (strOfNums (pcells b0 8 8)), x57, x58, x59, x60, x61, x62, x63, x64, x65, x66, x67, x68, x69, x70, x71, x72, x73, rfl, h0, h1, h2, fun hL h4 => blk3_ (h3 hL h4) hb1, h4, h5, h6, h7, h8, h9, h10, h11, h12, fun _ => rfl, fun _ => rfl, h15, h16, h17, h18, h19, h20, h21, h22, h23, h24, h25, h26, h27, h28, fun hL h4 => blk3_ (h29 hL h4) hb1, h30, h31, h32, blk_below hg hb1, below_step hb hb1⟩
  · obtain rfl : ({ dst := some 57, op := Go.Op.binOp Go.BinOp.add 9 (Go.Operand.tmp 52) (Go.Operand.tmp 56) 9, type := 9, pos := "crypto.go:492", after := #[{ on := 10, ground := Go.Ground.data }, { on := 14, ground := Go.Ground.data }], guard := none } : Oper) = o := Option.some.inj ho   -- 15
    obtain rfl := h10 (dep_ haft 0 rfl)
    obtain rfl := h14 (dep_ haft 1 rfl)
    have hz3 : ((oneB (e % 256)) ++ (strOfNums (pcells (a0 + 1000000000000) 8 8))).size = 9 := by simp only [ByteArray.size_append, oneB_size, strOfNums_size, pcells_length, big2_size]
    have hz4 : (strOfNums (pcells b0 8 8)).size = 8 := by simp only [ByteArray.size_append, oneB_size, strOfNums_size, pcells_length, big2_size]
    refine value_ (v := .string (((oneB (e % 256)) ++ (strOfNums (pcells (a0 + 1000000000000) 8 8))) ++ (strOfNums (pcells b0 8 8)))) (w1 := W) (by rfl) rfl ?_ ?_
    · go_simp; try rfl
    exact ⟨x4, x42, x43, x44, x45, x46, x47, x48, x49, x50, x51, .string ((oneB (e % 256)) ++ (strOfNums (pcells (a0 + 1000000000000) 8 8))), x53, x54, x55, .string (strOfNums (pcells b0 8 8)), .string (((oneB (e % 256)) ++ (strOfNums (pcells (a0 + 1000000000000) 8 8))) ++ (strOfNums (pcells b0 8 8))), x58, x59, x60, x61, x62, x63, x64, x65, x66, x67, x68, x69, x70, x71, x72, x73, rfl, h0, h1, h2, h3, h4, h5, h6, h7, h8, h9, fun _ => rfl, h11, h12, h13, fun _ => rfl, fun _ => rfl, h16, h17, h18, h19, h20, h21, h22, h23, h24, h25, h26, h27, h28, h29, h30, h31, h32, hg, hb⟩
  · obtain rfl : ({ dst := some 58, op := Go.Op.fieldAddr 25 (Go.Operand.tmp 1) 1, type := 0, pos := "crypto.go:492", after := #[], guard := none } : Oper) = o := Option.some.inj ho   -- 16
    refine value_ (v := .pointer (some ⟨g, 1, none⟩)) (w1 := W) (by rfl) rfl ?_ ?_
    · go_simp; try rfl
    exact ⟨x4, x42, x43, x44, x45, x46, x47, x48, x49, x50, x51, x52, x53, x54, x55, x56, x57, .pointer (some ⟨g, 1, none⟩), x59, x60, x61, x62, x63, x64, x65, x66, x67, x68, x69, x70, x71, x72, x73, rfl, h0, h1, h2, h3, h4, h5, h6, h7, h8, h9, h10, h11, h12, h13, h14, h15, fun _ => rfl, h17, h18, h19, h20, h21, h22, h23, h24, h25, h26, h27, h28, h29, h30, h31, h32, hg, hb⟩
  · obtain rfl : ({ dst := some 59, op := Go.Op.load 9 (Go.Operand.tmp 58), type := 9, pos := "crypto.go:492", after := #[{ on := 16, ground := Go.Ground.data }], guard := none } : Oper) = o := Option.some.inj ho   -- 17
    obtain rfl := h16 (dep_ haft 0 rfl)
    have hc : W.cell? ⟨g, 1, none⟩ = some (.string v) := (blk_cell hg 1).trans rfl
    refine value_ (v := .string v) (w1 := W) (by rfl) rfl ?_ ?_
    · go_simp; try rfl
    exact ⟨x4, x42, x43, x44, x45, x46, x47, x48, x49, x50, x51, x52, x53, x54, x55, x56, x57, .pointer (some ⟨g, 1, none⟩), .string v, x60, x61, x62, x63, x64, x65, x66, x67, x68, x69, x70, x71, x72, x73, rfl, h0, h1, h2, h3, h4, h5, h6, h7, h8, h9, h10, h11, h12, h13, h14, h15, fun _ => rfl, fun _ => rfl, h18, h19, h20, h21, h22, h23, h24, h25, h26, h27, h28, h29, h30, h31, h32, hg, hb⟩
  · obtain rfl : ({ dst := some 60, op := Go.Op.call { callee := Go.Callee.builtin Go.Builtin.len, args := #[Go.Operand.tmp 59], argTypes := #[9] }, type := 3, pos := "crypto.go:492", after := #[{ on := 17, ground := Go.Ground.data }], guard := none } : Oper) = o := Option.some.inj ho   -- 18
    obtain rfl := h17 (dep_ haft 0 rfl)
    refine value_ (v := .int .i64 (v.size : Int)) (w1 := W) (by rfl) rfl ?_ ?_
    · go_simp; try rfl
    exact ⟨x4, x42, x43, x44, x45, x46, x47, x48, x49, x50, x51, x52, x53, x54, x55, x56, x57, x58, .string v, .int .i64 (v.size : Int), x61, x62, x63, x64, x65, x66, x67, x68, x69, x70, x71, x72, x73, rfl, h0, h1, h2, h3, h4, h5, h6, h7, h8, h9, h10, h11, h12, h13, h14, h15, h16, fun _ => rfl, fun _ => rfl, h19, h20, h21, h22, h23, h24, h25, h26, h27, h28, h29, h30, h31, h32, hg, hb⟩
  · obtain rfl : ({ dst := some 61, op := Go.Op.convert 3 64 (Go.Operand.tmp 60), type := 64, pos := "crypto.go:492", after := #[{ on := 18, ground := Go.Ground.data }], guard := none } : Oper) = o := Option.some.inj ho   -- 19
    obtain rfl := h18 (dep_ haft 0 rfl)
    have hvs : IntKind.u64.wrap (v.size : Int) = v.size := wrap_u v.size hv
    refine value_ (v := .int .u64 (v.size : Int)) (w1 := W) (by rfl) rfl ?_ ?_
    · go_simp; try rfl
    exact ⟨x4, x42, x43, x44, x45, x46, x47, x48, x49, x50, x51, x52, x53, x54, x55, x56, x57, x58, x59, .int .i64 (v.size : Int), .int .u64 (v.size : Int), x62, x63, x64, x65, x66, x67, x68, x69, x70, x71, x72, x73, rfl, h0, h1, h2, h3, h4, h5, h6, h7, h8, h9, h10, h11, h12, h13, h14, h15, h16, h17, fun _ => rfl, fun _ => rfl, h20, h21, h22, h23, h24, h25, h26, h27, h28, h29, h30, h31, h32, hg, hb⟩
  · obtain rfl : ({ dst := some 62, op := Go.Op.call { callee := Go.Callee.value (Go.Operand.func 26), args := #[Go.Operand.tmp 61, Go.Operand.const (Go.Value.int Go.IntKind.i64 2)], argTypes := #[64, 3] }, type := 9, pos := "crypto.go:492", after := #[{ on := 19, ground := Go.Ground.data }, { on := 14, ground := Go.Ground.chain }], guard := none } : Oper) = o := Option.some.inj ho   -- 20
    obtain rfl := h19 (dep_ haft 0 rfl)
    refine goes_ Tryz.func26 (by kernel_rfl) rfl #[.int .u64 (v.size : Int), .int .i64 2] (by rfl) rfl rfl (by (try simp only [List.map_toArray, List.map_cons, List.map_nil]); rfl) ?_
    refine Calls.mono (escutcheonref1_PutBig.calls (v.size : Int) 2 _ W (big_ok _ _ (by omega) (by omega) (by decide) (by decide))) ?_
    rintro e W1 ⟨rfl, hb1⟩
    refine ⟨_, rfl, ?_⟩
    exact ⟨x4, x42, x43, x44, x45, x46, x47, x48, x49, x50, x51, x52, x53, x54, x55, x56, x57, x58, x59, x60, .int .u64 (v.size : Int), .string (big2 v.size), x63, x64, x65, x66, x67, x68, x69, x70, x71, x72, x73, rfl, h0, h1, h2, fun hL h4 => blk3_ (h3 hL h4) hb1, h4, h5, h6, h7, h8, h9, h10, h11, h12, h13, h14, h15, h16, h17, h18, fun _ => rfl, fun _ => rfl, h21, h22, h23, h24, h25, h26, h27, h28, fun hL h4 => blk3_ (h29 hL h4) hb1, h30, h31, h32, blk_below hg hb1, below_step hb hb1⟩
  · obtain rfl : ({ dst := some 63, op := Go.Op.binOp Go.BinOp.add 9 (Go.Operand.tmp 57) (Go.Operand.tmp 62) 9, type := 9, pos := "crypto.go:492", after := #[{ on := 15, ground := Go.Ground.data }, { on := 20, ground := Go.Ground.data }], guard := none } : Oper) = o := Option.some.inj ho   -- 21
    obtain rfl := h15 (dep_ haft 0 rfl)
    obtain rfl := h20 (dep_ haft 1 rfl)
    have hz5 : (((oneB (e % 256)) ++ (strOfNums (pcells (a0 + 1000000000000) 8 8))) ++ (strOfNums (pcells b0 8 8))).size = 17 := by simp only [ByteArray.size_append, oneB_size, strOfNums_size, pcells_length, big2_size]
    have hz6 : (big2 v.size).size = 2 := by simp only [ByteArray.size_append, oneB_size, strOfNums_size, pcells_length, big2_size]
    refine value_ (v := .string ((((oneB (e % 256)) ++ (strOfNums (pcells (a0 + 1000000000000) 8 8))) ++ (strOfNums (pcells b0 8 8))) ++ big2 v.size)) (w1 := W) (by rfl) rfl ?_ ?_
    · go_simp; try rfl
    exact ⟨x4, x42, x43, x44, x45, x46, x47, x48, x49, x50, x51, x52, x53, x54, x55, x56, .string (((oneB (e % 256)) ++ (strOfNums (pcells (a0 + 1000000000000) 8 8))) ++ (strOfNums (pcells b0 8 8))), x58, x59, x60, x61, .string (big2 v.size), .string ((((oneB (e % 256)) ++ (strOfNums (pcells (a0 + 1000000000000) 8 8))) ++ (strOfNums (pcells b0 8 8))) ++ big2 v.size), x64, x65, x66, x67, x68, x69, x70, x71, x72, x73, rfl, h0, h1, h2, h3, h4, h5, h6, h7, h8, h9, h10, h11, h12, h13, h14, fun _ => rfl, h16, h17, h18, h19, fun _ => rfl, fun _ => rfl, h22, h23, h24, h25, h26, h27, h28, h29, h30, h31, h32, hg, hb⟩
  · obtain rfl : ({ dst := some 64, op := Go.Op.fieldAddr 25 (Go.Operand.tmp 1) 1, type := 0, pos := "crypto.go:492", after := #[], guard := none } : Oper) = o := Option.some.inj ho   -- 22
    refine value_ (v := .pointer (some ⟨g, 1, none⟩)) (w1 := W) (by rfl) rfl ?_ ?_
    · go_simp; try rfl
    exact ⟨x4, x42, x43, x44, x45, x46, x47, x48, x49, x50, x51, x52, x53, x54, x55, x56, x57, x58, x59, x60, x61, x62, x63, .pointer (some ⟨g, 1, none⟩), x65, x66, x67, x68, x69, x70, x71, x72, x73, rfl, h0, h1, h2, h3, h4, h5, h6, h7, h8, h9, h10, h11, h12, h13, h14, h15, h16, h17, h18, h19, h20, h21, fun _ => rfl, h23, h24, h25, h26, h27, h28, h29, h30, h31, h32, hg, hb⟩
  · obtain rfl : ({ dst := some 65, op := Go.Op.load 9 (Go.Operand.tmp 64), type := 9, pos := "crypto.go:492", after := #[{ on := 22, ground := Go.Ground.data }], guard := none } : Oper) = o := Option.some.inj ho   -- 23
    obtain rfl := h22 (dep_ haft 0 rfl)
    have hc : W.cell? ⟨g, 1, none⟩ = some (.string v) := (blk_cell hg 1).trans rfl
    refine value_ (v := .string v) (w1 := W) (by rfl) rfl ?_ ?_
    · go_simp; try rfl
    exact ⟨x4, x42, x43, x44, x45, x46, x47, x48, x49, x50, x51, x52, x53, x54, x55, x56, x57, x58, x59, x60, x61, x62, x63, .pointer (some ⟨g, 1, none⟩), .string v, x66, x67, x68, x69, x70, x71, x72, x73, rfl, h0, h1, h2, h3, h4, h5, h6, h7, h8, h9, h10, h11, h12, h13, h14, h15, h16, h17, h18, h19, h20, h21, fun _ => rfl, fun _ => rfl, h24, h25, h26, h27, h28, h29, h30, h31, h32, hg, hb⟩
  · obtain rfl : ({ dst := some 66, op := Go.Op.binOp Go.BinOp.add 9 (Go.Operand.tmp 63) (Go.Operand.tmp 65) 9, type := 9, pos := "crypto.go:492", after := #[{ on := 21, ground := Go.Ground.data }, { on := 23, ground := Go.Ground.data }], guard := none } : Oper) = o := Option.some.inj ho   -- 24
    obtain rfl := h21 (dep_ haft 0 rfl)
    obtain rfl := h23 (dep_ haft 1 rfl)
    have hz7 : ((((oneB (e % 256)) ++ (strOfNums (pcells (a0 + 1000000000000) 8 8))) ++ (strOfNums (pcells b0 8 8))) ++ big2 v.size).size = 19 := by simp only [ByteArray.size_append, oneB_size, strOfNums_size, pcells_length, big2_size]
    have hz3 : (9223372036854775807 < 19 + v.size) = False := eq_false (by omega)
    refine value_ (v := .string (((((oneB (e % 256)) ++ (strOfNums (pcells (a0 + 1000000000000) 8 8))) ++ (strOfNums (pcells b0 8 8))) ++ big2 v.size) ++ v)) (w1 := W) (by rfl) rfl ?_ ?_
    · go_simp; try rfl
    exact ⟨x4, x42, x43, x44, x45, x46, x47, x48, x49, x50, x51, x52, x53, x54, x55, x56, x57, x58, x59, x60, x61, x62, .string ((((oneB (e % 256)) ++ (strOfNums (pcells (a0 + 1000000000000) 8 8))) ++ (strOfNums (pcells b0 8 8))) ++ big2 v.size), x64, .string v, .string (((((oneB (e % 256)) ++ (strOfNums (pcells (a0 + 1000000000000) 8 8))) ++ (strOfNums (pcells b0 8 8))) ++ big2 v.size) ++ v), x67, x68, x69, x70, x71, x72, x73, rfl, h0, h1, h2, h3, h4, h5, h6, h7, h8, h9, h10, h11, h12, h13, h14, h15, h16, h17, h18, h19, h20, fun _ => rfl, h22, fun _ => rfl, fun _ => rfl, h25, h26, h27, h28, h29, h30, h31, h32, hg, hb⟩
  · obtain rfl : ({ dst := some 67, op := Go.Op.fieldAddr 25 (Go.Operand.tmp 1) 4, type := 0, pos := "crypto.go:492", after := #[], guard := none } : Oper) = o := Option.some.inj ho   -- 25
    refine value_ (v := .pointer (some ⟨g, 4, none⟩)) (w1 := W) (by rfl) rfl ?_ ?_
    · go_simp; try rfl
    exact ⟨x4, x42, x43, x44, x45, x46, x47, x48, x49, x50, x51, x52, x53, x54, x55, x56, x57, x58, x59, x60, x61, x62, x63, x64, x65, x66, .pointer (some ⟨g, 4, none⟩), x68, x69, x70, x71, x72, x73, rfl, h0, h1, h2, h3, h4, h5, h6, h7, h8, h9, h10, h11, h12, h13, h14, h15, h16, h17, h18, h19, h20, h21, h22, h23, h24, fun _ => rfl, h26, h27, h28, h29, h30, h31, h32, hg, hb⟩
  · obtain rfl : ({ dst := some 68, op := Go.Op.load 23 (Go.Operand.tmp 67), type := 23, pos := "crypto.go:492", after := #[{ on := 25, ground := Go.Ground.data }], guard := none } : Oper) = o := Option.some.inj ho   -- 26
    obtain rfl := h25 (dep_ haft 0 rfl)
    have hc : W.cell? ⟨g, 4, none⟩ = some (.slice A l.length c) := (blk_cell hg 4).trans rfl
    refine value_ (v := .slice A l.length c) (w1 := W) (by rfl) rfl ?_ ?_
    · go_simp; try rfl
    exact ⟨x4, x42, x43, x44, x45, x46, x47, x48, x49, x50, x51, x52, x53, x54, x55, x56, x57, x58, x59, x60, x61, x62, x63, x64, x65, x66, .pointer (some ⟨g, 4, none⟩), .slice A l.length c, x69, x70, x71, x72, x73, rfl, h0, h1, h2, h3, h4, h5, h6, h7, h8, h9, h10, h11, h12, h13, h14, h15, h16, h17, h18, h19, h20, h21, h22, h23, h24, fun _ => rfl, fun _ => rfl, h27, h28, h29, h30, h31, h32, hg, hb⟩
  · obtain rfl : ({ dst := some 69, op := Go.Op.call { callee := Go.Callee.builtin Go.Builtin.len, args := #[Go.Operand.tmp 68], argTypes := #[23] }, type := 3, pos := "crypto.go:492", after := #[{ on := 26, ground := Go.Ground.data }], guard := none } : Oper) = o := Option.some.inj ho   -- 27
    obtain rfl := h26 (dep_ haft 0 rfl)
    refine value_ (v := .int .i64 (l.length : Int)) (w1 := W) (by rfl) rfl ?_ ?_
    · go_simp; try rfl
    exact ⟨x4, x42, x43, x44, x45, x46, x47, x48, x49, x50, x51, x52, x53, x54, x55, x56, x57, x58, x59, x60, x61, x62, x63, x64, x65, x66, x67, .slice A l.length c, .int .i64 (l.length : Int), x70, x71, x72, x73, rfl, h0, h1, h2, h3, h4, h5, h6, h7, h8, h9, h10, h11, h12, h13, h14, h15, h16, h17, h18, h19, h20, h21, h22, h23, h24, h25, fun _ => rfl, fun _ => rfl, h28, h29, h30, h31, h32, hg, hb⟩
  · obtain rfl : ({ dst := some 70, op := Go.Op.convert 3 5 (Go.Operand.tmp 69), type := 5, pos := "crypto.go:492", after := #[{ on := 27, ground := Go.Ground.data }], guard := none } : Oper) = o := Option.some.inj ho   -- 28
    obtain rfl := h27 (dep_ haft 0 rfl)
    refine value_ (v := .int .u8 ((l.length : Int) % 256)) (w1 := W) (by rfl) rfl ?_ ?_
    · go_simp; try rfl
    exact ⟨x4, x42, x43, x44, x45, x46, x47, x48, x49, x50, x51, x52, x53, x54, x55, x56, x57, x58, x59, x60, x61, x62, x63, x64, x65, x66, x67, x68, .int .i64 (l.length : Int), .int .u8 ((l.length : Int) % 256), x71, x72, x73, rfl, h0, h1, h2, h3, h4, h5, h6, h7, h8, h9, h10, h11, h12, h13, h14, h15, h16, h17, h18, h19, h20, h21, h22, h23, h24, h25, h26, fun _ => rfl, fun _ => rfl, h29, h30, h31, h32, hg, hb⟩
  · obtain rfl : ({ dst := some 71, op := Go.Op.buildSlice 55 1 #[(0, Go.Operand.tmp 70)], type := 55, pos := "crypto.go:492", after := #[{ on := 28, ground := Go.Ground.data }], guard := none } : Oper) = o := Option.some.inj ho   -- 29
    obtain rfl := h28 (dep_ haft 0 rfl)
    refine value_ (v := (.slice (some ⟨W.heap.size, 0, none⟩) 1 1)) (w1 := W.alloc (.cells #[.int .u8 ((l.length : Int) % 256)] 5)) (by rfl) rfl ?_ ?_
    · go_simp; try rfl
    exact ⟨x4, x42, x43, x44, x45, x46, x47, x48, x49, x50, x51, x52, x53, x54, x55, x56, x57, x58, x59, x60, x61, x62, x63, x64, x65, x66, x67, x68, x69, .int .u8 ((l.length : Int) % 256), (.slice (some ⟨W.heap.size, 0, none⟩) 1 1), x72, x73, rfl, h0, h1, h2, fun hL h4 => blk3_ (h3 hL h4) ((Below.refl W.heap.size W).alloc (Nat.le_refl _) _), h4, h5, h6, h7, h8, h9, h10, h11, h12, h13, h14, h15, h16, h17, h18, h19, h20, h21, h22, h23, h24, h25, h26, h27, fun _ => rfl, fun _ => fun _ => ⟨_, rfl, heap_alloc_new W _⟩, h30, h31, h32, blk_below hg ((Below.refl W.heap.size W).alloc (Nat.le_refl _) _), below_step hb ((Below.refl W.heap.size W).alloc (Nat.le_refl _) _)⟩
  · obtain rfl : ({ dst := some 72, op := Go.Op.convert 55 9 (Go.Operand.tmp 71), type := 9, pos := "crypto.go:492", after := #[{ on := 29, ground := Go.Ground.data }], guard := none } : Oper) = o := Option.some.inj ho   -- 30
    obtain ⟨h, rfl, hh⟩ := h29 (dep_ haft 0 rfl) hLi
    have hcv := conv_h hh
    refine value_ (v := .string (oneB ((l.length : Int) % 256))) (w1 := W) (by rfl) rfl ?_ ?_
    · go_simp; try rfl
    exact ⟨x4, x42, x43, x44, x45, x46, x47, x48, x49, x50, x51, x52, x53, x54, x55, x56, x57, x58, x59, x60, x61, x62, x63, x64, x65, x66, x67, x68, x69, x70, (.slice (some ⟨h, 0, none⟩) 1 1), .string (oneB ((l.length : Int) % 256)), x73, rfl, h0, h1, h2, h3, h4, h5, h6, h7, h8, h9, h10, h11, h12, h13, h14, h15, h16, h17, h18, h19, h20, h21, h22, h23, h24, h25, h26, h27, h28, fun _ h4 => Bool.noConfusion h4, fun _ => rfl, h31, h32, hg, hb⟩
  · obtain rfl : ({ dst := some 73, op := Go.Op.binOp Go.BinOp.add 9 (Go.Operand.tmp 66) (Go.Operand.tmp 72) 9, type := 9, pos := "crypto.go:492", after := #[{ on := 24, ground := Go.Ground.data }, { on := 30, ground := Go.Ground.data }], guard := none } : Oper) = o := Option.some.inj ho   -- 31
    obtain rfl := h24 (dep_ haft 0 rfl)
    obtain rfl := h30 (dep_ haft 1 rfl)
    have hz8 : (((((oneB (e % 256)) ++ (strOfNums (pcells (a0 + 1000000000000) 8 8))) ++ (strOfNums (pcells b0 8 8))) ++ big2 v.size) ++ v).size = 19 + v.size := by simp only [ByteArray.size_append, oneB_size, strOfNums_size, pcells_length, big2_size]
    have hz9 : (oneB ((l.length : Int) % 256)).size = 1 := by simp only [ByteArray.size_append, oneB_size, strOfNums_size, pcells_length, big2_size]
    have hz3 : (9223372036854775807 < 19 + v.size + 1) = False := eq_false (by omega)
    refine value_ (v := .string ((((((oneB (e % 256)) ++ (strOfNums (pcells (a0 + 1000000000000) 8 8))) ++ (strOfNums (pcells b0 8 8))) ++ big2 v.size) ++ v) ++ (oneB ((l.length : Int) % 256)))) (w1 := W) (by rfl) rfl ?_ ?_
    · go_simp; try rfl
    exact ⟨x4, x42, x43, x44, x45, x46, x47, x48, x49, x50, x51, x52, x53, x54, x55, x56, x57, x58, x59, x60, x61, x62, x63, x64, x65, .string (((((oneB (e % 256)) ++ (strOfNums (pcells (a0 + 1000000000000) 8 8))) ++ (strOfNums (pcells b0 8 8))) ++ big2 v.size) ++ v), x67, x68, x69, x70, x71, .string (oneB ((l.length : Int) % 256)), .string ((((((oneB (e % 256)) ++ (strOfNums (pcells (a0 + 1000000000000) 8 8))) ++ (strOfNums (pcells b0 8 8))) ++ big2 v.size) ++ v) ++ (oneB ((l.length : Int) % 256))), rfl, h0, h1, h2, h3, h4, h5, h6, h7, h8, h9, h10, h11, h12, h13, h14, h15, h16, h17, h18, h19, h20, h21, h22, h23, fun _ => rfl, h25, h26, h27, h28, h29, fun _ => rfl, fun _ => rfl, h32, hg, hb⟩
  · obtain rfl : ({ dst := some 4, op := Go.Op.assign (Go.Operand.tmp 73), type := 9, pos := "crypto.go:492", after := #[{ on := 31, ground := Go.Ground.data }, { on := 20, ground := Go.Ground.chain }, { on := 0, ground := Go.Ground.phase }, { on := 1, ground := Go.Ground.phase }, { on := 2, ground := Go.Ground.phase }, { on := 3, ground := Go.Ground.phase }, { on := 4, ground := Go.Ground.phase }, { on := 5, ground := Go.Ground.phase }, { on := 6, ground := Go.Ground.phase }, { on := 7, ground := Go.Ground.phase }, { on := 8, ground := Go.Ground.phase }, { on := 9, ground := Go.Ground.phase }, { on := 10, ground := Go.Ground.phase }, { on := 11, ground := Go.Ground.phase }, { on := 12, ground := Go.Ground.phase }, { on := 13, ground := Go.Ground.phase }, { on := 14, ground := Go.Ground.phase }, { on := 15, ground := Go.Ground.phase }, { on := 16, ground := Go.Ground.phase }, { on := 17, ground := Go.Ground.phase }, { on := 18, ground := Go.Ground.phase }, { on := 19, ground := Go.Ground.phase }, { on := 20, ground := Go.Ground.phase }, { on := 21, ground := Go.Ground.phase }, { on := 22, ground := Go.Ground.phase }, { on := 23, ground := Go.Ground.phase }, { on := 24, ground := Go.Ground.phase }, { on := 25, ground := Go.Ground.phase }, { on := 26, ground := Go.Ground.phase }, { on := 27, ground := Go.Ground.phase }, { on := 28, ground := Go.Ground.phase }, { on := 29, ground := Go.Ground.phase }, { on := 30, ground := Go.Ground.phase }, { on := 31, ground := Go.Ground.phase }], guard := none } : Oper) = o := Option.some.inj ho   -- 32
    obtain rfl := h31 (dep_ haft 0 rfl)
    refine value_ (v := .string ((((((oneB (e % 256)) ++ (strOfNums (pcells (a0 + 1000000000000) 8 8))) ++ (strOfNums (pcells b0 8 8))) ++ big2 v.size) ++ v) ++ (oneB ((l.length : Int) % 256)))) (w1 := W) (by rfl) rfl ?_ ?_
    · go_simp; try rfl
    exact ⟨.string ((((((oneB (e % 256)) ++ (strOfNums (pcells (a0 + 1000000000000) 8 8))) ++ (strOfNums (pcells b0 8 8))) ++ big2 v.size) ++ v) ++ (oneB ((l.length : Int) % 256))), x42, x43, x44, x45, x46, x47, x48, x49, x50, x51, x52, x53, x54, x55, x56, x57, x58, x59, x60, x61, x62, x63, x64, x65, x66, x67, x68, x69, x70, x71, x72, .string ((((((oneB (e % 256)) ++ (strOfNums (pcells (a0 + 1000000000000) 8 8))) ++ (strOfNums (pcells b0 8 8))) ++ big2 v.size) ++ v) ++ (oneB ((l.length : Int) % 256))), rfl, h0, h1, h2, h3, h4, h5, h6, h7, h8, h9, h10, h11, h12, h13, h14, h15, h16, h17, h18, h19, h20, h21, h22, h23, h24, h25, h26, h27, h28, h29, h30, fun _ => rfl, fun _ => rfl, hg, hb⟩
  · cases ho
theorem Ip3.region {Q : Exit → Act → World → Prop} (e : Int) (v : ByteArray) (a0 b0 : Int) (A : Option Addr) (c : Nat) (l : List ByteArray) (w : World) (g : Nat) (p0 p2 p3 p5 p6 p7 p8 p9 p10 p11 p12 p13 p14 p15 p16 p17 p18 p19 p20 p21 p22 p23 p24 p25 p26 p27 p28 p29 p30 p31 p32 p33 p34 p35 p36 p37 p38 p39 p40 p41 p74 p75 p76 p77 p78 p79 p80 p81 p82 p83 p84 p85 p86 p87 p88 p89 p90 p91 p92 p93 p94 p95 p96 p97 p98 p99 p100 p101 p102 p103 p104 p105 : Value) (u4 u42 u43 u44 u45 u46 u47 u48 u49 u50 u51 u52 u53 u54 u55 u56 u57 u58 u59 u60 u61 u62 u63 u64 u65 u66 u67 u68 u69 u70 u71 u72 u73 : Value) (hN : NumP a0 b0) (hv : v.size ≤ 500) (hg0 : w.heap[g]? = some (.cells #[.int .i64 e, .string v, .int .i64 a0, .int .i64 b0, .slice A l.length c] 25 (0, 0)))
    (hQ : ∀ (W : World) (x42 x43 x44 x45 x46 x47 x48 x49 x50 x51 x52 x53 x54 x55 x56 x57 x58 x59 x60 x61 x62 x63 x64 x65 x66 x67 x68 x69 x70 x71 x72 x73 : Value), W.heap[g]? = some (.cells #[.int .i64 e, .string v, .int .i64 a0, .int .i64 b0, .slice A l.length c] 25 (0, 0)) → Below w.heap.size w W → Q .normal ⟨#[p0, (.pointer (some ⟨g, 0, none⟩)), p2, p3, .string ((((((oneB (e % 256)) ++ (strOfNums (pcells (a0 + 1000000000000) 8 8))) ++ (strOfNums (pcells b0 8 8))) ++ big2 v.size) ++ v) ++ (oneB ((l.length : Int) % 256))), p5, p6, p7, p8, p9, p10, p11, p12, p13, p14, p15, p16, p17, p18, p19, p20, p21, p22, p23, p24, p25, p26, p27, p28, p29, p30, p31, p32, p33, p34, p35, p36, p37, p38, p39, p40, p41, x42, x43, x44, x45, x46, x47, x48, x49, x50, x51, x52, x53, x54, x55, x56, x57, x58, x59, x60, x61, x62, x63, x64, x65, x66, x67, x68, x69, x70, x71, x72, x73, p74, p75, p76, p77, p78, p79, p80, p81, p82, p83, p84, p85, p86, p87, p88, p89, p90, p91, p92, p93, p94, p95, p96, p97, p98, p99, p100, p101, p102, p103, p104, p105], []⟩ W) :
    (Code.region 3 (opsOf Tryz.f7 3) true).wp Tryz.prog Q ⟨#[p0, (.pointer (some ⟨g, 0, none⟩)), p2, p3, u4, p5, p6, p7, p8, p9, p10, p11, p12, p13, p14, p15, p16, p17, p18, p19, p20, p21, p22, p23, p24, p25, p26, p27, p28, p29, p30, p31, p32, p33, p34, p35, p36, p37, p38, p39, p40, p41, u42, u43, u44, u45, u46, u47, u48, u49, u50, u51, u52, u53, u54, u55, u56, u57, u58, u59, u60, u61, u62, u63, u64, u65, u66, u67, u68, u69, u70, u71, u72, u73, p74, p75, p76, p77, p78, p79, p80, p81, p82, p83, p84, p85, p86, p87, p88, p89, p90, p91, p92, p93, p94, p95, p96, p97, p98, p99, p100, p101, p102, p103, p104, p105], []⟩ w := by
  refine wp_region_inv2 (by kernel_rfl) (by kernel_rfl) (Ip3 e v a0 b0 A c l w g p0 p2 p3 p5 p6 p7 p8 p9 p10 p11 p12 p13 p14 p15 p16 p17 p18 p19 p20 p21 p22 p23 p24 p25 p26 p27 p28 p29 p30 p31 p32 p33 p34 p35 p36 p37 p38 p39 p40 p41 p74 p75 p76 p77 p78 p79 p80 p81 p82 p83 p84 p85 p86 p87 p88 p89 p90 p91 p92 p93 p94 p95 p96 p97 p98 p99 p100 p101 p102 p103 p104 p105) ?_ (Ip3.step e v a0 b0 A c l w g p0 p2 p3 p5 p6 p7 p8 p9 p10 p11 p12 p13 p14 p15 p16 p17 p18 p19 p20 p21 p22 p23 p24 p25 p26 p27 p28 p29 p30 p31 p32 p33 p34 p35 p36 p37 p38 p39 p40 p41 p74 p75 p76 p77 p78 p79 p80 p81 p82 p83 p84 p85 p86 p87 p88 p89 p90 p91 p92 p93 p94 p95 p96 p97 p98 p99 p100 p101 p102 p103 p104 p105 (Nat.le_refl _) hN hv) ?_
  · have no : ∀ {p : Prop}, false = true → p := fun h => Bool.noConfusion h
    exact ⟨u4, u42, u43, u44, u45, u46, u47, u48, u49, u50, u51, u52, u53, u54, u55, u56, u57, u58, u59, u60, u61, u62, u63, u64, u65, u66, u67, u68, u69, u70, u71, u72, u73, rfl, no, no, no, no, no, no, no, no, no, no, no, no, no, no, no, no, no, no, no, no, no, no, no, no, no, no, no, no, no, no, no, no, no, hg0, (Below.refl _ _).drew⟩
  rintro L a' W hall ⟨x4, x42, x43, x44, x45, x46, x47, x48, x49, x50, x51, x52, x53, x54, x55, x56, x57, x58, x59, x60, x61, x62, x63, x64, x65, x66, x67, x68, x69, x70, x71, x72, x73, rfl, h0, h1, h2, h3, h4, h5, h6, h7, h8, h9, h10, h11, h12, h13, h14, h15, h16, h17, h18, h19, h20, h21, h22, h23, h24, h25, h26, h27, h28, h29, h30, h31, h32, hg, hb⟩
  obtain rfl := h32 (hall 32 (by decide))
  exact hQ W x42 x43 x44 x45 x46 x47 x48 x49 x50 x51 x52 x53 x54 x55 x56 x57 x58 x59 x60 x61 x62 x63 x64 x65 x66 x67 x68 x69 x70 x71 x72 x73 hg hb
def Ip9 (e : Int) (v : ByteArray) (a0 b0 : Int) (c : Nat) (l : List ByteArray) (S kk : ByteArray) (ad : Addr) (q : Nat) (w : World) (g : Nat) (p0 p2 p3 p6 p7 p8 p9 p10 p11 p12 p13 p14 p15 p16 p17 p18 p19 p20 p21 p22 p23 p24 p25 p26 p27 p28 p29 p30 p31 p32 p33 p34 p35 p36 p37 p38 p39 p40 p41 p42 p43 p44 p45 p46 p47 p48 p49 p50 p51 p52 p53 p54 p55 p56 p57 p58 p59 p60 p61 p62 p63 p64 p65 p66 p67 p68 p69 p70 p71 p72 p73 p74 p75 p76 p77 p78 p79 p80 p81 p82 p83 p84 p85 p86 p87 p105 : Value) (L : Nat → Bool) (a : Act) (W : World) : Prop :=
  ∃ x4 x88 x89 x90 x91 x92 x93 x94 x95 x96 x97 x98 x99 x100 x101 x102 x103 x104 : Value, a = ⟨#[p0, (.pointer (some ⟨g, 0, none⟩)), p2, p3, x4, (.int .i64 (q : Int)), p6, p7, p8, p9, p10, p11, p12, p13, p14, p15, p16, p17, p18, p19, p20, p21, p22, p23, p24, p25, p26, p27, p28, p29, p30, p31, p32, p33, p34, p35, p36, p37, p38, p39, p40, p41, p42, p43, p44, p45, p46, p47, p48, p49, p50, p51, p52, p53, p54, p55, p56, p57, p58, p59, p60, p61, p62, p63, p64, p65, p66, p67, p68, p69, p70, p71, p72, p73, p74, p75, p76, p77, p78, p79, p80, p81, p82, p83, p84, p85, p86, p87, x88, x89, x90, x91, x92, x93, x94, x95, x96, x97, x98, x99, x100, x101, x102, x103, x104, p105], []⟩ ∧ (L 0 = true → x88 = .string S) ∧ (L 1 = true → x89 = .pointer (some ⟨g, 4, none⟩)) ∧ (L 2 = true → x90 = .slice (some ad) l.length c) ∧ (L 3 = true → x91 = .int .i64 (q : Int)) ∧ (L 4 = true → x92 = .pointer (some (ad.add q))) ∧ (L 5 = true → x93 = .string kk) ∧ (L 6 = true → x94 = .int .i64 (kk.size : Int)) ∧ (L 7 = true → x95 = .int .u8 ((kk.size : Int) % 256)) ∧ (L 8 = true → (L 9 = false → ∃ h, x96 = .slice (some ⟨h, 0, none⟩) 1 1 ∧ W.heap[h]? = some (.cells #[.int .u8 ((kk.size : Int) % 256)] 5 (0, 0)))) ∧ (L 9 = true → x97 = .string (oneB ((kk.size : Int) % 256))) ∧ (L 10 = true → x98 = .string (S ++ (oneB ((kk.size : Int) % 256)))) ∧ (L 11 = true → x99 = .pointer (some ⟨g, 4, none⟩)) ∧ (L 12 = true → x100 = .slice (some ad) l.length c) ∧ (L 13 = true → x101 = .int .i64 (q : Int)) ∧ (L 14 = true → x102 = .pointer (some (ad.add q))) ∧ (L 15 = true → x103 = .string kk) ∧ (L 16 = true → x104 = .string ((S ++ (oneB ((kk.size : Int) % 256))) ++ kk)) ∧ (L 17 = true → x4 = .string ((S ++ (oneB ((kk.size : Int) % 256))) ++ kk)) ∧ (W.heap[g]? = some (.cells #[.int .i64 e, .string v, .int .i64 a0, .int .i64 b0, .slice (some ad) l.length c] 25 (0, 0))) ∧ (Below w.heap.size w W) ∧ (L 17 = false → x4 = .string S)
set_option maxHeartbeats 1600000 in
set_option maxRecDepth 100000 in
theorem Ip9.step (e : Int) (v : ByteArray) (a0 b0 : Int) (c : Nat) (l : List ByteArray) (S kk : ByteArray) (ad : Addr) (q : Nat) (w : World) (g : Nat) (p0 p2 p3 p6 p7 p8 p9 p10 p11 p12 p13 p14 p15 p16 p17 p18 p19 p20 p21 p22 p23 p24 p25 p26 p27 p28 p29 p30 p31 p32 p33 p34 p35 p36 p37 p38 p39 p40 p41 p42 p43 p44 p45 p46 p47 p48 p49 p50 p51 p52 p53 p54 p55 p56 p57 p58 p59 p60 p61 p62 p63 p64 p65 p66 p67 p68 p69 p70 p71 p72 p73 p74 p75 p76 p77 p78 p79 p80 p81 p82 p83 p84 p85 p86 p87 p105 : Value) (hgl : w.heap.size ≤ w.heap.size) (hcell : w.cell? (ad.add q) = some (.string kk)) (hq : q < l.length) (hlc : l.length ≤ c) (hkk : kk.size ≤ 60) (hSz : S.size ≤ 100000) {Q : Exit → Act → World → Prop} : ∀ i o L a W, (opsOf Tryz.f7 9)[i]? = some o → L i = false → o.after.all (fun e => !Region.binds .any e || L e.on) = true → ClosedL (opsOf Tryz.f7 9) L → Ip9 e v a0 b0 c l S kk ad q w g p0 p2 p3 p6 p7 p8 p9 p10 p11 p12 p13 p14 p15 p16 p17 p18 p19 p20 p21 p22 p23 p24 p25 p26 p27 p28 p29 p30 p31 p32 p33 p34 p35 p36 p37 p38 p39 p40 p41 p42 p43 p44 p45 p46 p47 p48 p49 p50 p51 p52 p53 p54 p55 p56 p57 p58 p59 p60 p61 p62 p63 p64 p65 p66 p67 p68 p69 p70 p71 p72 p73 p74 p75 p76 p77 p78 p79 p80 p81 p82 p83 p84 p85 p86 p87 p105 L a W →
    if Region.wanted o (yielded (opsOf Tryz.f7 9) a.tmps) = true then Oper.wp Tryz.prog o a W (fun a' w' => Ip9 e v a0 b0 c l S kk ad q w g p0 p2 p3 p6 p7 p8 p9 p10 p11 p12 p13 p14 p15 p16 p17 p18 p19 p20 p21 p22 p23 p24 p25 p26 p27 p28 p29 p30 p31 p32 p33 p34 p35 p36 p37 p38 p39 p40 p41 p42 p43 p44 p45 p46 p47 p48 p49 p50 p51 p52 p53 p54 p55 p56 p57 p58 p59 p60 p61 p62 p63 p64 p65 p66 p67 p68 p69 p70 p71 p72 p73 p74 p75 p76 p77 p78 p79 p80 p81 p82 p83 p84 p85 p86 p87 p105 (fun j => j == i || L j) a' w') Q else Ip9 e v a0 b0 c l S kk ad q w g p0 p2 p3 p6 p7 p8 p9 p10 p11 p12 p13 p14 p15 p16 p17 p18 p19 p20 p21 p22 p23 p24 p25 p26 p27 p28 p29 p30 p31 p32 p33 p34 p35 p36 p37 p38 p39 p40 p41 p42 p43 p44 p45 p46 p47 p48 p49 p50 p51 p52 p53 p54 p55 p56 p57 p58 p59 p60 p61 p62 p63 p64 p65 p66 p67 p68 p69 p70 p71 p72 p73 p74 p75 p76 p77 p78 p79 p80 p81 p82 p83 p84 p85 p86 p87 p105 (fun j => j == i || L j) (a.put o.dst undef) W := by
  intro i o L a W ho hLi haft hcl hI
  obtain ⟨x4, x88, x89, x90, x91, x92, x93, x94, x95, x96, x97, x98, x99, x100, x101, x102, x103, x104, rfl, h0, h1, h2, h3, h4, h5, h6, h7, h8, h9, h10, h11, h12, h13, h14, h15, h16, h17, hg, hb, h4s⟩ := hI
  rcases i with _|_|_|_|_|_|_|_|_|_|_|_|_|_|_|_|_|_|_
  · obtain rfl : ({ dst := some 88, op := Go.Op.move (Go.Operand.tmp 4), type := 9, pos := "crypto.go:497", after := #[], guard := none } : Oper) = o := Option.some.inj ho   -- 0
    obtain rfl := h4s (no_f hcl 17 (by rfl) 1 rfl hLi)
    refine value_ (v := .string S) (w1 := W) (by rfl) rfl ?_ ?_
    · go_simp; try rfl
    exact ⟨.string S, .string S, x89, x90, x91, x92, x93, x94, x95, x96, x97, x98, x99, x100, x101, x102, x103, x104, rfl, fun _ => rfl, h1, h2, h3, h4, h5, h6, h7, h8, h9, h10, h11, h12, h13, h14, h15, h16, fun hL => absurd hL (no_ hcl 17 (by rfl) 1 rfl hLi), hg, hb, fun _ => rfl⟩
  · obtain rfl : ({ dst := some 89, op := Go.Op.fieldAddr 25 (Go.Operand.tmp 1) 4, type := 0, pos := "crypto.go:497", after := #[], guard := none } : Oper) = o := Option.some.inj ho   -- 1
    refine value_ (v := .pointer (some ⟨g, 4, none⟩)) (w1 := W) (by rfl) rfl ?_ ?_
    · go_simp; try rfl
    exact ⟨x4, x88, .pointer (some ⟨g, 4, none⟩), x90, x91, x92, x93, x94, x95, x96, x97, x98, x99, x100, x101, x102, x103, x104, rfl, h0, fun _ => rfl, h2, h3, h4, h5, h6, h7, h8, h9, h10, h11, h12, h13, h14, h15, h16, h17, hg, hb, h4s⟩
  · obtain rfl : ({ dst := some 90, op := Go.Op.load 23 (Go.Operand.tmp 89), type := 23, pos := "crypto.go:497", after := #[{ on := 1, ground := Go.Ground.data }], guard := none } : Oper) = o := Option.some.inj ho   -- 2
    obtain rfl := h1 (dep_ haft 0 rfl)
    have hc : W.cell? ⟨g, 4, none⟩ = some (.slice (some ad) l.length c) := (blk_cell hg 4).trans rfl
    refine value_ (v := .slice (some ad) l.length c) (w1 := W) (by rfl) rfl ?_ ?_
    · go_simp; try rfl
    exact ⟨x4, x88, .pointer (some ⟨g, 4, none⟩), .slice (some ad) l.length c, x91, x92, x93, x94, x95, x96, x97, x98, x99, x100, x101, x102, x103, x104, rfl, h0, fun _ => rfl, fun _ => rfl, h3, h4, h5, h6, h7, h8, h9, h10, h11, h12, h13, h14, h15, h16, h17, hg, hb, h4s⟩
  · obtain rfl : ({ dst := some 91, op := Go.Op.move (Go.Operand.tmp 5), type := 3, pos := "crypto.go:497", after := #[], guard := none } : Oper) = o := Option.some.inj ho   -- 3
    refine value_ (v := .int .i64 (q : Int)) (w1 := W) (by rfl) rfl ?_ ?_
    · go_simp; try rfl
    exact ⟨x4, x88, x89, x90, .int .i64 (q : Int), x92, x93, x94, x95, x96, x97, x98, x99, x100, x101, x102, x103, x104, rfl, h0, h1, h2, fun _ => rfl, h4, h5, h6, h7, h8, h9, h10, h11, h12, h13, h14, h15, h16, h17, hg, hb, h4s⟩
  · obtain rfl : ({ dst := some 92, op := Go.Op.indexAddr 23 (Go.Operand.tmp 90) (Go.Operand.tmp 91), type := 0, pos := "crypto.go:497", after := #[{ on := 2, ground := Go.Ground.data }, { on := 3, ground := Go.Ground.data }], guard := none } : Oper) = o := Option.some.inj ho   -- 4
    obtain rfl := h2 (dep_ haft 0 rfl)
    obtain rfl := h3 (dep_ haft 1 rfl)
    refine value_ (v := .pointer (some (ad.add q))) (w1 := W) (by rfl) rfl ?_ ?_
    · go_simp; try rfl
    exact ⟨x4, x88, x89, .slice (some ad) l.length c, .int .i64 (q : Int), .pointer (some (ad.add q)), x93, x94, x95, x96, x97, x98, x99, x100, x101, x102, x103, x104, rfl, h0, h1, fun _ => rfl, fun _ => rfl, fun _ => rfl, h5, h6, h7, h8, h9, h10, h11, h12, h13, h14, h15, h16, h17, hg, hb, h4s⟩
  · obtain rfl : ({ dst := some 93, op := Go.Op.load 9 (Go.Operand.tmp 92), type := 9, pos := "crypto.go:497", after := #[{ on := 4, ground := Go.Ground.data }], guard := none } : Oper) = o := Option.some.inj ho   -- 5
    obtain rfl := h4 (dep_ haft 0 rfl)
    have hc' : W.cell? (ad.add q) = some (.string kk) := (hb.cell (p := ad.add q) (World.block_lt_of_cell? w _ hcell)).trans hcell
    refine value_ (v := .string kk) (w1 := W) (by rfl) rfl ?_ ?_
    · go_simp; try rfl
    exact ⟨x4, x88, x89, x90, x91, .pointer (some (ad.add q)), .string kk, x94, x95, x96, x97, x98, x99, x100, x101, x102, x103, x104, rfl, h0, h1, h2, h3, fun _ => rfl, fun _ => rfl, h6, h7, h8, h9, h10, h11, h12, h13, h14, h15, h16, h17, hg, hb, h4s⟩
  · obtain rfl : ({ dst := some 94, op := Go.Op.call { callee := Go.Callee.builtin Go.Builtin.len, args := #[Go.Operand.tmp 93], argTypes := #[9] }, type := 3, pos := "crypto.go:497", after := #[{ on := 5, ground := Go.Ground.data }], guard := none } : Oper) = o := Option.some.inj ho   -- 6
    obtain rfl := h5 (dep_ haft 0 rfl)
    refine value_ (v := .int .i64 (kk.size : Int)) (w1 := W) (by rfl) rfl ?_ ?_
    · go_simp; try rfl
    exact ⟨x4, x88, x89, x90, x91, x92, .string kk, .int .i64 (kk.size : Int), x95, x96, x97, x98, x99, x100, x101, x102, x103, x104, rfl, h0, h1, h2, h3, h4, fun _ => rfl, fun _ => rfl, h7, h8, h9, h10, h11, h12, h13, h14, h15, h16, h17, hg, hb, h4s⟩
  · obtain rfl : ({ dst := some 95, op := Go.Op.convert 3 5 (Go.Operand.tmp 94), type := 5, pos := "crypto.go:497", after := #[{ on := 6, ground := Go.Ground.data }], guard := none } : Oper) = o := Option.some.inj ho   -- 7
    obtain rfl := h6 (dep_ haft 0 rfl)
    refine value_ (v := .int .u8 ((kk.size : Int) % 256)) (w1 := W) (by rfl) rfl ?_ ?_
    · go_simp; try rfl
    exact ⟨x4, x88, x89, x90, x91, x92, x93, .int .i64 (kk.size : Int), .int .u8 ((kk.size : Int) % 256), x96, x97, x98, x99, x100, x101, x102, x103, x104, rfl, h0, h1, h2, h3, h4, h5, fun _ => rfl, fun _ => rfl, h8, h9, h10, h11, h12, h13, h14, h15, h16, h17, hg, hb, h4s⟩
  · obtain rfl : ({ dst := some 96, op := Go.Op.buildSlice 55 1 #[(0, Go.Operand.tmp 95)], type := 55, pos := "crypto.go:497", after := #[{ on := 7, ground := Go.Ground.data }], guard := none } : Oper) = o := Option.some.inj ho   -- 8
    obtain rfl := h7 (dep_ haft 0 rfl)
    refine value_ (v := (.slice (some ⟨W.heap.size, 0, none⟩) 1 1)) (w1 := W.alloc (.cells #[.int .u8 ((kk.size : Int) % 256)] 5)) (by rfl) rfl ?_ ?_
    · go_simp; try rfl
    exact ⟨x4, x88, x89, x90, x91, x92, x93, x94, .int .u8 ((kk.size : Int) % 256), (.slice (some ⟨W.heap.size, 0, none⟩) 1 1), x97, x98, x99, x100, x101, x102, x103, x104, rfl, h0, h1, h2, h3, h4, h5, h6, fun _ => rfl, fun _ => fun _ => ⟨_, rfl, heap_alloc_new W _⟩, h9, h10, h11, h12, h13, h14, h15, h16, h17, blk_below hg ((Below.refl W.heap.size W).alloc (Nat.le_refl _) _), below_step hb ((Below.refl W.heap.size W).alloc (Nat.le_refl _) _), h4s⟩
  · obtain rfl : ({ dst := some 97, op := Go.Op.convert 55 9 (Go.Operand.tmp 96), type := 9, pos := "crypto.go:497", after := #[{ on := 8, ground := Go.Ground.data }], guard := none } : Oper) = o := Option.some.inj ho   -- 9
    obtain ⟨h, rfl, hh⟩ := h8 (dep_ haft 0 rfl) hLi
    have hcv := conv_h hh
    refine value_ (v := .string (oneB ((kk.size : Int) % 256))) (w1 := W) (by rfl) rfl ?_ ?_
    · go_simp; try rfl
    exact ⟨x4, x88, x89, x90, x91, x92, x93, x94, x95, (.slice (some ⟨h, 0, none⟩) 1 1), .string (oneB ((kk.size : Int) % 256)), x98, x99, x100, x101, x102, x103, x104, rfl, h0, h1, h2, h3, h4, h5, h6, h7, fun _ h4 => Bool.noConfusion h4, fun _ => rfl, h10, h11, h12, h13, h14, h15, h16, h17, hg, hb, h4s⟩
  · obtain rfl : ({ dst := some 98, op := Go.Op.binOp Go.BinOp.add 9 (Go.Operand.tmp 88) (Go.Operand.tmp 97) 9, type := 9, pos := "crypto.go:497", after := #[{ on := 0, ground := Go.Ground.data }, { on := 9, ground := Go.Ground.data }], guard := none } : Oper) = o := Option.some.inj ho   -- 10
    obtain rfl := h0 (dep_ haft 0 rfl)
    obtain rfl := h9 (dep_ haft 1 rfl)
    have hz1 : (oneB ((kk.size : Int) % 256)).size = 1 := rfl
    have hz3 : (9223372036854775807 < S.size + 1) = False := eq_false (by omega)
    refine value_ (v := .string (S ++ (oneB ((kk.size : Int) % 256)))) (w1 := W) (by rfl) rfl ?_ ?_
    · go_simp; try rfl
    exact ⟨x4, .string S, x89, x90, x91, x92, x93, x94, x95, x96, .string (oneB ((kk.size : Int) % 256)), .string (S ++ (oneB ((kk.size : Int) % 256))), x99, x100, x101, x102, x103, x104, rfl, fun _ => rfl, h1, h2, h3, h4, h5, h6, h7, h8, fun _ => rfl, fun _ => rfl, h11, h12, h13, h14, h15, h16, h17, hg, hb, h4s⟩
  · obtain rfl : ({ dst := some 99, op := Go.Op.fieldAddr 25 (Go.Operand.tmp 1) 4, type := 0, pos := "crypto.go:497", after := #[], guard := none } : Oper) = o := Option.some.inj ho   -- 11
    refine value_ (v := .pointer (some ⟨g, 4, none⟩)) (w1 := W) (by rfl) rfl ?_ ?_
    · go_simp; try rfl
    exact ⟨x4, x88, x89, x90, x91, x92, x93, x94, x95, x96, x97, x98, .pointer (some ⟨g, 4, none⟩), x100, x101, x102, x103, x104, rfl, h0, h1, h2, h3, h4, h5, h6, h7, h8, h9, h10, fun _ => rfl, h12, h13, h14, h15, h16, h17, hg, hb, h4s⟩
  · obtain rfl : ({ dst := some 100, op := Go.Op.load 23 (Go.Operand.tmp 99), type := 23, pos := "crypto.go:497", after := #[{ on := 11, ground := Go.Ground.data }], guard := none } : Oper) = o := Option.some.inj ho   -- 12
    obtain rfl := h11 (dep_ haft 0 rfl)
    have hc : W.cell? ⟨g, 4, none⟩ = some (.slice (some ad) l.length c) := (blk_cell hg 4).trans rfl
    refine value_ (v := .slice (some ad) l.length c) (w1 := W) (by rfl) rfl ?_ ?_
    · go_simp; try rfl
    exact ⟨x4, x88, x89, x90, x91, x92, x93, x94, x95, x96, x97, x98, .pointer (some ⟨g, 4, none⟩), .slice (some ad) l.length c, x101, x102, x103, x104, rfl, h0, h1, h2, h3, h4, h5, h6, h7, h8, h9, h10, fun _ => rfl, fun _ => rfl, h13, h14, h15, h16, h17, hg, hb, h4s⟩
  · obtain rfl : ({ dst := some 101, op := Go.Op.move (Go.Operand.tmp 5), type := 3, pos := "crypto.go:497", after := #[], guard := none } : Oper) = o := Option.some.inj ho   -- 13
    refine value_ (v := .int .i64 (q : Int)) (w1 := W) (by rfl) rfl ?_ ?_
    · go_simp; try rfl
    exact ⟨x4, x88, x89, x90, x91, x92, x93, x94, x95, x96, x97, x98, x99, x100, .int .i64 (q : Int), x102, x103, x104, rfl, h0, h1, h2, h3, h4, h5, h6, h7, h8, h9, h10, h11, h12, fun _ => rfl, h14, h15, h16, h17, hg, hb, h4s⟩
  · obtain rfl : ({ dst := some 102, op := Go.Op.indexAddr 23 (Go.Operand.tmp 100) (Go.Operand.tmp 101), type := 0, pos := "crypto.go:497", after := #[{ on := 12, ground := Go.Ground.data }, { on := 13, ground := Go.Ground.data }], guard := none } : Oper) = o := Option.some.inj ho   -- 14
    obtain rfl := h12 (dep_ haft 0 rfl)
    obtain rfl := h13 (dep_ haft 1 rfl)
    refine value_ (v := .pointer (some (ad.add q))) (w1 := W) (by rfl) rfl ?_ ?_
    · go_simp; try rfl
    exact ⟨x4, x88, x89, x90, x91, x92, x93, x94, x95, x96, x97, x98, x99, .slice (some ad) l.length c, .int .i64 (q : Int), .pointer (some (ad.add q)), x103, x104, rfl, h0, h1, h2, h3, h4, h5, h6, h7, h8, h9, h10, h11, fun _ => rfl, fun _ => rfl, fun _ => rfl, h15, h16, h17, hg, hb, h4s⟩
  · obtain rfl : ({ dst := some 103, op := Go.Op.load 9 (Go.Operand.tmp 102), type := 9, pos := "crypto.go:497", after := #[{ on := 14, ground := Go.Ground.data }], guard := none } : Oper) = o := Option.some.inj ho   -- 15
    obtain rfl := h14 (dep_ haft 0 rfl)
    have hc' : W.cell? (ad.add q) = some (.string kk) := (hb.cell (p := ad.add q) (World.block_lt_of_cell? w _ hcell)).trans hcell
    refine value_ (v := .string kk) (w1 := W) (by rfl) rfl ?_ ?_
    · go_simp; try rfl
    exact ⟨x4, x88, x89, x90, x91, x92, x93, x94, x95, x96, x97, x98, x99, x100, x101, .pointer (some (ad.add q)), .string kk, x104, rfl, h0, h1, h2, h3, h4, h5, h6, h7, h8, h9, h10, h11, h12, h13, fun _ => rfl, fun _ => rfl, h16, h17, hg, hb, h4s⟩
  · obtain rfl : ({ dst := some 104, op := Go.Op.binOp Go.BinOp.add 9 (Go.Operand.tmp 98) (Go.Operand.tmp 103) 9, type := 9, pos := "crypto.go:497", after := #[{ on := 10, ground := Go.Ground.data }, { on := 15, ground := Go.Ground.data }], guard := none } : Oper) = o := Option.some.inj ho   -- 16
    obtain rfl := h10 (dep_ haft 0 rfl)
    obtain rfl := h15 (dep_ haft 1 rfl)
    have hz1 : (S ++ (oneB ((kk.size : Int) % 256))).size = S.size + 1 := by rw [ByteArray.size_append]; rfl
    have hz3 : (9223372036854775807 < S.size + 1 + kk.size) = False := eq_false (by omega)
    refine value_ (v := .string ((S ++ (oneB ((kk.size : Int) % 256))) ++ kk)) (w1 := W) (by rfl) rfl ?_ ?_
    · go_simp; try rfl
    exact ⟨x4, x88, x89, x90, x91, x92, x93, x94, x95, x96, x97, .string (S ++ (oneB ((kk.size : Int) % 256))), x99, x100, x101, x102, .string kk, .string ((S ++ (oneB ((kk.size : Int) % 256))) ++ kk), rfl, h0, h1, h2, h3, h4, h5, h6, h7, h8, h9, fun _ => rfl, h11, h12, h13, h14, fun _ => rfl, fun _ => rfl, h17, hg, hb, h4s⟩
  · obtain rfl : ({ dst := some 4, op := Go.Op.assign (Go.Operand.tmp 104), type := 9, pos := "crypto.go:497", after := #[{ on := 16, ground := Go.Ground.data }, { on := 0, ground := Go.Ground.phase }, { on := 1, ground := Go.Ground.phase }, { on := 2, ground := Go.Ground.phase }, { on := 3, ground := Go.Ground.phase }, { on := 4, ground := Go.Ground.phase }, { on := 5, ground := Go.Ground.phase }, { on := 6, ground := Go.Ground.phase }, { on := 7, ground := Go.Ground.phase }, { on := 8, ground := Go.Ground.phase }, { on := 9, ground := Go.Ground.phase }, { on := 10, ground := Go.Ground.phase }, { on := 11, ground := Go.Ground.phase }, { on := 12, ground := Go.Ground.phase }, { on := 13, ground := Go.Ground.phase }, { on := 14, ground := Go.Ground.phase }, { on := 15, ground := Go.Ground.phase }, { on := 16, ground := Go.Ground.phase }], guard := none } : Oper) = o := Option.some.inj ho   -- 17
    obtain rfl := h16 (dep_ haft 0 rfl)
    refine value_ (v := .string ((S ++ (oneB ((kk.size : Int) % 256))) ++ kk)) (w1 := W) (by rfl) rfl ?_ ?_
    · go_simp; try rfl
    exact ⟨.string ((S ++ (oneB ((kk.size : Int) % 256))) ++ kk), x88, x89, x90, x91, x92, x93, x94, x95, x96, x97, x98, x99, x100, x101, x102, x103, .string ((S ++ (oneB ((kk.size : Int) % 256))) ++ kk), rfl, h0, h1, h2, h3, h4, h5, h6, h7, h8, h9, h10, h11, h12, h13, h14, h15, fun _ => rfl, fun _ => rfl, hg, hb, fun h => Bool.noConfusion h⟩
  · cases ho
theorem Ip9.region {Q : Exit → Act → World → Prop} (e : Int) (v : ByteArray) (a0 b0 : Int) (c : Nat) (l : List ByteArray) (S kk : ByteArray) (ad : Addr) (q : Nat) (w : World) (g : Nat) (p0 p2 p3 p6 p7 p8 p9 p10 p11 p12 p13 p14 p15 p16 p17 p18 p19 p20 p21 p22 p23 p24 p25 p26 p27 p28 p29 p30 p31 p32 p33 p34 p35 p36 p37 p38 p39 p40 p41 p42 p43 p44 p45 p46 p47 p48 p49 p50 p51 p52 p53 p54 p55 p56 p57 p58 p59 p60 p61 p62 p63 p64 p65 p66 p67 p68 p69 p70 p71 p72 p73 p74 p75 p76 p77 p78 p79 p80 p81 p82 p83 p84 p85 p86 p87 p105 : Value) (u88 u89 u90 u91 u92 u93 u94 u95 u96 u97 u98 u99 u100 u101 u102 u103 u104 : Value) (hcell : w.cell? (ad.add q) = some (.string kk)) (hq : q < l.length) (hlc : l.length ≤ c) (hkk : kk.size ≤ 60) (hSz : S.size ≤ 100000) (hg0 : w.heap[g]? = some (.cells #[.int .i64 e, .string v, .int .i64 a0, .int .i64 b0, .slice (some ad) l.length c] 25 (0, 0)))
    (hQ : ∀ (W : World) (x88 x89 x90 x91 x92 x93 x94 x95 x96 x97 x98 x99 x100 x101 x102 x103 x104 : Value), W.heap[g]? = some (.cells #[.int .i64 e, .string v, .int .i64 a0, .int .i64 b0, .slice (some ad) l.length c] 25 (0, 0)) → Below w.heap.size w W → Q .normal ⟨#[p0, (.pointer (some ⟨g, 0, none⟩)), p2, p3, .string ((S ++ (oneB ((kk.size : Int) % 256))) ++ kk), (.int .i64 (q : Int)), p6, p7, p8, p9, p10, p11, p12, p13, p14, p15, p16, p17, p18, p19, p20, p21, p22, p23, p24, p25, p26, p27, p28, p29, p30, p31, p32, p33, p34, p35, p36, p37, p38, p39, p40, p41, p42, p43, p44, p45, p46, p47, p48, p49, p50, p51, p52, p53, p54, p55, p56, p57, p58, p59, p60, p61, p62, p63, p64, p65, p66, p67, p68, p69, p70, p71, p72, p73, p74, p75, p76, p77, p78, p79, p80, p81, p82, p83, p84, p85, p86, p87, x88, x89, x90, x91, x92, x93, x94, x95, x96, x97, x98, x99, x100, x101, x102, x103, x104, p105], []⟩ W) :
    (Code.region 9 (opsOf Tryz.f7 9) true).wp Tryz.prog Q ⟨#[p0, (.pointer (some ⟨g, 0, none⟩)), p2, p3, (.string S), (.int .i64 (q : Int)), p6, p7, p8, p9, p10, p11, p12, p13, p14, p15, p16, p17, p18, p19, p20, p21, p22, p23, p24, p25, p26, p27, p28, p29, p30, p31, p32, p33, p34, p35, p36, p37, p38, p39, p40, p41, p42, p43, p44, p45, p46, p47, p48, p49, p50, p51, p52, p53, p54, p55, p56, p57, p58, p59, p60, p61, p62, p63, p64, p65, p66, p67, p68, p69, p70, p71, p72, p73, p74, p75, p76, p77, p78, p79, p80, p81, p82, p83, p84, p85, p86, p87, u88, u89, u90, u91, u92, u93, u94, u95, u96, u97, u98, u99, u100, u101, u102, u103, u104, p105], []⟩ w := by
  refine wp_region_inv2 (by kernel_rfl) (by kernel_rfl) (Ip9 e v a0 b0 c l S kk ad q w g p0 p2 p3 p6 p7 p8 p9 p10 p11 p12 p13 p14 p15 p16 p17 p18 p19 p20 p21 p22 p23 p24 p25 p26 p27 p28 p29 p30 p31 p32 p33 p34 p35 p36 p37 p38 p39 p40 p41 p42 p43 p44 p45 p46 p47 p48 p49 p50 p51 p52 p53 p54 p55 p56 p57 p58 p59 p60 p61 p62 p63 p64 p65 p66 p67 p68 p69 p70 p71 p72 p73 p74 p75 p76 p77 p78 p79 p80 p81 p82 p83 p84 p85 p86 p87 p105) ?_ (Ip9.step e v a0 b0 c l S kk ad q w g p0 p2 p3 p6 p7 p8 p9 p10 p11 p12 p13 p14 p15 p16 p17 p18 p19 p20 p21 p22 p23 p24 p25 p26 p27 p28 p29 p30 p31 p32 p33 p34 p35 p36 p37 p38 p39 p40 p41 p42 p43 p44 p45 p46 p47 p48 p49 p50 p51 p52 p53 p54 p55 p56 p57 p58 p59 p60 p61 p62 p63 p64 p65 p66 p67 p68 p69 p70 p71 p72 p73 p74 p75 p76 p77 p78 p79 p80 p81 p82 p83 p84 p85 p86 p87 p105 (Nat.le_refl _) hcell hq hlc hkk hSz) ?_
  · have no : ∀ {p : Prop}, false = true → p := fun h => Bool.noConfusion h
    exact ⟨(.string S), u88, u89, u90, u91, u92, u93, u94, u95, u96, u97, u98, u99, u100, u101, u102, u103, u104, rfl, no, no, no, no, no, no, no, no, no, no, no, no, no, no, no, no, no, no, hg0, (Below.refl _ _).drew, fun _ => rfl⟩
  rintro L a' W hall ⟨x4, x88, x89, x90, x91, x92, x93, x94, x95, x96, x97, x98, x99, x100, x101, x102, x103, x104, rfl, h0, h1, h2, h3, h4, h5, h6, h7, h8, h9, h10, h11, h12, h13, h14, h15, h16, h17, hg, hb, h4s⟩
  obtain rfl := h17 (hall 17 (by decide))
  exact hQ W x88 x89 x90 x91 x92 x93 x94 x95 x96 x97 x98 x99 x100 x101 x102 x103 x104 hg hb
end Go.Proofs.YtbfdaclekjgkfaaGreatDoor.Bk

/- A reply as bytes, by the document's function. -/
set_option linter.unusedVariables false
namespace Go.Proofs.YtbfdaclekjgkfaaGreatDoor.Bk
open Go.RowKit Go.Proofs.YtbfdaclekjgkfaaGreatDoor Go.Proofs.YtbfdaclekjgkfaaGreatDoorW.PrintWords Go.Proofs.YtbfdaclekjgkfaaGreatDoorW.PrintLast

def headX (e : Int) (v : ByteArray) (a b : Int) (l : List ByteArray) : ByteArray := ((((oneB (e % 256) ++ strOfNums (pcells (a + 1000000000000) 8 8)) ++ strOfNums (pcells b 8 8)) ++ big2 v.size) ++ v) ++ oneB ((l.length : Int) % 256)
def accX (e : Int) (v : ByteArray) (a b : Int) (l : List ByteArray) (k : Nat) : ByteArray := headX e v a b l ++ ⟨(keysL (l.take k)).toArray⟩
theorem headX_size (e : Int) (v : ByteArray) (a b : Int) (l : List ByteArray) : (headX e v a b l).size = 20 + v.size := by
  unfold headX
  simp only [ByteArray.size_append, oneB_size, strOfNums_size, pcells_length, big2_size]
  omega
theorem ba_ext {x y : ByteArray} (h : x.data.toList = y.data.toList) : x = y := by
  cases x; cases y
  simp only at h
  congr 1
  exact Array.ext' h
theorem accX_zero (e : Int) (v : ByteArray) (a b : Int) (l : List ByteArray) : accX e v a b l 0 = headX e v a b l := by
  refine ba_ext ?_
  simp [accX, keysL]
theorem accX_succ (e : Int) (v : ByteArray) (a b : Int) (l : List ByteArray) (k : Nat) (kk : ByteArray) (h : l[k]? = some kk) : (accX e v a b l k ++ oneB ((kk.size : Int) % 256)) ++ kk = accX e v a b l (k + 1) := by
  obtain ⟨hlt, rfl⟩ := List.getElem?_eq_some_iff.1 h
  refine ba_ext ?_
  unfold accX
  rw [keysL_succ l k hlt]
  simp [shortB]
theorem accX_end (e : Int) (v : ByteArray) (a b : Int) (l : List ByteArray) : accX e v a b l l.length = repS e v a b l := by
  refine ba_ext ?_
  unfold accX headX repS repL headB pairB
  rw [List.take_length]
  simp
theorem accX_size (e : Int) (v : ByteArray) (a b : Int) (l : List ByteArray) (k : Nat) : (accX e v a b l k).size = 20 + v.size + (keysL (l.take k)).length := by
  unfold accX
  rw [ByteArray.size_append, headX_size]
  rfl

def escutcheonref1_PutReply.f (e : Int) (v : ByteArray) (a b : Int) (l : List ByteArray) : Option (ByteArray × Bool) := some (if RepP e v a b l then (repS e v a b l, true) else (⟨#[]⟩, false))

def RPutE (e : Int) (v : ByteArray) (a b : Int) (l : List ByteArray) (w : World) (x : Ending) (w' : World) : Prop :=
  (∃ r1 r2, x = .returned (.tuple #[.string r1, .bool r2]) ∧ escutcheonref1_PutReply.f e v a b l = some (r1, r2)) ∧ Below w.heap.size w w'
theorem rputE_no {e : Int} {v : ByteArray} {a b : Int} {l : List ByteArray} {w w' : World} (h : ¬ RepP e v a b l) (hb : Below w.heap.size w w') : RPutE e v a b l w (.returned (.tuple #[.string ⟨#[]⟩, .bool false])) w' :=
  ⟨⟨_, _, rfl, by unfold escutcheonref1_PutReply.f; rw [if_neg h]⟩, hb⟩
theorem rputE_yes {e : Int} {v : ByteArray} {a b : Int} {l : List ByteArray} {w w' : World} {S : ByteArray} (h : RepP e v a b l) (hS : S = repS e v a b l) (hb : Below w.heap.size w w') : RPutE e v a b l w (.returned (.tuple #[.string S, .bool true])) w' :=
  ⟨⟨_, _, rfl, by unfold escutcheonref1_PutReply.f; rw [if_pos h, hS]⟩, hb⟩
theorem num_f (a : Int) : Pn.escutcheonref1_number.f a = some (decide (-1000000000000 ≤ a ∧ a ≤ 1000000000000)) := by
  unfold Pn.escutcheonref1_number.f
  by_cases h : a ≥ -1000000000000
  · rw [if_pos h]
    simp [h]
  · rw [if_neg h]
    have : ¬ (-1000000000000 ≤ a) := h
    simp [this]

set_option maxHeartbeats 6400000 in
set_option maxRecDepth 100000 in
/-- The loop, from the test of the whole reply on. -/
theorem rput_any (e : Int) (v : ByteArray) (a b : Int) (A : Option Addr) (c : Nat) (l : List ByteArray) (w : World) (hC : Kd.C Kd.string w A l.length l) (hc : l.length ≤ c) :
    Calls Tryz.prog 7 #[.agg #[.int .i64 e, .string v, .int .i64 a, .int .i64 b, .slice A l.length c]] w (RPutE e v a b l w) := by
  by_cases h0 : 0 ≤ e ∧ e ≤ 15 ∧ NumP a b ∧ v.size ≤ 500 ∧ l.length ≤ 40
  · obtain ⟨e0, e1, hN, hv, hl⟩ := h0
    obtain ⟨n1, n2, n3, n4⟩ := id hN
    have t1 : decide (e < 0) = false := decide_eq_false (by omega)
    have t2 : decide (15 < e) = false := decide_eq_false (by omega)
    have t3 : decide (b < 0) = false := decide_eq_false (by omega)
    have t4 : decide (1000000000000 < b) = false := decide_eq_false (by omega)
    have t5 : decide (500 < (v.size : Int)) = false := decide_eq_false (by omega)
    have t6 : decide (40 < (l.length : Int)) = false := decide_eq_false (by omega)
    have hnum := num_f a
    rw [decide_eq_true (show -1000000000000 ≤ a ∧ a ≤ 1000000000000 from ⟨n1, n2⟩)] at hnum
    have HNUM := Lib.hid hnum
    have HC := Lib.hid hC
    clear hnum hC
    go_enter Tryz.func7, Tryz.ntmps7
    go_wp2_with fail
    refine (Pn.escutcheonref1_number.calls a true _ HNUM.out).mono ?_
    rintro x w1 ⟨rfl, hd1⟩
    have hg1 : w1.heap[w.heap.size]? = some (.cells #[.int .i64 e, .string v, .int .i64 a, .int .i64 b, .slice A l.length c] 25 (0, 0)) := (blk_below (heap_alloc_new w _) hd1.below)
    have hb1 : Below w.heap.size w w1 := ((Below.refl w.heap.size w).alloc (Nat.le_refl _) _).trans (hd1.below.mono (by simp))
    have HG1 := Lib.hid hg1
    have HB1 := Lib.hid hb1
    obtain ⟨c0, c1, c2, c3, c4⟩ := blk5_cells hg1
    clear hd1 hg1 hb1
    go_wp2_with fail
    refine Ip3.region e v a b A c l w1 w.heap.size _ _ _ _ _ _ _ _ _ _ _ _ _ _ _ _ _ _ _ _ _ _ _ _ _ _ _ _ _ _ _ _ _ _ _ _ _ _ _ _ _ _ _ _ _ _ _ _ _ _ _ _ _ _ _ _ _ _ _ _ _ _ _ _ _ _ _ _ _ _ _ _ _ _ _ _ _ _ _ _ _ _ _ _ _ _ _ _ _ _ _ _ _ _ _ _ _ _ _ _ _ _ _ _ _ hN hv HG1.out ?_
    intro W x42 x43 x44 x45 x46 x47 x48 x49 x50 x51 x52 x53 x54 x55 x56 x57 x58 x59 x60 x61 x62 x63 x64 x65 x66 x67 x68 x69 x70 x71 x72 x73 hgW hbW
    have HGW := Lib.hid hgW
    have HBW := Lib.hid (HB1.out.trans (hbW.mono HB1.out.size))
    have HCW := Lib.hid (Kd.C_below HC.out HBW.out)
    clear hgW hbW c0 c1 c2 c3 c4
    have hacc : ((((oneB (e % 256) ++ strOfNums (pcells (a + 1000000000000) 8 8)) ++ strOfNums (pcells b 8 8)) ++ big2 v.size) ++ v) ++ oneB ((l.length : Int) % 256) = accX e v a b l 0 := (accX_zero e v a b l).symm
    rw [hacc]
    clear hacc
    go_wp2
    go_loopw [4, 5] (fun S i W => ∃ k : Nat, i = .int .i64 k ∧ k ≤ l.length ∧ S = .string (accX e v a b l k) ∧ KeysP (l.take k) ∧ W.heap[w.heap.size]? = some (.cells #[.int .i64 e, .string v, .int .i64 a, .int .i64 b, .slice A l.length c] 25 (0, 0)) ∧ Below w.heap.size w W) (fun _ i _ => l.length - (intOf i).toNat)
    case atStart => exact ⟨0, rfl, Nat.zero_le _, rfl, (fun x hx => by simp at hx), HGW.out, HBW.out⟩
    case round =>
      obtain ⟨k, rfl, hk, rfl, hkp, hgk, hbk⟩ := hrel
      have HGK := Lib.hid hgk
      have HBK := Lib.hid hbk
      have HKP := Lib.hid hkp
      have HSZ := Lib.hid (accX_size e v a b l k)
      have HKL := Lib.hid (keysL_len (l.take k) hkp)
      have c4 := (blk5_cells hgk).2.2.2.2
      clear hgk hbk hkp
      obtain ⟨S, hS⟩ : ∃ S, S = accX e v a b l k := ⟨_, rfl⟩
      rw [← hS]
      have HS := Lib.hid hS
      clear hS
      by_cases hlt : k < l.length
      · obtain ⟨kk, hkk⟩ := lt_some hlt
        obtain ⟨ad, rfl, q1⟩ := Kd.at_string (Kd.C_below HC.out HBK.out) k (by omega) (by omega)
        have hrd : rdOf ByteArray.empty l (k : Int) = kk := by unfold rdOf; rw [List.getD_eq_getElem?_getD, Int.toNat_natCast, hkk]; rfl
        rw [hrd, Int.toNat_natCast] at q1
        have HKK := Lib.hid hkk
        clear hrd hkk
        by_cases h60 : kk.size ≤ 60
        · have t7 : decide (60 < (kk.size : Int)) = false := decide_eq_false (by omega)
          have hSz : S.size ≤ 100000 := by
            rw [HS.out, HSZ.out]
            have h1 := HKL.out
            rw [List.length_take] at h1
            omega
          go_wp2_with fail
          refine Ip9.region e v a b c l S kk ad k wr w.heap.size _ _ _ _ _ _ _ _ _ _ _ _ _ _ _ _ _ _ _ _ _ _ _ _ _ _ _ _ _ _ _ _ _ _ _ _ _ _ _ _ _ _ _ _ _ _ _ _ _ _ _ _ _ _ _ _ _ _ _ _ _ _ _ _ _ _ _ _ _ _ _ _ _ _ _ _ _ _ _ _ _ _ _ _ _ _ _ _ _ _ _ _ _ _ _ _ _ _ _ _ _ _ _ q1 hlt hc h60 hSz HGK.out ?_
          intro W2 x88 x89 x90 x91 x92 x93 x94 x95 x96 x97 x98 x99 x100 x101 x102 x103 x104 hg2 hb2
          have HG2 := Lib.hid hg2
          have HB2 := Lib.hid (HBK.out.trans (hb2.mono HBK.out.size))
          have hkp2 : KeysP (l.take (k + 1)) := by
            rw [List.take_add_one, HKK.out]
            intro x hx
            rcases List.mem_append.1 hx with hx | hx
            · exact HKP.out x hx
            · obtain rfl : x = kk := by simpa using hx
              exact h60
          have hs2 : (S ++ oneB ((kk.size : Int) % 256)) ++ kk = accX e v a b l (k + 1) := by rw [HS.out]; exact accX_succ e v a b l k kk HKK.out
          rw [hs2]
          have HKP2 := Lib.hid hkp2
          clear hg2 hb2 hkp2 hs2 q1 c4
          go_wp2
          go_roundw
          case rel => exact ⟨k + 1, by go_num, by omega, rfl, HKP2.out, HG2.out, HB2.out⟩
          case measure => simp [intOf]; omega
        · have t7 : decide (60 < (kk.size : Int)) = true := decide_eq_true (by omega)
          have hno : ¬ RepP e v a b l := fun h => h60 (h.2.2.2.2.2 kk (List.mem_of_getElem? HKK.out))
          have HNO := Lib.hid hno
          clear hno
          go_wp2
          go_ret2
          exact rputE_no HNO.out (HBK.out)
      · obtain rfl : k = l.length := by omega
        go_wp2
        go_ret2
        have hkp := HKP.out
        rw [List.take_length] at hkp
        exact rputE_yes ⟨e0, e1, hN, hv, hl, hkp⟩ (by rw [HS.out, accX_end]) HBK.out
  · have hno : ¬ RepP e v a b l := fun h => h0 ⟨h.1, h.2.1, h.2.2.1, h.2.2.2.1, h.2.2.2.2.1⟩
    have HNO := Lib.hid hno
    have H0 := Lib.hid h0
    clear hno h0 hC
    by_cases c1 : e < 0
    · have t1 : decide (e < 0) = true := decide_eq_true c1
      go_enter Tryz.func7, Tryz.ntmps7
      go_wp2
      go_ret2
      exact rputE_no HNO.out ((Below.refl _ _).alloc (Nat.le_refl _) _)
    have t1 : decide (e < 0) = false := decide_eq_false c1
    by_cases c2 : 15 < e
    · have t2 : decide (15 < e) = true := decide_eq_true c2
      go_enter Tryz.func7, Tryz.ntmps7
      go_wp2
      go_ret2
      exact rputE_no HNO.out ((Below.refl _ _).alloc (Nat.le_refl _) _)
    have t2 : decide (15 < e) = false := decide_eq_false c2
    have hnum := num_f a
    by_cases c3 : -1000000000000 ≤ a ∧ a ≤ 1000000000000
    · rw [decide_eq_true c3] at hnum
      have HNUM := Lib.hid hnum
      clear hnum
      by_cases d0 : b < 0
      · have t3 : decide (b < 0) = true := decide_eq_true d0
        go_enter Tryz.func7, Tryz.ntmps7
        go_wp2_with fail
        refine (Pn.escutcheonref1_number.calls a true _ HNUM.out).mono ?_
        rintro x w1 ⟨rfl, hd1⟩
        have hg1 : w1.heap[w.heap.size]? = some (.cells #[.int .i64 e, .string v, .int .i64 a, .int .i64 b, .slice A l.length c] 25 (0, 0)) := (blk_below (heap_alloc_new w _) hd1.below)
        have hb1 : Below w.heap.size w w1 := ((Below.refl w.heap.size w).alloc (Nat.le_refl _) _).trans (hd1.below.mono (by simp))
        have HB1 := Lib.hid hb1
        obtain ⟨c0, c1', c2', c3', c4⟩ := blk5_cells hg1
        clear hd1 hg1 hb1
        go_wp2
        go_ret2
        exact rputE_no HNO.out (HB1.out)
      have t3 : decide (b < 0) = false := decide_eq_false d0
      by_cases d1 : 1000000000000 < b
      · have t4 : decide (1000000000000 < b) = true := decide_eq_true d1
        go_enter Tryz.func7, Tryz.ntmps7
        go_wp2_with fail
        refine (Pn.escutcheonref1_number.calls a true _ HNUM.out).mono ?_
        rintro x w1 ⟨rfl, hd1⟩
        have hg1 : w1.heap[w.heap.size]? = some (.cells #[.int .i64 e, .string v, .int .i64 a, .int .i64 b, .slice A l.length c] 25 (0, 0)) := (blk_below (heap_alloc_new w _) hd1.below)
        have hb1 : Below w.heap.size w w1 := ((Below.refl w.heap.size w).alloc (Nat.le_refl _) _).trans (hd1.below.mono (by simp))
        have HB1 := Lib.hid hb1
        obtain ⟨c0, c1', c2', c3', c4⟩ := blk5_cells hg1
        clear hd1 hg1 hb1
        go_wp2
        go_ret2
        exact rputE_no HNO.out (HB1.out)
      have t4 : decide (1000000000000 < b) = false := decide_eq_false d1
      by_cases d2 : 500 < (v.size : Int)
      · have t5 : decide (500 < (v.size : Int)) = true := decide_eq_true d2
        go_enter Tryz.func7, Tryz.ntmps7
        go_wp2_with fail
        refine (Pn.escutcheonref1_number.calls a true _ HNUM.out).mono ?_
        rintro x w1 ⟨rfl, hd1⟩
        have hg1 : w1.heap[w.heap.size]? = some (.cells #[.int .i64 e, .string v, .int .i64 a, .int .i64 b, .slice A l.length c] 25 (0, 0)) := (blk_below (heap_alloc_new w _) hd1.below)
        have hb1 : Below w.heap.size w w1 := ((Below.refl w.heap.size w).alloc (Nat.le_refl _) _).trans (hd1.below.mono (by simp))
        have HB1 := Lib.hid hb1
        obtain ⟨c0, c1', c2', c3', c4⟩ := blk5_cells hg1
        clear hd1 hg1 hb1
        go_wp2
        go_ret2
        exact rputE_no HNO.out (HB1.out)
      have t5 : decide (500 < (v.size : Int)) = false := decide_eq_false d2
      by_cases d3 : 40 < (l.length : Int)
      · have t6 : decide (40 < (l.length : Int)) = true := decide_eq_true d3
        go_enter Tryz.func7, Tryz.ntmps7
        go_wp2_with fail
        refine (Pn.escutcheonref1_number.calls a true _ HNUM.out).mono ?_
        rintro x w1 ⟨rfl, hd1⟩
        have hg1 : w1.heap[w.heap.size]? = some (.cells #[.int .i64 e, .string v, .int .i64 a, .int .i64 b, .slice A l.length c] 25 (0, 0)) := (blk_below (heap_alloc_new w _) hd1.below)
        have hb1 : Below w.heap.size w w1 := ((Below.refl w.heap.size w).alloc (Nat.le_refl _) _).trans (hd1.below.mono (by simp))
        have HB1 := Lib.hid hb1
        obtain ⟨c0, c1', c2', c3', c4⟩ := blk5_cells hg1
        clear hd1 hg1 hb1
        go_wp2
        go_ret2
        exact rputE_no HNO.out (HB1.out)
      have t6 : decide (40 < (l.length : Int)) = false := decide_eq_false d3
      exact absurd ⟨by omega, by omega, ⟨c3.1, c3.2, by omega, by omega⟩, by omega, by omega⟩ H0.out
    · rw [decide_eq_false c3] at hnum
      have HNUM := Lib.hid hnum
      clear hnum c3
      go_enter Tryz.func7, Tryz.ntmps7
      go_wp2_with fail
      refine (Pn.escutcheonref1_number.calls a false _ HNUM.out).mono ?_
      rintro x w1 ⟨rfl, hd1⟩
      have hg1 : w1.heap[w.heap.size]? = some (.cells #[.int .i64 e, .string v, .int .i64 a, .int .i64 b, .slice A l.length c] 25 (0, 0)) := (blk_below (heap_alloc_new w _) hd1.below)
      have hb1 : Below w.heap.size w w1 := ((Below.refl w.heap.size w).alloc (Nat.le_refl _) _).trans (hd1.below.mono (by simp))
      have HB1 := Lib.hid hb1
      obtain ⟨c0, c1', c2', c3', c4⟩ := blk5_cells hg1
      clear hd1 hg1 hb1
      go_wp2
      go_ret2
      exact rputE_no HNO.out (HB1.out)
theorem escutcheonref1_PutReply.calls (e : Int) (v : ByteArray) (a b : Int) (A : Option Addr) (c : Nat) (l : List ByteArray) (r1 : ByteArray) (r2 : Bool) (w : World) (hC : Kd.C Kd.string w A l.length l) (hc : l.length ≤ c) (h : escutcheonref1_PutReply.f e v a b l = some (r1, r2)) :
    Calls Tryz.prog 7 #[.agg #[.int .i64 e, .string v, .int .i64 a, .int .i64 b, .slice A l.length c]] w fun x w' => x = .returned (.tuple #[.string r1, .bool r2]) ∧ Below w.heap.size w w' := by
  refine (rput_any e v a b A c l w hC hc).mono ?_
  rintro x w' ⟨⟨q1, q2, rfl, hq⟩, hb⟩
  rw [hq] at h
  have := Option.some.inj h
  simp only [Prod.mk.injEq] at this
  obtain ⟨rfl, rfl⟩ := this
  exact ⟨rfl, hb⟩
end Go.Proofs.YtbfdaclekjgkfaaGreatDoor.Bk

/- The document's PutReply as the printer wants it. -/
namespace Go.Proofs.YtbfdaclekjgkfaaGreatDoor
open Go.RowKit Go.Proofs.YtbfdaclekjgkfaaGreatDoorW.PrintWords Go.Proofs.YtbfdaclekjgkfaaGreatDoorW.PrintLast
def escutcheonref1_PutReply.f (e : Int) (v : ByteArray) (a b : Int) (l : List ByteArray) : Option (ByteArray × Bool) := some (if RepP e v a b l then (repS e v a b l, true) else (⟨#[]⟩, false))
theorem escutcheonref1_PutReply.calls (e : Int) (v : ByteArray) (a b : Int) (A : Option Addr) (c : Nat) (l : List ByteArray) (r1 : ByteArray) (r2 : Bool) (w : World) (hC : Kd.C Kd.string w A l.length l) (hc : l.length ≤ c) (h : escutcheonref1_PutReply.f e v a b l = some (r1, r2)) :
    Calls Tryz.prog 7 #[.agg #[.int .i64 e, .string v, .int .i64 a, .int .i64 b, .slice A l.length c]] w fun x w' => x = .returned (.tuple #[.string r1, .bool r2]) ∧ Below w.heap.size w w' :=
  Bk.escutcheonref1_PutReply.calls e v a b A c l r1 r2 w hC hc h
end Go.Proofs.YtbfdaclekjgkfaaGreatDoor
