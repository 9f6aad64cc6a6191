/- A line's rule, by the program's acl.read: the walk. -/
import Derived.Test.YthngjjeilcfhgaaGreatDoorRd5
set_option linter.unusedVariables false
set_option linter.unusedSimpArgs false
namespace Go.Proofs.YthngjjeilcfhgaaGreatDoor
open Go.RowKit Go.Proofs.YthngjjeilcfhgaaGreatDoorW.PrintWords Go.Proofs.YthngjjeilcfhgaaGreatDoorW.PrintLast

def acl_read.f (k : Nat) (s : ByteArray) : Option (Bool × ByteArray × Int × ByteArray × Bool) :=
  (strings_Split.f s ⟨#[32]⟩).bind fun l => match l with
    | [s0, s1, s2, s3] => (acl_Right.f k (s0.toList == [97, 108, 108, 111, 119]) s1 (Lib.idxOfS clsL s2) s3).bind fun rr =>
      if rr = true then (Pa.acl_line.f (s0.toList == [97, 108, 108, 111, 119]) s1 (Lib.idxOfS clsL s2) s3).bind fun ln => some (s0.toList == [97, 108, 108, 111, 119], s1, Lib.idxOfS clsL s2, s3, ln.toList == s.toList)
      else some (s0.toList == [97, 108, 108, 111, 119], s1, Lib.idxOfS clsL s2, s3, false)
    | _ => some (false, ⟨#[]⟩, 0, ⟨#[]⟩, false)

/-- What strings.Split left, opened. -/
theorem split_open {W : World} {base : Nat} {v : Value} {l : List ByteArray} (h : Kd.R Kd.string 9 W base (fun _ => True) v l) (h0 : 0 < l.length) :
    ∃ g cap cur, v = .slice (some ⟨g, 0, none⟩) l.length cap ∧ base ≤ g ∧ W.heap[g]? = some (.cells cur 9 (0, 0)) ∧ ∀ (j : Nat) x, l[j]? = some x → cur[j]? = some (.string x) := by
  have ho := Kd.own_of_R h
  rcases ho.2 with ⟨_, h2⟩ | ⟨g, cap, cur, e1, e2, e3, e4, e5, e6, e7⟩
  · omega
  · refine ⟨g, cap, cur, e1, e2, e3, fun j x hj => ?_⟩
    obtain ⟨hlt, hx⟩ := List.getElem?_eq_some_iff.1 hj
    have h8 : (cur.toList.take (l.length * 1))[j]? = (encs Value.string l)[j]? := by rw [e7]
    rw [List.getElem?_take, if_pos (by omega)] at h8
    have h9 : (encs Value.string l)[j]? = some (.string x) := by simp [encs, hj]
    rw [h9] at h8
    simpa using h8

set_option maxHeartbeats 1600000 in
set_option maxRecDepth 100000 in
theorem read_not (s : ByteArray) (l : List ByteArray) (w : World) (hs : strings_Split.f s ⟨#[32]⟩ = some l) (hn : l.length ≠ 4) (h0 : 0 < l.length) (hLd : Laid w) :
    Calls Tryz.prog 13 #[.string s] w fun e w' => e = .returned (.tuple #[.agg #[.bool false, .string ⟨#[]⟩, .int .i64 0, .string ⟨#[]⟩], .bool false]) ∧ Below w.heap.size w w' := by
  have al := (Below.refl w.heap.size w).alloc (Nat.le_refl _) (.cells #[.bool false, .string ⟨#[]⟩, .int .i64 0, .string ⟨#[]⟩] 45)
  have AL := Lib.hid al
  have HL := Lib.hid (hLd.below rfl al)
  clear al
  have HG0 := Lib.hid (heap_alloc_new w (.cells #[.bool false, .string ⟨#[]⟩, .int .i64 0, .string ⟨#[]⟩] 45))
  have hne : decide ((l.length : Int) = 4) = false := decide_eq_false (by omega)
  have hne2 : ((l.length : Int) == 4) = false := beq_eq_false_iff_ne.2 (by omega)
  have hne3 : ((l.length : Int) != 4) = true := by simp [bne, hne2]
  go_enter Tryz.func13, Tryz.ntmps13
  go_wp2_with (go_at_call 12; refine (strings_Split.calls s ⟨#[32]⟩ l _ hs HL.out).mono ?_; rintro e w1 ⟨v, rfl, hR, hb⟩; obtain ⟨gl, cap, cur, rfl, hgl, hcur, hc⟩ := split_open hR h0; have HB := Lib.hid (below_step AL.out hb); have HG := Lib.hid (blk_below HG0.out hb); clear hb hc hcur hR; obtain ⟨q0, q1, q2, q3, qf⟩ := blk4_ HG.out; have qf0 := qf 0; have qf1 := qf 1; have qf2 := qf 2; have qf3 := qf 3)
  have hgs : (set4 w1 w.heap.size (.bool false) (.string ⟨#[]⟩) (.int .i64 0) (.string ⟨#[]⟩)).heap[w.heap.size]? = some (.cells #[.bool false, .string ⟨#[]⟩, .int .i64 0, .string ⟨#[]⟩] 45 (0, 0)) := set4_same _ _ _ _ HG.out
  refine bodyPost_ret_by (results_ct rfl _ _ w.heap.size 45 _ (0, 0) _ rfl hgs Tryz.underlying45 rfl (by kernel_rfl)) rfl ?_
  exact ⟨rfl, set4_below HB.out (Nat.le_refl _) _ _ _ _⟩

set_option maxHeartbeats 1600000 in
set_option maxRecDepth 100000 in
theorem read_four (k : Nat) (s s0 s1 s2 s3 : ByteArray) (rr : Bool) (ln : ByteArray) (w : World) (hs : strings_Split.f s ⟨#[32]⟩ = some [s0, s1, s2, s3]) (hLd : Laid w)
    (hR : acl_Right.f k (s0.toList == [97, 108, 108, 111, 119]) s1 (Lib.idxOfS clsL s2) s3 = some rr)
    (hLn : rr = true → Pa.acl_line.f (s0.toList == [97, 108, 108, 111, 119]) s1 (Lib.idxOfS clsL s2) s3 = some ln) :
    Calls Tryz.prog 13 #[.string s] w fun e w' => e = .returned (.tuple #[.agg #[.bool (s0.toList == [97, 108, 108, 111, 119]), .string s1, .int .i64 (Lib.idxOfS clsL s2), .string s3], .bool (rr && (ln.toList == s.toList))]) ∧ Below w.heap.size w w' := by
  have al := (Below.refl w.heap.size w).alloc (Nat.le_refl _) (.cells #[.bool false, .string ⟨#[]⟩, .int .i64 0, .string ⟨#[]⟩] 45)
  have AL := Lib.hid al
  have HL := Lib.hid (hLd.below rfl al)
  clear al
  have HG0 := Lib.hid (heap_alloc_new w (.cells #[.bool false, .string ⟨#[]⟩, .int .i64 0, .string ⟨#[]⟩] 45))
  have HRR := Lib.hid hR
  have HLN := Lib.hid hLn
  have HLD := Lib.hid hLd
  clear hR hLn hLd
  go_enter Tryz.func13, Tryz.ntmps13
  go_wp2_with (first | (go_at_call 12; refine (strings_Split.calls s ⟨#[32]⟩ _ _ hs HL.out).mono ?_; rintro e w1 ⟨v, rfl, hR, hb⟩; obtain ⟨gl, cap, cur, rfl, hgl, hcur, hc⟩ := split_open hR (Nat.zero_lt_succ 3); have HB := Lib.hid (below_step AL.out hb); have HG := Lib.hid (blk_below HG0.out hb); have HC := Lib.hid hcur; have HX := Lib.hid hc; have HS := Lib.hid (show w.heap.size < w1.heap.size from Nat.lt_of_lt_of_le (blk_lt HG0.out) hb.size); have HGL := Lib.hid (show w.heap.size < gl from Nat.lt_of_lt_of_le (blk_lt HG0.out) hgl); clear hb hc hcur hR hgl) | fail)
  have alc := (Below.refl w1.heap.size w1).alloc (Nat.le_refl _) (.cells #[.int .u32 0, .int .i32 0, .int .u32 0, .slice none 0 0] 90)
  have hHS := HS.out
  have hHGL := HGL.out
  have hgl1 : gl < w1.heap.size := blk_lt HC.out
  have hsz1 : (w1.alloc (.cells #[.int .u32 0, .int .i32 0, .int .u32 0, .slice none 0 0] 90)).heap.size = w1.heap.size + 1 := by simp
  refine R5 s s0 s1 s2 s3 gl cap w.heap.size w1.heap.size (w1.heap.size + 1) cur w _ _ _ _ _ _ _ _ _ _ _ _ _ _ _ _ _ _ _ _ _ _ _ _ _ _ _ _ _ _ _ _ _ _ (HX.out 0 _ rfl) (HX.out 1 _ rfl) (HX.out 2 _ rfl) (HX.out 3 _ rfl) (by omega) (by omega) (by omega) (by omega) (by omega) (by omega) (by omega) HLD.out.1
    (blk_below HC.out alc) (blk_below HG.out alc) (heap_alloc_new w1 _) (below_step HB.out alc) (by rw [hsz1]; exact Nat.le_refl _) ?_
  intro W x13 x14 x15 x16 x17 x18 x19 x20 x21 x22 x23 x24 x25 x26 x27 x28 g6 hg6 hn6 hg2 hB
  have H6 := Lib.hid hg6
  have H2 := Lib.hid hg2
  have HBW := Lib.hid hB
  have H26 := Lib.hid (show w.heap.size ≠ g6 by omega)
  clear hg6 hg2 hB alc hsz1 hgl1 hHS hHGL hn6 HC HX HS HGL HG HB AL HL HG0
  rename_i K hK
  show K _ W
  refine hK _ _ ?_
  clear hK K
  dsimp only
  go_wp2_with fail
  cases rr with
  | true =>
    refine R6t s _ s1 _ s3 ln w.heap.size g6 w _ _ _ _ _ _ _ _ _ _ _ _ _ _ _ _ _ _ _ _ _ _ _ _ _ W _ _ _ _ _ _ _ _ _ _ H26.out (Nat.le_refl _) k HRR.out (HLN.out rfl) HLD.out H6.out H2.out HBW.out ?_
    intro W2 y29 y30 y31 y32 y33 y34 y35 y36 y37 hg hb
    have HB2 := Lib.hid hb
    have HG2 := Lib.hid hg
    clear hb hg
    rename_i K Q' hK
    show K _ W2
    refine hK _ _ ?_
    clear hK K
    dsimp only
    go_wp2_with fail
    refine bodyPost_ret_by (results_ct rfl _ _ w.heap.size 45 _ (0, 0) _ rfl HG2.out Tryz.underlying45 rfl (by kernel_rfl)) rfl ?_
    exact ⟨rfl, HB2.out⟩
  | false =>
    refine R6f s _ s1 _ s3 w.heap.size g6 w _ _ _ _ _ _ _ _ _ _ _ _ _ _ _ _ _ _ _ _ _ _ _ _ _ W _ _ _ _ _ _ _ _ _ _ H26.out (Nat.le_refl _) k HRR.out H6.out H2.out HBW.out ?_
    intro W2 y29 y30 y31 y32 y33 y34 y35 y36 y37 hg hb
    have HB2 := Lib.hid hb
    have HG2 := Lib.hid hg
    clear hb hg
    rename_i K Q' hK
    show K _ W2
    refine hK _ _ ?_
    clear hK K
    dsimp only
    go_wp2_with fail
    refine bodyPost_ret_by (results_ct rfl _ _ w.heap.size 45 _ (0, 0) _ rfl HG2.out Tryz.underlying45 rfl (by kernel_rfl)) rfl ?_
    exact ⟨rfl, HB2.out⟩

theorem acl_read.calls (k : Nat) (a0 : ByteArray) (r1 : Bool) (r2 : ByteArray) (r3 : Int) (r4 : ByteArray) (r5 : Bool) (w : World) (h : acl_read.f k a0 = some (r1, r2, r3, r4, r5)) (hLd : Laid w) :
    Calls Tryz.prog 13 #[.string a0] w fun e w' => e = .returned (.tuple #[.agg #[.bool r1, .string r2, .int .i64 r3, .string r4], .bool r5]) ∧ Below w.heap.size w w' := by
  unfold acl_read.f at h
  obtain ⟨l, hs, h⟩ := Option.bind_eq_some_iff.1 h
  have h0 : 0 < l.length := by
    unfold strings_Split.f at hs
    split at hs
    · rename_i hc
      have := Lib.splitB_all ⟨#[32]⟩ hc.2 0 _ a0 rfl
      rw [← Option.some.inj hs, this]
      exact Nat.zero_lt_succ _
    · cases hs
  match l, hs, h, h0 with
  | [s0, s1, s2, s3], hs, h, _ =>
    obtain ⟨rr, hR, h⟩ := Option.bind_eq_some_iff.1 h
    cases rr with
    | true =>
      rw [if_pos rfl] at h
      obtain ⟨ln, hL, h⟩ := Option.bind_eq_some_iff.1 h
      have h' := Option.some.inj h
      simp only [Prod.mk.injEq] at h'
      obtain ⟨rfl, rfl, rfl, rfl, rfl⟩ := h'
      exact read_four k a0 s0 _ s2 _ true ln w hs hLd hR (fun _ => hL)
    | false =>
      rw [if_neg (by decide)] at h
      have h' := Option.some.inj h
      simp only [Prod.mk.injEq] at h'
      obtain ⟨rfl, rfl, rfl, rfl, rfl⟩ := h'
      exact read_four k a0 s0 _ s2 _ false ⟨#[]⟩ w hs hLd hR (fun h => Bool.noConfusion h)
  | [], hs, h, h0 => exact absurd h0 (Nat.lt_irrefl 0)
  | [x0], hs, h, h0 =>
    have h' := Option.some.inj h
    simp only [Prod.mk.injEq] at h'
    obtain ⟨rfl, rfl, rfl, rfl, rfl⟩ := h'
    exact read_not a0 _ w hs (by simp) h0 hLd
  | [x0, x1], hs, h, h0 =>
    have h' := Option.some.inj h
    simp only [Prod.mk.injEq] at h'
    obtain ⟨rfl, rfl, rfl, rfl, rfl⟩ := h'
    exact read_not a0 _ w hs (by simp) h0 hLd
  | [x0, x1, x2], hs, h, h0 =>
    have h' := Option.some.inj h
    simp only [Prod.mk.injEq] at h'
    obtain ⟨rfl, rfl, rfl, rfl, rfl⟩ := h'
    exact read_not a0 _ w hs (by simp) h0 hLd
  | x0 :: x1 :: x2 :: x3 :: x4 :: xs, hs, h, h0 =>
    have h' := Option.some.inj h
    simp only [Prod.mk.injEq] at h'
    obtain ⟨rfl, rfl, rfl, rfl, rfl⟩ := h'
    exact read_not a0 _ w hs (by simp) h0 hLd
end Go.Proofs.YthngjjeilcfhgaaGreatDoor
