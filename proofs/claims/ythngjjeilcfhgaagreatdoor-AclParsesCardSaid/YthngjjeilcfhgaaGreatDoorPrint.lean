/- Rules as a text, by the program's acl.Print: the walk. -/
import Derived.Test.YthngjjeilcfhgaaGreatDoorPa
import Derived.Test.YthngjjeilcfhgaaGreatDoorBuild
import Derived.Deep.CutBlock
set_option linter.unusedVariables false
set_option linter.unusedSimpArgs false
namespace Go.Proofs.YthngjjeilcfhgaaGreatDoor
open Go.RowKit Go.Proofs.YthngjjeilcfhgaaGreatDoorW.PrintWords Go.Proofs.YthngjjeilcfhgaaGreatDoorW.PrintLast

def BAt (B b : Nat) (p : Value) (bs : List Value) (W : World) : Prop := Lib.BuilderAtF 70 5 B b p bs W
theorem bat_below {W W1 : World} {B b : Nat} {p : Value} {bs : List Value} (h : Lib.BuilderAtF 70 5 B b p bs W) (hb : Below W.heap.size W W1) : Lib.BuilderAtF 70 5 B b p bs W1 := by
  obtain ⟨hB, v, hv, hown, hne⟩ := h
  refine ⟨hB, v, blk_below hv hb, ⟨hown.1, ?_⟩, hne⟩
  rcases hown.2 with hn | ⟨g, cap, cur, fz, e1, e2, e3, rest⟩
  · exact .inl hn
  · exact .inr ⟨g, cap, cur, fz, e1, e2, blk_below e3 hb, rest⟩
theorem isb_fresh {W : World} {b : Nat} (h : W.heap[b]? = some (.cells #[.pointer none, .slice none 0 0] 70 (0, 0))) : Lib.IsBuilderF 70 5 b b [] W :=
  .inl ⟨Nat.le_refl _, .slice none 0 0, h, ⟨rfl, .inl ⟨rfl, rfl⟩⟩, by simp [Value.ownBlock]⟩
theorem isb_below {W W1 : World} {B b : Nat} {bs : List Value} (h : Lib.IsBuilderF 70 5 B b bs W) (hb : Below W.heap.size W W1) : Lib.IsBuilderF 70 5 B b bs W1 := by
  rcases h with h | h
  · exact .inl (bat_below h hb)
  · exact .inr (bat_below h hb)
theorem bat_is {W : World} {B b : Nat} {bs : List Value} (h : Lib.BuilderAtF 70 5 B b (.pointer (some ⟨b, 0, none⟩)) bs W) : Lib.IsBuilderF 70 5 B b bs W := .inr h

/-- Rules as a text. -/
def printL : List Pa.S45 → Option (List UInt8)
  | [] => some []
  | x :: xs => (Pa.acl_line.f x.f0 x.f1 x.f2 x.f3).bind fun ln => (printL xs).bind fun r => some (ln.data.toList ++ [10] ++ r)
theorem printL_snoc (x : Pa.S45) : ∀ xs, printL (xs ++ [x]) = (printL xs).bind fun a => (Pa.acl_line.f x.f0 x.f1 x.f2 x.f3).bind fun ln => some (a ++ (ln.data.toList ++ [10]))
  | [] => by
    simp only [List.nil_append, printL, Option.bind_some]
    cases Pa.acl_line.f x.f0 x.f1 x.f2 x.f3 <;> simp
  | y :: ys => by
    simp only [List.cons_append, printL, printL_snoc x ys]
    cases Pa.acl_line.f y.f0 y.f1 y.f2 y.f3 <;> cases printL ys <;> cases Pa.acl_line.f x.f0 x.f1 x.f2 x.f3 <;> simp
theorem printL_take {l : List Pa.S45} {t : List UInt8} (h : printL l = some t) : ∀ k, ∃ a, printL (l.take k) = some a ∧ a.length ≤ t.length := by
  induction l generalizing t with
  | nil => intro k; exact ⟨[], by simp [printL], by simp⟩
  | cons x xs ih =>
    intro k
    simp only [printL] at h
    obtain ⟨ln, h1, h⟩ := Option.bind_eq_some_iff.1 h
    obtain ⟨r, h2, h⟩ := Option.bind_eq_some_iff.1 h
    obtain rfl := Option.some.inj h
    cases k with
    | zero => exact ⟨[], by simp [printL], by simp⟩
    | succ k =>
      obtain ⟨a, ha, hl⟩ := ih h2 k
      refine ⟨ln.data.toList ++ [10] ++ a, ?_, ?_⟩
      · simp only [List.take_succ_cons, printL, h1, ha, Option.bind_some]
      · simp only [List.length_append, List.length_cons, List.length_nil]; omega
theorem printL_at {l : List Pa.S45} {t : List UInt8} (h : printL l = some t) (k : Nat) (hk : k < l.length) {a : List UInt8} (ha : printL (l.take k) = some a) : ∃ ln, Pa.acl_line.f l[k].f0 l[k].f1 l[k].f2 l[k].f3 = some ln ∧ printL (l.take (k + 1)) = some (a ++ (ln.data.toList ++ [10])) ∧ a.length + ln.size + 1 ≤ t.length := by
  obtain ⟨b, hb, hl⟩ := printL_take h (k + 1)
  have hb2 := hb
  rw [List.take_succ_eq_append_getElem hk, printL_snoc, ha, Option.bind_some] at hb
  obtain ⟨ln, h1, h2⟩ := Option.bind_eq_some_iff.1 hb
  obtain rfl := Option.some.inj h2
  refine ⟨ln, h1, hb2, ?_⟩
  simp only [List.length_append, List.length_cons, List.length_nil, ← Lib.size_eq] at hl
  omega

theorem room_ {a t : List UInt8} {ln : ByteArray} (h : a.length + ln.size + 1 ≤ t.length) (hz : t.length ≤ 140737488355328) : (Lib.byteCells a).length + (ln ++ ⟨#[10]⟩).size ≤ 140737488355328 := by
  have e : (ln ++ ⟨#[10]⟩).size = ln.size + 1 := by rw [ByteArray.size_append]; rfl
  rw [Lib.byteCells_length, e]
  exact Nat.le_trans h hz
def acl_Print.f (l0 : List Pa.S45) : Option ByteArray := (printL l0).bind fun t => if t.length ≤ 140737488355328 then some ⟨t.toArray⟩ else none

theorem w_succ (k : Nat) (h : k + 1 ≤ 4611686018427387904) : wrap64 ((k : Int) + 1) = ((k + 1 : Nat) : Int) := by unfold wrap64; omega
theorem w_meas (k n : Nat) (h : k + 1 ≤ n) : n - (((k + 1 : Nat) : Int)).toNat < n - ((k : Nat) : Int).toNat := by omega
theorem nl_app (ln : ByteArray) : (ln ++ ⟨#[10]⟩).data.toList = ln.data.toList ++ [10] := by simp
theorem nl_size (ln : ByteArray) : (ln ++ ⟨#[10]⟩).size = ln.size + 1 := by simp [ByteArray.size_append]; rfl

set_option maxHeartbeats 400000 in
set_option maxRecDepth 100000 in
theorem acl_Print.calls (A0 : Option Addr) (c0 : Nat) (l0 : List Pa.S45) (r : ByteArray) (w : World) (hr0 : Kd.C Pa.k45 w A0 l0.length l0) (hc0 : l0.length ≤ c0) (h : acl_Print.f l0 = some r) (hLd : Laid w) :
    Calls Tryz.prog 11 #[.slice A0 l0.length c0] w fun e w' => e = .returned (.string r) ∧ Below w.heap.size w w' := by
  unfold acl_Print.f at h
  obtain ⟨t, ht, h⟩ := Option.bind_eq_some_iff.1 h
  split at h
  rotate_left
  · cases h
  rename_i hsz
  obtain rfl := Option.some.inj h
  clear h
  have HT := Lib.hid ht
  have HZ := Lib.hid hsz
  have HL := Lib.hid hLd
  have hn : l0.length ≤ 9223372036854775807 := hr0.2.1
  have HN := Lib.hid hn
  clear ht hsz hLd hn
  have HC := Lib.hid hr0
  clear hr0
  have al := (Below.refl w.heap.size w).alloc (Nat.le_refl _) (.cells #[.pointer none, .slice none 0 0] 70)
  have AL := Lib.hid al
  have HI := Lib.hid (isb_fresh (heap_alloc_new w (.cells #[.pointer none, .slice none 0 0] 70)))
  have HS := Lib.hid (show w.heap.size < (w.alloc (.cells #[.pointer none, .slice none 0 0] 70)).heap.size by simp)
  clear al
  go_enter Tryz.func11, Tryz.ntmps11
  go_wp2_with fail
  go_loopw [8] (fun i wr => ∃ (k : Nat) (a : List UInt8), k ≤ l0.length ∧ i = .int .i64 k ∧ Aside (printL (l0.take k) = some a) ∧ Aside (Lib.IsBuilderF 70 5 w.heap.size w.heap.size (Lib.byteCells a) wr) ∧ Aside (Below w.heap.size w wr) ∧ Aside (w.heap.size < wr.heap.size)) (fun i _ => l0.length - (intOf i).toNat)
  case atStart => exact ⟨0, [], Nat.zero_le _, rfl, rfl, HI.out, AL.out, HS.out⟩
  case round =>
    obtain ⟨k, a, hk, rfl, hp, hI, hBl, hSz⟩ := hrel
    by_cases hlt : k < l0.length
    · obtain ⟨ln, hln, hnext, hroom⟩ := printL_at HT.out k hlt hp.out
      have HLN := Lib.hid hln
      have HNX := Lib.hid hnext
      have HRM := Lib.hid hroom
      have HRM2 := Lib.hid (room_ hroom HZ.out)
      clear hln hnext hroom
      have p0 : (0 : Int) ≤ (k : Int) := by omega
      have q0 : (k : Int) < (l0.length : Int) := by omega
      obtain ⟨ad, e, hx0, hx1, hx2, hx3⟩ := Pa.at_T45 (Kd.C_below HC.out hBl.out) (k : Int) p0 q0
      have hr : Pa.rd_T45 l0 (k : Int) = l0[k] := by simp [Pa.rd_T45, List.getD, hlt]
      rw [hr] at hx0 hx1 hx2 hx3
      clear hr
      generalize l0[k] = x at HLN hx0 hx1 hx2 hx3
      obtain ⟨x0, x1, x2, x3⟩ := x
      subst e
      rw [Int.toNat_natCast] at hx0 hx1 hx2 hx3
      have hb4 := (Below.refl wr.heap.size wr).alloc (Nat.le_refl _) (.cells #[.bool x0, .string x1, .int .i64 x2, .string x3] 45)
      have HB4 := Lib.hid hb4
      clear hb4
      have hlt1 := Lib.hid (And.intro hlt trivial)
      go_wp2_with fail
      refine (Pa.acl_line.calls x0 x1 x2 x3 ln _ HLN.out (HL.out.below rfl (below_step hBl.out HB4.out))).mono ?_
      rintro e1 w1 ⟨rfl, hb⟩
      have HB5 := Lib.hid (below_step HB4.out hb)
      clear hb
      have HI5 := Lib.hid (isb_below hI.out HB5.out)
      have HW5 := Lib.hid (below_step hBl.out HB5.out)
      have HS5 := Lib.hid (Nat.lt_of_lt_of_le hSz.out HB5.out.size)
      clear hI hBl hSz hx0 hx1 hx2 hx3
      have hcs : ln.size ≤ 140737488355327 := by have := HRM.out; have := HZ.out; omega
      go_wp2_with fail
      have hws := ws_any w.heap.size w.heap.size (Lib.byteCells a) (ln ++ ⟨#[10]⟩) w1 HI5.out HRM2.out (Nat.le_of_lt HS5.out)
      refine hws.mono ?_
      rintro e2 w2 ⟨rfl, h4, hb4⟩
      rw [Lib.strCells_eq, ← Lib.byteCells_append, nl_app] at h4
      have HA6 := Lib.hid h4
      have HB6 := Lib.hid (HW5.out.trans hb4)
      have HS6 := Lib.hid (Nat.lt_of_lt_of_le HS5.out hb4.size)
      clear h4 hb4
      go_wp2
      go_roundw
      have hw : wrap64 ((k : Int) + 1) = ((k + 1 : Nat) : Int) := by have := HN.out; unfold wrap64; omega
      case rel => exact ⟨k + 1, _, hlt1.out.1, by rw [hw], HNX.out, bat_is HA6.out, HB6.out, HS6.out⟩
      case measure => have := hlt1.out.1; have hw : wrap64 ((k : Int) + 1) = ((k + 1 : Nat) : Int) := (by have := HN.out; unfold wrap64; omega); rw [hw]; exact w_meas k l0.length hlt1.out.1
    · obtain rfl : k = l0.length := by omega
      have ha : a = t := by
        have h1 := hp.out
        rw [List.take_length, HT.out] at h1
        exact (Option.some.inj h1).symm
      subst ha
      go_wp2_with (go_at_call 49; refine (Tryz.Builder_String_any_f w.heap.size w.heap.size _ _ hI.out (Nat.le_of_lt hSz.out)).mono ?_; rintro e4 w5 ⟨rfl, _, hb5⟩; have HB5 := Lib.hid (hBl.out.trans hb5); clear hb5 hI hBl hSz)
      go_ret
      exact ⟨rfl, HB5.out⟩
end Go.Proofs.YthngjjeilcfhgaaGreatDoor
