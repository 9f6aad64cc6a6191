/- Whether a rule may be, by the program's acl.Right: the walk. -/
import Derived.Test.YthngjjeilcfhgaaGreatDoorPa
import Derived.Deep.CutBlock
import Derived.Lib.ConvBytes
set_option linter.unusedVariables false
namespace Go.Proofs.YthngjjeilcfhgaaGreatDoor
open Go.RowKit Go.Proofs.YthngjjeilcfhgaaGreatDoorW.PrintWords Go.Proofs.YthngjjeilcfhgaaGreatDoorW.PrintLast

/-- Are all bytes of a name above the blank and below the last sign? -/
def userB (u : ByteArray) : Bool := u.data.toList.all fun b => decide (33 ≤ b.toNat) && decide (b.toNat ≤ 126)
def acl_Right.f (k : Nat) (b : Bool) (u : ByteArray) (c : Int) (p : ByteArray) : Option Bool :=
  if u.size < 1 ∨ 20 < u.size ∨ p = ⟨#[]⟩ then some false
  else (strings_ContainsAny.f p ⟨#[32, 10]⟩).bind fun t => if t = true then some false else if userB u = true then (if 0 ≤ c ∧ c ≤ 3 then Pa.glob_Right.f k p else some false) else some false

theorem getD_at (l : List UInt8) {j : Nat} (h : j < l.length) : l.getD j 0 = l[j] := by
  rw [List.getD_eq_getElem?_getD, List.getElem?_eq_getElem h]
  rfl
theorem ba_ne {p : ByteArray} (h : ¬ p = ⟨#[]⟩) : p.toList.isEmpty = false := by
  rw [Lib.toList_data]
  cases e : p.data.toList with
  | nil => exact absurd (ba_of e) h
  | cons x l => rfl
theorem userB_all {u : ByteArray} (h : userB u = true) (j : Nat) (hj : j < u.size) : 33 ≤ (u.data.toList.getD j 0).toNat ∧ (u.data.toList.getD j 0).toNat ≤ 126 := by
  have hl : j < u.data.toList.length := by rw [← Lib.size_eq]; exact hj
  have := List.all_eq_true.1 h _ (List.getElem_mem hl)
  simp only [Bool.and_eq_true, decide_eq_true_eq] at this
  rw [getD_at _ hl]
  exact this
theorem userB_not {u : ByteArray} (h : userB u = false) : ∃ j, j < u.size ∧ ¬ (33 ≤ (u.data.toList.getD j 0).toNat ∧ (u.data.toList.getD j 0).toNat ≤ 126) := by
  have h' : ¬ userB u = true := by rw [h]; decide
  apply Classical.byContradiction
  intro hn
  apply h'
  refine List.all_eq_true.2 fun x hx => ?_
  obtain ⟨j, hj, rfl⟩ := List.getElem_of_mem hx
  have : j < u.size := by rw [Lib.size_eq]; exact hj
  have h2 := Classical.not_not.1 fun h3 => hn ⟨j, this, h3⟩
  have h4 : u.data.toList.getD j 0 = u.data.toList[j] := getD_at _ hj
  rw [h4] at h2
  simp only [Bool.and_eq_true, decide_eq_true_eq]
  exact h2

def ruleCells (b : Bool) (u : ByteArray) (c : Int) (p : ByteArray) : Array Value := #[.bool b, .string u, .int .i64 c, .string p]

set_option maxHeartbeats 800000 in
set_option maxRecDepth 100000 in
theorem right_early (b : Bool) (u : ByteArray) (c : Int) (p : ByteArray) (w : World) (h : u.size < 1 ∨ 20 < u.size ∨ p = ⟨#[]⟩) :
    Calls Tryz.prog 53 #[.agg #[.bool b, .string u, .int .i64 c, .string p]] w fun e w' => e = .returned (.bool false) ∧ Below w.heap.size w w' := by
  have hb := (Below.refl w.heap.size w).alloc (Nat.le_refl _) (.cells #[.bool b, .string u, .int .i64 c, .string p] 45)
  have HB := Lib.hid hb
  clear hb
  by_cases h1 : u.size < 1
  · clear h
    go_enter Tryz.func53, Tryz.ntmps53
    go_wp2
    go_ret
    exact ⟨rfl, HB.out⟩
  · by_cases h2 : 20 < u.size
    · clear h
      go_enter Tryz.func53, Tryz.ntmps53
      go_wp2
      go_ret
      exact ⟨rfl, HB.out⟩
    · obtain rfl : p = ⟨#[]⟩ := by rcases h with h | h | h
                                   · exact absurd h h1
                                   · exact absurd h h2
                                   · exact h
      clear h
      go_enter Tryz.func53, Tryz.ntmps53
      go_wp2
      go_ret
      exact ⟨rfl, HB.out⟩

theorem ruleBlk (W w : World) (b : Bool) (u : ByteArray) (c : Int) (p : ByteArray) (hb : Below (w.heap.size + 1) (w.alloc (.cells #[.bool b, .string u, .int .i64 c, .string p] 45)) W) : W.heap[w.heap.size]? = some (.cells #[.bool b, .string u, .int .i64 c, .string p] 45 (0, 0)) :=
  (hb.block w.heap.size (Nat.lt_succ_self _)).trans (heap_alloc_new w _)

set_option maxHeartbeats 1600000 in
set_option maxRecDepth 100000 in
theorem right_has (b : Bool) (u : ByteArray) (c : Int) (p : ByteArray) (w : World) (h : ¬ (u.size < 1 ∨ 20 < u.size ∨ p = ⟨#[]⟩)) (hca : strings_ContainsAny.f p ⟨#[32, 10]⟩ = some true) :
    Calls Tryz.prog 53 #[.agg #[.bool b, .string u, .int .i64 c, .string p]] w fun e w' => e = .returned (.bool false) ∧ Below w.heap.size w w' := by
  have h1 : ¬ u.size < 1 := fun x => h (.inl x)
  have h2 : ¬ 20 < u.size := fun x => h (.inr (.inl x))
  have h3 := ba_ne fun x => h (.inr (.inr x))
  have h4 : decide ((u.size : Int) < 1) = false := decide_eq_false (by omega)
  have h5 : decide ((20 : Int) < (u.size : Int)) = false := decide_eq_false (by omega)
  clear h
  have HB := Lib.hid ((Below.refl w.heap.size w).alloc (Nat.le_refl _) (.cells #[.bool b, .string u, .int .i64 c, .string p] 45))
  go_enter Tryz.func53, Tryz.ntmps53
  go_wp2_with (go_at_call 79; refine (strings_ContainsAny.calls p ⟨#[32, 10]⟩ true _ hca).mono ?_; rintro e w' ⟨rfl, hb⟩; have HB2 := Lib.hid (below_step HB.out hb); clear hb)
  go_ret
  exact ⟨rfl, HB2.out⟩

set_option maxHeartbeats 1600000 in
set_option maxRecDepth 100000 in
theorem right_rest (k : Nat) (b : Bool) (u : ByteArray) (c : Int) (p : ByteArray) (r : Bool) (w : World) (h : ¬ (u.size < 1 ∨ 20 < u.size ∨ p = ⟨#[]⟩)) (hca : strings_ContainsAny.f p ⟨#[32, 10]⟩ = some false)
    (hr : (if userB u = true then (if 0 ≤ c ∧ c ≤ 3 then Pa.glob_Right.f k p else some false) else some false) = some r) :
    Calls Tryz.prog 53 #[.agg #[.bool b, .string u, .int .i64 c, .string p]] w fun e w' => e = .returned (.bool r) ∧ Below w.heap.size w w' := by
  have h1 : ¬ u.size < 1 := fun x => h (.inl x)
  have h2 : ¬ 20 < u.size := fun x => h (.inr (.inl x))
  have h3 := ba_ne fun x => h (.inr (.inr x))
  have h4 : decide ((u.size : Int) < 1) = false := decide_eq_false (by omega)
  have h5 : decide ((20 : Int) < (u.size : Int)) = false := decide_eq_false (by omega)
  clear h
  have HB := Lib.hid ((Below.refl w.heap.size w).alloc (Nat.le_refl _) (.cells #[.bool b, .string u, .int .i64 c, .string p] 45))
  have HR := Lib.hid hr
  clear hr
  have hg0 : (w.alloc (.cells #[.bool b, .string u, .int .i64 c, .string p] 45)).heap[w.heap.size]? = some (.cells #[.bool b, .string u, .int .i64 c, .string p] 45 (0, 0)) := heap_alloc_new w _
  have HG0 := Lib.hid hg0
  clear hg0
  go_enter Tryz.func53, Tryz.ntmps53
  go_wp2_with (go_at_call 79; refine (strings_ContainsAny.calls p ⟨#[32, 10]⟩ false _ hca).mono ?_; rintro e w1 ⟨rfl, hb⟩; have HB2 := Lib.hid (below_step HB.out hb); have HG2 := Lib.hid (blk_below HG0.out hb); clear hb; have d1 : w1.cell? ⟨w.heap.size, 1, none⟩ = some (.string u) := (blk_cell HG2.out 1).trans rfl)
  have hcv := Lib.run_convert_string_bytes (P := Tryz.prog) w1 9 68 5 u Tryz.underlying9 Tryz.underlying68 Tryz.underlying5
  have hcell : Hid (∀ j, j < u.size → (Lib.bytesWorld w1 5 u).cell? ⟨w1.heap.size, j, none⟩ = some (.int .u8 (u.data.toList.getD j 0).toNat)) := Lib.hid (Lib.bytesWorld_cell w1 5 u)
  have hbb : Below w1.heap.size w1 (Lib.bytesWorld w1 5 u) := ⟨rfl, rfl, rfl, by rw [Lib.bytesWorld_size]; omega, fun k hk => Lib.bytesWorld_at_old w1 _ u k hk⟩
  have HB3 := Lib.hid (below_step HB2.out hbb)
  have HG3 := Lib.hid (blk_below HG2.out hbb)
  clear hbb
  generalize Lib.bytesWorld w1 5 u = W at hcv hcell HB3 HG3
  generalize grownCap w1 u.size 0 5 = cp at hcv

  go_wp2
  rw [hcv]
  go_wp2
  clear hcv d1
  have d2 : W.cell? ⟨w.heap.size, 2, none⟩ = some (.int .i64 c) := (blk_cell HG3.out 2).trans rfl
  have d3 : W.cell? ⟨w.heap.size, 3, none⟩ = some (.string p) := (blk_cell HG3.out 3).trans rfl
  go_loop [29] (fun i => ∃ j : Nat, j ≤ u.size ∧ i = .int .i64 j ∧ ∀ q, q < j → (33 ≤ (u.data.toList.getD q 0).toNat ∧ (u.data.toList.getD q 0).toNat ≤ 126)) (fun i => u.size - (intOf i).toNat)
  case atStart => exact ⟨0, Nat.zero_le _, rfl, fun q hq => absurd hq (Nat.not_lt_zero q)⟩
  case round =>
    obtain ⟨j, hj, rfl, hall⟩ := hrel
    have HA := Lib.hid hall
    clear hall
    by_cases hlt : j < u.size
    · have hc := hcell.out j hlt
      obtain ⟨x, hx⟩ : ∃ x, x = u.data.toList.getD j 0 := ⟨_, rfl⟩
      rw [← hx] at hc
      have hx256 := x.toNat_lt
      by_cases hok : 33 ≤ x.toNat ∧ x.toNat ≤ 126
      · have hq : Hid (∀ q, q < j + 1 → (33 ≤ (u.data.toList.getD q 0).toNat ∧ (u.data.toList.getD q 0).toNat ≤ 126)) := Lib.hid fun q hq => by
          by_cases e : q = j
          · rw [e, ← hx]; exact hok
          · exact HA.out q (by omega)
        obtain ⟨hok1, hok2⟩ := hok
        clear hx
        go_wp2
        go_round
        case rel => exact ⟨j + 1, by omega, by go_num, hq.out⟩
        case measure => simp [intOf]; omega
      · have hno : userB u = false := by
          cases e : userB u with
          | false => rfl
          | true => exact absurd (hx ▸ userB_all e j hlt) hok
        have hr := HR.out
        rw [hno] at hr
        have hr' : r = false := (Option.some.inj hr).symm
        subst hr'
        clear hr HR hx
        by_cases hk1 : 33 ≤ x.toNat
        · have hk2 : ¬ x.toNat ≤ 126 := fun y => hok ⟨hk1, y⟩
          clear hok
          go_wp2
          go_ret
          exact ⟨rfl, HB3.out⟩
        · clear hok
          go_wp2
          go_ret
          exact ⟨rfl, HB3.out⟩
    · obtain rfl : j = u.size := by omega
      have hyes : userB u = true := by
        cases e : userB u with
        | true => rfl
        | false =>
          obtain ⟨q, hq, hn⟩ := userB_not e
          exact absurd (HA.out q hq) hn
      have hr := HR.out
      rw [hyes, if_pos rfl] at hr
      clear HR
      by_cases hc0 : 0 ≤ c
      · by_cases hc3 : c ≤ 3
        · rw [if_pos ⟨hc0, hc3⟩] at hr
          go_wp2_with (go_at_call 80; refine (Pa.glob_Right.calls k p r _ hr).mono ?_; rintro e w2 ⟨rfl, hb⟩; have HB4 := Lib.hid (below_step HB3.out hb); clear hb)
          go_ret
          exact ⟨rfl, HB4.out⟩
        · rw [if_neg (fun y => hc3 y.2)] at hr
          have hr' : r = false := (Option.some.inj hr).symm
          subst hr'
          clear hr
          go_wp2
          go_ret
          exact ⟨rfl, HB3.out⟩
      · rw [if_neg (fun y => hc0 y.1)] at hr
        have hr' : r = false := (Option.some.inj hr).symm
        subst hr'
        clear hr
        go_wp2
        go_ret
        exact ⟨rfl, HB3.out⟩

theorem acl_Right.calls (k : Nat) (a0_0 : Bool) (a0_1 : ByteArray) (a0_2 : Int) (a0_3 : ByteArray) (r : Bool) (w : World) (h : acl_Right.f k a0_0 a0_1 a0_2 a0_3 = some r) :
    Calls Tryz.prog 53 #[.agg #[.bool a0_0, .string a0_1, .int .i64 a0_2, .string a0_3]] w fun e w' => e = .returned (.bool r) ∧ Below w.heap.size w w' := by
  unfold acl_Right.f at h
  by_cases he : a0_1.size < 1 ∨ 20 < a0_1.size ∨ a0_3 = ⟨#[]⟩
  · rw [if_pos he] at h
    obtain rfl := Option.some.inj h
    exact right_early a0_0 a0_1 a0_2 a0_3 w he
  · rw [if_neg he] at h
    obtain ⟨t, ht, h⟩ := Option.bind_eq_some_iff.1 h
    cases t with
    | true =>
      rw [if_pos rfl] at h
      obtain rfl := Option.some.inj h
      exact right_has a0_0 a0_1 a0_2 a0_3 w he ht
    | false =>
      rw [if_neg (by decide)] at h
      exact right_rest k a0_0 a0_1 a0_2 a0_3 r w he ht h
end Go.Proofs.YthngjjeilcfhgaaGreatDoor
