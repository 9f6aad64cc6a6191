/- A region that draws its order, by an invariant: 'I L a w', where L tells which operations are done. Each operation has ONE case, whatever the order. -/
import Derived.Test.YtbfdaclekjgkfaaGreatDoorProg
import Derived.WalkKit
import Derived.Test.YtbfdaclekjgkfaaGreatDoorWLast
namespace Go.Proofs.YtbfdaclekjgkfaaGreatDoor
open Go.RowKit
section
variable {P : Program} {ops : Array Oper} {Q : Exit → Act → World → Prop}

/-- Every binding edge leads to an operation of a smaller number. -/
def lowB (ops : Array Oper) : Bool := (List.range ops.size).all fun i => ((ops[i]?).map fun o => o.after.all fun e => !Region.binds .any e || decide (e.on < i)).getD true

theorem ready_nil_all (hlow : lowB ops = true) {listed : Array Bool} (h : Region.ready .any ops listed = []) : ∀ i, i < ops.size → listed.getD i true = true := by
  intro i
  induction i using Nat.strongRecOn with
  | ind i ih =>
    intro hi
    cases hl : listed.getD i true with
    | true => rfl
    | false =>
      exfalso
      have hmem : i ∈ Region.ready .any ops listed := by
        unfold Region.ready
        simp only [List.mem_filter, List.mem_range, hl, Bool.not_false, Bool.true_and]
        refine ⟨hi, ?_⟩
        obtain ⟨o, ho⟩ : ∃ o, ops[i]? = some o := ⟨ops[i], by simp [hi]⟩
        rw [ho]
        simp only [Option.map_some, Option.getD_some]
        have hlo := List.all_eq_true.1 hlow i (List.mem_range.2 hi)
        rw [ho] at hlo
        simp only [Option.map_some, Option.getD_some] at hlo
        rw [Array.all_eq_true] at hlo ⊢
        intro x hx
        have h1 := hlo x hx
        simp only [Bool.or_eq_true, decide_eq_true_eq] at h1 ⊢
        rcases h1 with h1 | h1
        · exact .inl h1
        · right
          have h2 := ih _ h1 (by omega)
          have hl2 := hl
          by_cases hsz : (o.after[x].on) < listed.size
          · simp [Array.getD, hsz] at h2 ⊢; exact h2
          · by_cases hsi : i < listed.size
            · omega
            · simp [Array.getD, hsi] at hl2
      rw [h] at hmem
      cases hmem

theorem wpAny_inv (hlow : lowB ops = true) (I : (Nat → Bool) → Act → World → Prop)
    (hstep : ∀ i o L a w, ops[i]? = some o → L i = false → o.after.all (fun e => !Region.binds .any e || L e.on) = true → I L a w →
      if Region.wanted o (yielded ops a.tmps) = true then Oper.wp P o a w (fun a' w' => I (fun j => j == i || L j) a' w') Q else I (fun j => j == i || L j) (a.put o.dst undef) w)
    (hdone : ∀ L a w, (∀ i, i < ops.size → L i = true) → I L a w → Q .normal a w) :
    ∀ (fuel : Nat) (listed : Array Bool) (L : Nat → Bool) (a : Act) (w : World), listed.size = ops.size → (∀ i, i < ops.size → L i = listed.getD i false) → (listed.toList.filter (fun b => !b)).length ≤ fuel → I L a w → wpAny P .any ops Q fuel listed a w := by
  have hend : ∀ (listed : Array Bool) (L : Nat → Bool) (a : Act) (w : World), listed.size = ops.size → (∀ i, i < ops.size → L i = listed.getD i false) → Region.ready .any ops listed = [] → I L a w → Q .normal a w := by
    intro listed L a w hs hL hr hI
    refine hdone L a w (fun i hi => ?_) hI
    have := ready_nil_all hlow hr i hi
    rw [hL i hi]
    simp [Array.getD, hs, hi] at this ⊢
    exact this
  intro fuel
  induction fuel with
  | zero =>
    intro listed L a w hs hL hf hI
    have hr : Region.ready .any ops listed = [] := by
      unfold Region.ready
      rw [List.filter_eq_nil_iff]
      intro i hi
      have hi' := List.mem_range.1 hi
      have : listed.getD i true = true := by
        have h0 : listed.toList.filter (fun b => !b) = [] := List.length_eq_zero_iff.1 (by omega)
        rw [List.filter_eq_nil_iff] at h0
        have h1 := h0 (listed[i]'(by omega)) (by simp)
        simp [Array.getD, hs, hi'] at h1 ⊢
        exact h1
      simp [this]
    exact ⟨hr, hend listed L a w hs hL hr hI⟩
  | succ fuel ih =>
    intro listed L a w hs hL hf hI
    refine ⟨fun hr => hend listed L a w hs hL hr hI, fun i hi => ?_⟩
    unfold Region.ready at hi
    simp only [List.mem_filter, List.mem_range, Bool.and_eq_true, Bool.not_eq_true'] at hi
    obtain ⟨hi', hun, haft⟩ := hi
    obtain ⟨o, ho⟩ : ∃ o, ops[i]? = some o := ⟨ops[i], by simp [hi']⟩
    rw [ho] at haft
    simp only [Option.map_some, Option.getD_some] at haft
    have hLi : L i = false := by
      rw [hL i hi']
      simp [Array.getD, hs, hi'] at hun ⊢
      exact hun
    have hlo := List.all_eq_true.1 hlow i (List.mem_range.2 hi')
    rw [ho] at hlo
    simp only [Option.map_some, Option.getD_some] at hlo
    have haft' : o.after.all (fun e => !Region.binds .any e || L e.on) = true := by
      rw [Array.all_eq_true] at haft hlo ⊢
      intro x hx
      have h1 := haft x hx
      have h2 := hlo x hx
      simp only [Bool.or_eq_true, decide_eq_true_eq] at h1 h2 ⊢
      rcases h1 with h1 | h1
      · exact .inl h1
      · rcases h2 with h2 | h2
        · exact .inl h2
        · right; rw [hL _ (by omega)]; exact h1
    have hst := hstep i o L a w ho hLi haft' hI
    have hlen : ((listed.setIfInBounds i true).toList.filter (fun b => !b)).length ≤ fuel := by
      have hget : listed.toList[i]? = some false := by
        simp [Array.getD, hs, hi'] at hun
        simp [hs, hi', hun]
      rw [Array.toList_setIfInBounds]
      have key : ∀ (l : List Bool) (i : Nat), l[i]? = some false → ((l.set i true).filter (fun b => !b)).length + 1 = (l.filter (fun b => !b)).length := by
        intro l
        induction l with
        | nil => intro i h; simp at h
        | cons x xs ihl =>
          intro i h
          cases i with
          | zero => simp at h; subst h; simp
          | succ i =>
            simp only [List.getElem?_cons_succ] at h
            have := ihl i h
            cases x <;> simp [List.set_cons_succ] at this ⊢ <;> omega
      have := key listed.toList i hget
      omega
    have hmono : ∀ (a' : Act) (w' : World), I (fun j => j == i || L j) a' w' → wpAny P .any ops Q fuel (listed.setIfInBounds i true) a' w' := by
      intro a' w' hI'
      refine ih _ _ a' w' (by simp [hs]) (fun j hj => ?_) hlen hI'
      by_cases hji : j = i
      · subst hji
        simp [Array.getD, hs, hj]
      · have hb : (j == i) = false := by simp [hji]
        rw [hb, Bool.false_or, hL j hj]
        simp only [Array.getD, Array.size_setIfInBounds]
        split
        · rw [Array.getInternal_eq_getElem, Array.getInternal_eq_getElem, Array.getElem_setIfInBounds_ne _ (by omega)]
        · rfl
    refine wpOp_mono hmono ?_
    unfold wpOp
    rw [ho]
    show if Region.wanted o (yielded ops a.tmps) = true then _ else _
    split
    · rename_i hw; rw [if_pos hw] at hst; exact .inl hst
    · rename_i hw; rw [if_neg hw] at hst; exact hst

theorem wp_region_inv {id : Nat} {a : Act} {w : World} (hm : P.follows .mixedOrders = true) (hlow : lowB ops = true) (I : (Nat → Bool) → Act → World → Prop)
    (h0 : I (fun _ => false) a w.drew)
    (hstep : ∀ i o L a w, ops[i]? = some o → L i = false → o.after.all (fun e => !Region.binds .any e || L e.on) = true → I L a w →
      if Region.wanted o (yielded ops a.tmps) = true then Oper.wp P o a w (fun a' w' => I (fun j => j == i || L j) a' w') Q else I (fun j => j == i || L j) (a.put o.dst undef) w)
    (hdone : ∀ L a w, (∀ i, i < ops.size → L i = true) → I L a w → Q .normal a w) : (Code.region id ops true).wp P Q a w := by
  refine wp_region_any hm ?_
  refine wpAny_inv hlow I hstep hdone ops.size _ (fun _ => false) a _ (by simp) (fun i hi => by simp [Array.getD, hi]) ?_ h0
  refine Nat.le_trans (List.length_filter_le _ _) ?_
  simp

/-- What is done waits for nothing that is not. -/
def ClosedL (ops : Array Oper) (L : Nat → Bool) : Prop := ∀ j o, ops[j]? = some o → L j = true → o.after.all (fun e => !Region.binds .any e || L e.on) = true
theorem dep_ {A : Array Edge} {L : Nat → Bool} (h : A.all (fun e => !Region.binds .any e || L e.on) = true) (k : Nat) {j : Nat} (hk : (A[k]?).map (fun e => (Region.binds .any e, e.on)) = some (true, j)) : L j = true := by
  obtain ⟨e, he, hp⟩ := Option.map_eq_some_iff.1 hk
  rw [Array.all_eq_true] at h
  obtain ⟨hlt, rfl⟩ := Array.getElem?_eq_some_iff.1 he
  have := h k hlt
  simp only [Prod.mk.injEq] at hp
  obtain ⟨h1, rfl⟩ := hp
  rw [h1] at this
  simpa using this

theorem wp_region_inv2 {id : Nat} {a : Act} {w : World} (hm : P.follows .mixedOrders = true) (hlow : lowB ops = true) (I : (Nat → Bool) → Act → World → Prop)
    (h0 : I (fun _ => false) a w.drew)
    (hstep : ∀ i o L a w, ops[i]? = some o → L i = false → o.after.all (fun e => !Region.binds .any e || L e.on) = true → ClosedL ops L → I L a w →
      if Region.wanted o (yielded ops a.tmps) = true then Oper.wp P o a w (fun a' w' => I (fun j => j == i || L j) a' w') Q else I (fun j => j == i || L j) (a.put o.dst undef) w)
    (hdone : ∀ L a w, (∀ i, i < ops.size → L i = true) → I L a w → Q .normal a w) : (Code.region id ops true).wp P Q a w := by
  refine wp_region_inv hm hlow (fun L a w => ClosedL ops L ∧ I L a w) ⟨fun j o _ h => by simp at h, h0⟩ ?_ (fun L a w h hI => hdone L a w h hI.2)
  intro i o L a w ho hL haft ⟨hc, hI⟩
  have hc' : ClosedL ops (fun j => j == i || L j) := by
    intro j oj hj hLj
    have key : oj.after.all (fun e => !Region.binds .any e || L e.on) = true := by
      simp only [Bool.or_eq_true, beq_iff_eq] at hLj
      rcases hLj with rfl | hLj
      · rw [ho] at hj
        obtain rfl := Option.some.inj hj
        exact haft
      · exact hc j oj hj hLj
    rw [Array.all_eq_true] at key ⊢
    intro x hx
    have := key x hx
    simp only [Bool.or_eq_true] at this ⊢
    rcases this with h | h
    · exact .inl h
    · exact .inr (.inr h)
  have hs := hstep i o L a w ho hL haft hc hI
  by_cases hw : Region.wanted o (yielded ops a.tmps) = true
  · rw [if_pos hw] at hs ⊢
    exact Oper.wp_mono (fun a' w' h => ⟨hc', h⟩) hs
  · rw [if_neg hw] at hs ⊢
    exact ⟨hc', hs⟩
end
end Go.Proofs.YtbfdaclekjgkfaaGreatDoor
