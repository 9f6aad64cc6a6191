/- Texts parted at a byte: the pieces that strings.Split answers, as a plain recursion, and what is said of them. No program in sight. -/
import Derived.Lib.SplitLaws
import Derived.Lib.IndexAny
namespace Go.Proofs.YthngjjeilcfhgaaGreatDoor
open Go Go.Lib

/-- A text parted at each byte c. -/
def partsAt (c : UInt8) : List UInt8 → List (List UInt8)
  | [] => [[]]
  | x :: xs => if x = c then [] :: partsAt c xs else match partsAt c xs with
    | [] => [[x]]
    | p :: ps => (x :: p) :: ps

theorem partsAt_ne (c : UInt8) : ∀ s, ∃ p ps, partsAt c s = p :: ps
  | [] => ⟨_, _, rfl⟩
  | x :: xs => by
    unfold partsAt
    split
    · exact ⟨_, _, rfl⟩
    · split
      · exact ⟨_, _, rfl⟩
      · exact ⟨_, _, rfl⟩
theorem partsAt_hit (c : UInt8) (xs : List UInt8) : partsAt c (c :: xs) = [] :: partsAt c xs := by simp [partsAt]
theorem partsAt_miss {c x : UInt8} (h : x ≠ c) {xs p : List UInt8} {ps : List (List UInt8)} (e : partsAt c xs = p :: ps) : partsAt c (x :: xs) = (x :: p) :: ps := by
  rw [partsAt, if_neg h, e]
theorem splitK_parts (c : UInt8) : ∀ s : List UInt8, splitK [c] 0 (count s [c]) s = partsAt c s
  | [] => by rw [count_miss (by simp [index])]; rfl
  | b :: l => by
    have ih := splitK_parts c l
    by_cases h : b = c
    · subst h
      have hix : index (b :: l) [b] = ((0 : Nat) : Int) := by rw [index]; simp [List.isPrefixOf]
      rw [count_cons_eq, Nat.add_comm, splitK, if_neg (by rw [hix]; decide), hix, partsAt_hit]
      simp only [Int.toNat_natCast, Nat.zero_add, List.take_zero, List.length_singleton, List.drop_succ_cons, List.drop_zero]
      rw [ih]
    · rw [count_cons_ne b c l h]
      have hp : ([c] : List UInt8).isPrefixOf (b :: l) = false := by simp [List.isPrefixOf, Ne.symm h]
      have hix : index (b :: l) [c] = if index l [c] == -1 then -1 else index l [c] + 1 := by rw [index, hp]; simp
      by_cases hm : index l [c] = -1
      · rw [count_miss hm] at ih ⊢
        exact (partsAt_miss h ih.symm).symm
      · have hge := index_ge l [c]
        obtain ⟨j, hj⟩ : ∃ j : Nat, index l [c] = j := ⟨(index l [c]).toNat, by omega⟩
        have hix' : index (b :: l) [c] = ((j + 1 : Nat) : Int) := by rw [hix, if_neg (fun e => hm (beq_iff_eq.1 e)), hj]; omega
        rw [count_hit (by simp) hj] at ih ⊢
        rw [Nat.add_comm 1] at ih ⊢
        rw [splitK, if_neg (by rw [hj]; intro e; have := beq_iff_eq.1 e; omega), hj] at ih
        rw [splitK, if_neg (by rw [hix']; intro e; have := beq_iff_eq.1 e; omega), hix']
        refine Eq.trans ?_ (partsAt_miss h ih.symm).symm
        simp only [Int.toNat_natCast, Nat.add_zero, List.length_singleton, List.take_succ_cons]
        congr 1

theorem splitB_parts (s : ByteArray) (c : UInt8) : (splitB ⟨#[c]⟩ 0 (countB s ⟨#[c]⟩) s).map (·.data.toList) = partsAt c s.data.toList := by
  rw [splitB_data]
  exact splitK_parts c s.data.toList

theorem partsAt_no (c : UInt8) : ∀ s : List UInt8, c ∉ s → partsAt c s = [s]
  | [], _ => rfl
  | x :: xs, h => by
    have ih := partsAt_no c xs (fun hm => h (List.mem_cons_of_mem _ hm))
    exact partsAt_miss (fun (e : x = c) => h (by rw [e]; exact List.mem_cons_self)) ih
theorem partsAt_app (c : UInt8) (r : List UInt8) : ∀ s : List UInt8, c ∉ s → partsAt c (s ++ c :: r) = s :: partsAt c r
  | [], _ => by simp [partsAt]
  | x :: xs, h => by
    have ih := partsAt_app c r xs (fun hm => h (List.mem_cons_of_mem _ hm))
    rw [List.cons_append]
    exact partsAt_miss (fun (e : x = c) => h (by rw [e]; exact List.mem_cons_self)) ih
theorem partsAt_mem (c : UInt8) : ∀ (s : List UInt8), ∀ p ∈ partsAt c s, c ∉ p ∧ p.length ≤ s.length
  | [], p, h => by
    simp only [partsAt, List.mem_singleton] at h
    subst h
    exact ⟨by simp, by simp⟩
  | x :: xs, p, h => by
    have ih := partsAt_mem c xs
    by_cases hx : x = c
    · subst hx
      rw [partsAt_hit] at h
      rcases List.mem_cons.1 h with h | h
      · subst h; exact ⟨by simp, by simp⟩
      · obtain ⟨h1, h2⟩ := ih p h
        exact ⟨h1, by simp only [List.length_cons]; omega⟩
    · obtain ⟨q, qs, e⟩ := partsAt_ne c xs
      rw [partsAt_miss hx e] at h
      rw [e] at ih
      rcases List.mem_cons.1 h with h | h
      · subst h
        obtain ⟨h1, h2⟩ := ih q List.mem_cons_self
        refine ⟨fun hm => ?_, by simp only [List.length_cons]; omega⟩
        rcases List.mem_cons.1 hm with hm | hm
        · exact hx hm.symm
        · exact h1 hm
      · obtain ⟨h1, h2⟩ := ih p (List.mem_cons_of_mem _ h)
        exact ⟨h1, by simp only [List.length_cons]; omega⟩
theorem partsAt_length (c : UInt8) : ∀ s : List UInt8, (partsAt c s).length ≤ s.length + 1
  | [] => by simp [partsAt]
  | x :: xs => by
    have ih := partsAt_length c xs
    by_cases hx : x = c
    · subst hx
      rw [partsAt_hit]
      simp only [List.length_cons]
      omega
    · obtain ⟨q, qs, e⟩ := partsAt_ne c xs
      rw [partsAt_miss hx e]
      rw [e] at ih
      simp only [List.length_cons] at ih ⊢
      omega

/-- The pieces as strings. -/
def splitS (s : ByteArray) (c : UInt8) : List ByteArray := splitB ⟨#[c]⟩ 0 (countB s ⟨#[c]⟩) s
theorem splitS_data (s : ByteArray) (c : UInt8) : (splitS s c).map (·.data.toList) = partsAt c s.data.toList := splitB_parts s c
theorem ba_of {a : ByteArray} {l : List UInt8} (h : a.data.toList = l) : a = ⟨l.toArray⟩ := by
  subst h
  rfl
theorem splitS_is (s : ByteArray) (c : UInt8) : splitS s c = (partsAt c s.data.toList).map fun l => (⟨l.toArray⟩ : ByteArray) := by
  rw [← splitS_data, List.map_map]
  conv => lhs; rw [← List.map_id (splitS s c)]
  rfl
theorem splitS_length (s : ByteArray) (c : UInt8) : (splitS s c).length = countB s ⟨#[c]⟩ + 1 := splitB_all ⟨#[c]⟩ (Nat.le_refl 1) 0 _ s rfl
end Go.Proofs.YthngjjeilcfhgaaGreatDoor
