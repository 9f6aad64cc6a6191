/- A class's name, by the program: the list of names is made once, by strings.Fields. Condition: the table strings.asciiSpace stands as it was laid. -/
import Derived.Test.YthngjjeilcfhgaaGreatDoorOnce
import Derived.Lib.Hide
namespace Go.Proofs.YthngjjeilcfhgaaGreatDoor
open Go.RowKit

def LaidT (w : World) : Prop := Lib.TabIs Tryz.prog w "strings.asciiSpace" .u8 Lib.asciiSpaceTab
theorem LaidT.below {w w' : World} {B : Nat} (h : LaidT w) (hB : B = w.heap.size) (hb : Below B w w') : LaidT w' := by
  have hg : Tryz.prog.globalNamed "strings.asciiSpace" = some 0 := by kernel_rfl
  refine var?_below hb hg ?_ h
  have h' : w.var? Tryz.prog "strings.asciiSpace" = some _ := h
  unfold World.var? at h'
  simp only [hg, Option.bind_some] at h'
  rw [hB]
  by_cases hl : 0 < w.heap.size
  · exact hl
  · rw [Array.getElem?_eq_none (by omega)] at h'
    cases h'

/-- What the walks ask of the library's variables: the table of blanks as it was laid, and a number in bytealg.MaxLen. -/
def MaxL (w : World) : Prop := ∃ m, w.cell? ⟨1, 0, none⟩ = some (.int .i64 m)
theorem MaxL.below {w w' : World} {B : Nat} (h : MaxL w) (hB : B = w.heap.size) (hb : Below B w w') : MaxL w' := by
  obtain ⟨m, hm⟩ := h
  exact ⟨m, (hb.cell (p := ⟨1, 0, none⟩) (by rw [hB]; exact World.block_lt_of_cell? w _ hm)).trans hm⟩
def Laid (w : World) : Prop := LaidT w ∧ MaxL w
theorem Laid.below {w w' : World} {B : Nat} (h : Laid w) (hB : B = w.heap.size) (hb : Below B w w') : Laid w' := ⟨h.1.below hB hb, h.2.below hB hb⟩

theorem info_str : (Tryz.prog.info? 9).map (fun i => (i.zero, i.size, i.bytes)) = some (some (.string ByteArray.empty), 1, 16) := by kernel_rfl

def nameText : ByteArray := ⟨#[97, 110, 121, 32, 114, 101, 97, 100, 32, 119, 114, 105, 116, 101, 32, 97, 100, 109, 105, 110]⟩
def nameVals : List Value := (Lib.fields nameText.data.toList).map fun x => Value.string ⟨x.toArray⟩
theorem nameVals_length : nameVals.length = 4 := by decide +kernel
theorem nameFields_length : (Lib.fields nameText.data.toList).length = 4 := by decide +kernel
theorem nameVals_ne : nameVals ≠ [] := fun h => by have := nameVals_length; rw [h] at this; cases this
theorem nameText_ascii : ∀ (j : Nat) b, nameText.data.toList[j]? = some b → b.toNat < 128 := by
  intro j b h
  exact (by decide +kernel : ∀ x ∈ nameText.data.toList, x.toNat < 128) b (List.mem_of_getElem? h)
theorem nameVals_one : ∀ u ∈ nameVals, u.oneCell' = true := by
  intro u hu
  simp only [nameVals, List.mem_map] at hu
  obtain ⟨x, _, rfl⟩ := hu
  rfl

theorem fields_names (w : World) (hL : LaidT w) :
    Calls Tryz.prog 78 #[.string nameText] w fun e w' => e = .returned (.slice (some ⟨w.heap.size, 0, none⟩) 4 4) ∧ w' = w.alloc (.cells nameVals.toArray 9) := by
  have h := Tryz.strings_Fields nameText w (by decide) nameText_ascii hL
  rw [nameFields_length] at h
  exact h

/-- What the closure leaves: the names in a row of the call's own, told in cell 3 of block b. -/
def MadeR (b : Nat) (w W' : World) : Prop :=
  ∃ v W2, Below w.heap.size w W2 ∧ W2.ownsRow w.heap.size 9 1 v 4 nameVals ∧ W' = W2.setCell ⟨b, 3, none⟩ v

theorem madeR_end {b : Nat} {w w' : World} {B : Nat} {v : Value} {n : Nat} {xs : List Value} (hb : Below w.heap.size w w') (ho : w'.ownsRow B 9 1 v n xs) (hB : w.heap.size ≤ B) (hn : n = 4) (hx : xs = nameVals) :
    MadeR b w (w'.setCell ⟨b, 3, none⟩ v) := by
  subst hn hx
  refine ⟨v, w', hb, ?_, rfl⟩
  obtain ⟨h1, h2⟩ := ho
  refine ⟨h1, ?_⟩
  rcases h2 with h2 | ⟨g, cap, cs, e1, e2, e3⟩
  · exact .inl h2
  · exact .inr ⟨g, cap, cs, e1, by omega, e3⟩

theorem made_end (b : Nat) (w : World) (hb : b < w.heap.size) : MadeR b w ((w.setCell ⟨b, 3, none⟩ (.slice (some ⟨w.heap.size, 0, none⟩) 4 4)).alloc (.cells nameVals.toArray 9)).drew := by
  have h := World.ownsRow_lit (base := w.heap.size) (e := 9) (size := 1) w nameVals.toArray 4 (Nat.le_refl _) (by unfold maxLen; decide) (by simp [nameVals_length])
  refine ⟨.slice (some ⟨w.heap.size, 0, none⟩) 4 4, (w.alloc (.cells nameVals.toArray 9)).drew, ((Below.refl _ w).alloc (Nat.le_refl _) _).drew, ?_, ?_⟩
  · exact ⟨h.1, h.2⟩
  · have hs : ∀ o : Obj, (w.setCell ⟨b, 3, none⟩ (.slice (some ⟨w.heap.size, 0, none⟩) 4 4)).alloc o = (w.alloc o).setCell ⟨b, 3, none⟩ (.slice (some ⟨w.heap.size, 0, none⟩) 4 4) := by
      intro o
      go_simp
    rw [hs]
    rfl
theorem news_at {W : World} {A : Nat} {xs : List Value} (h : ∀ j, W.cell? ⟨A, j, none⟩ = xs[j]?) : ∀ j u, xs[j]? = some u → W.cell? ((⟨A, 0, none⟩ : Addr).add j) = some u := by
  intro j u hj
  rw [show ((⟨A, 0, none⟩ : Addr).add j) = ⟨A, j, none⟩ from by simp [Addr.add]; omega, h, hj]
theorem olds_at {W : World} {A : Nat} {xs : List Value} (h : ∀ j, W.cell? ⟨A, j, none⟩ = xs[j]?) : ∀ b, some (⟨A, 0, none⟩ : Addr) = some b → ∀ j u, xs[j]? = some u → W.cell? (b.add j) = some u := by
  intro b hb
  cases hb
  exact news_at h

theorem own_form {w : World} {base e : Nat} {v : Value} {n : Nat} {xs : List Value} (h : w.ownsRow base e 1 v n xs) (hn : xs ≠ []) : ∃ g cap, v = .slice (some ⟨g, 0, none⟩) n cap := by
  obtain ⟨h1, h2⟩ := h
  rcases h2 with ⟨_, h2⟩ | ⟨g, cap, cs, e1, _⟩
  · subst h2
    exact absurd (List.eq_nil_of_length_eq_zero (by simpa using h1)) hn
  · exact ⟨g, cap, e1⟩

set_option maxRecDepth 100000 in
set_option maxHeartbeats 800000 in
theorem made_fn (b pl : Nat) (w : World) (old : Value) (hp : w.cell? ⟨pl, 0, none⟩ = some (.pointer (some ⟨b, 0, none⟩)))
    (h3 : w.cell? ⟨b, 3, none⟩ = some old) (f3 : w.frozen? ⟨b, 3, none⟩ = false) (hb : b < w.heap.size) (hpl : pl < w.heap.size) (hL : LaidT w) :
    Calls Tryz.prog 77 #[.pointer (some ⟨pl, 0, none⟩)] w fun e W' => e = .returned (.tuple #[]) ∧ MadeR b w W' := by
  obtain ⟨i0, hi, hz0, hz1, hz2⟩ := info_parts info_str
  have hT : Hid (∀ W, Below w.heap.size w W → LaidT W) := Lib.hid fun W hb => hL.below rfl hb
  have hC : Hid (∀ W, Below w.heap.size w W → W.cell? ⟨b, 3, none⟩ = some old) := Lib.hid fun W hB => by rw [hB.cell (p := ⟨b, 3, none⟩) hb]; exact h3
  have hF : Hid (∀ W, Below w.heap.size w W → W.frozen? ⟨b, 3, none⟩ = false) := Lib.hid fun W hB => by rw [hB.frozen (p := ⟨b, 3, none⟩) hb]; exact f3
  have hP : Hid (∀ W, Below w.heap.size w W → W.cell? ⟨pl, 0, none⟩ = some (.pointer (some ⟨b, 0, none⟩))) := Lib.hid fun W hB => by rw [hB.cell (p := ⟨pl, 0, none⟩) hpl]; exact hp
  go_enter Tryz.func77, Tryz.ntmps77
  go_wp2
  go_region_law (go_simp; go_at_call 78; refine (fields_names _ (hT.out _ (by repeat' (first | exact Below.refl _ _ | refine Below.drew ?_ | refine Below.alloc ?_ (by simp) _)))).mono ?_; rintro e w' ⟨rfl, rfl⟩)
  all_goals (go_end0; exact ⟨rfl, made_end b w hb⟩)

theorem ownsRow_block {w w' : World} {base base' e : Nat} {v : Value} {n : Nat} {xs : List Value} (h : w.ownsRow base e 1 v n xs) (hb : base' ≤ base) (hk : ∀ g, base ≤ g → w'.heap[g]? = w.heap[g]?) : w'.ownsRow base' e 1 v n xs := by
  obtain ⟨h1, h2⟩ := h
  refine ⟨h1, ?_⟩
  rcases h2 with h2 | ⟨g, cap, cs, e1, e2, e3, rest⟩
  · exact .inl h2
  · exact .inr ⟨g, cap, cs, e1, by omega, by rw [hk g e2]; exact e3, rest⟩

/-- What a Once's slow road leaves behind the function's own world. -/
def onceEnd (W : World) (b : Nat) : World := (W.drew.setCell ⟨b, 0, none⟩ (.int .u32 1)).setCell ⟨b, 1, none⟩ (.int .i32 0)
theorem onceEnd_block (W : World) (b k : Nat) (h : k ≠ b) : (onceEnd W b).heap[k]? = W.heap[k]? := by
  unfold onceEnd
  rw [Below.heap_setCell _ _ _ _ h, Below.heap_setCell _ _ _ _ h]
  rfl
theorem onceEnd_cell (W : World) (b o : Nat) (h0 : o ≠ 0) (h1 : o ≠ 1) : (onceEnd W b).cell? ⟨b, o, none⟩ = W.cell? ⟨b, o, none⟩ := by
  unfold onceEnd
  rw [World.cell?_setCell_other _ _ _ _ (fun h => by injection h; omega), World.cell?_setCell_other _ _ _ _ (fun h => by injection h; omega), World.cell?_drew]
theorem onceEnd_below (W : World) (b : Nat) : Below b W (onceEnd W b) :=
  (((Below.refl b W).drew).setCell (Nat.le_refl _) _).setCell (Nat.le_refl _) _

/-- What 'made' leaves: nothing below the object has changed; the row of names. -/
def MadeE (b : Nat) (w : World) (v : Value) (w' : World) : Prop := Below b w w' ∧ w'.ownsRow w.heap.size 9 1 v 4 nameVals ∧ ∀ k, k < w.heap.size → k ≠ b → w'.heap[k]? = w.heap[k]?

set_option maxRecDepth 100000 in
set_option maxHeartbeats 800000 in
/-- The row of names, by 'made' of an object that was not asked before. -/
theorem made_any (b : Nat) (w : World) (hblk : w.heap[b]? = some (.cells #[.int .u32 0, .int .i32 0, .int .u32 0, .slice none 0 0] 90 (0, 0))) (hL : LaidT w) :
    Calls Tryz.prog 52 #[.pointer (some ⟨b, 0, none⟩)] w fun e w' => ∃ g cap, e = .returned (.slice (some ⟨g, 0, none⟩) 4 cap) ∧ MadeE b w (.slice (some ⟨g, 0, none⟩) 4 cap) w' := by
  have hmf : ∀ (fn : Fn) (first cap : Array Value) (w : World), (Instr.makeFunc fn first cap).run Tryz.prog w = .ok (.func fn first cap) w := fun _ _ _ _ => rfl
  have hb : b < w.heap.size := by
    by_cases h : b < w.heap.size
    · exact h
    · rw [Array.getElem?_eq_none (by omega)] at hblk
      cases hblk
  obtain ⟨W0, hW0⟩ : ∃ W0, W0 = w.alloc (.cells #[.pointer (some ⟨b, 0, none⟩)] 126) := ⟨_, rfl⟩
  have z0 : W0.heap.size = w.heap.size + 1 := by rw [hW0]; simp
  have blk0 : W0.heap[b]? = some (.cells #[.int .u32 0, .int .i32 0, .int .u32 0, .slice none 0 0] 90 (0, 0)) := by rw [hW0, Below.heap_alloc _ _ _ hb]; exact hblk
  have c0 : W0.cell? ⟨b, 0, none⟩ = some (.int .u32 0) := by simp [World.cell?, blk0]
  have c1 : W0.cell? ⟨b, 0 + 1, none⟩ = some (.int .i32 0) := by simp [World.cell?, blk0]
  have c3 : W0.cell? ⟨b, 3, none⟩ = some (.slice none 0 0) := by simp [World.cell?, blk0]
  have fz : ∀ o, W0.frozen? ⟨b, o, none⟩ = false := fun o => by simp [World.frozen?, blk0]
  have cp : W0.cell? ⟨w.heap.size, 0, none⟩ = some (.pointer (some ⟨b, 0, none⟩)) := by rw [hW0]; simp
  obtain ⟨W1, hW1⟩ : ∃ W1, W1 = W0.setCell ⟨b, 0 + 1, none⟩ (.int .i32 1) := ⟨_, rfl⟩
  have z1 : W1.heap.size = w.heap.size + 1 := by rw [hW1]; simp [z0]
  have B1 : Below b w W1 := by rw [hW1, hW0]; exact ((Below.refl b w).alloc (by omega) _).setCell (Nat.le_refl _) _
  have L1 : LaidT W1 := by
    have : Below W0.heap.size W0 W0 := Below.refl _ _
    have l0 : LaidT W0 := hL.below rfl (by rw [hW0]; exact (Below.refl _ w).alloc (Nat.le_refl _) _)
    have hg : Tryz.prog.globalNamed "strings.asciiSpace" = some 0 := by kernel_rfl
    have hne : 0 ≠ b := by
      intro h
      have l' : W0.var? Tryz.prog "strings.asciiSpace" = some _ := l0
      unfold World.var? at l'
      simp only [hg, Option.bind_some] at l'
      rw [h, blk0] at l'
      have := congrArg (fun o => o.map Array.size) l'
      simp [Lib.asciiSpaceTab_length] at this
    have l' : W0.var? Tryz.prog "strings.asciiSpace" = some _ := l0
    show W1.var? Tryz.prog "strings.asciiSpace" = some _
    unfold World.var? at l' ⊢
    simp only [hg, Option.bind_some] at l' ⊢
    rw [hW1, Below.heap_setCell _ _ _ _ hne]
    exact l'
  have hdo := once_first 77 b 0 #[.pointer (some ⟨w.heap.size, 0, none⟩)] W0 (MadeR b W1) c0 c1 (fz _)
    (by
      rw [← hW1]
      refine made_fn b w.heap.size W1 (.slice none 0 0) ?_ ?_ ?_ (by omega) (by omega) L1
      · rw [hW1, World.cell?_setCell_other _ _ _ _ (fun h => by injection h; omega)]; exact cp
      · rw [hW1, World.cell?_setCell_other _ _ _ _ (by simp)]; exact c3
      · rw [hW1]; simpa using fz 3)
    (by
      rintro W' ⟨v, W2, hB, ho, rfl⟩
      have e0 : W2.cell? ⟨b, 0, none⟩ = some (.int .u32 0) := by
        rw [hB.cell (p := ⟨b, 0, none⟩) (by simp; omega), hW1, World.cell?_setCell_other _ _ _ _ (by simp)]; exact c0
      have e1 : W2.cell? ⟨b, 0 + 1, none⟩ = some (.int .i32 1) := by
        rw [hB.cell (p := ⟨b, 0 + 1, none⟩) (by simp; omega), hW1]; exact World.cell?_setCell_same _ _ _ c1
      have e2 : ∀ o, W2.frozen? ⟨b, o, none⟩ = false := fun o => by
        rw [hB.frozen (p := ⟨b, o, none⟩) (by simp; omega), hW1]; simpa using fz o
      refine ⟨?_, ?_, by simpa using e2 0, by simpa using e2 (0 + 1)⟩
      · rw [World.cell?_setCell_other _ _ _ _ (by simp)]; exact e0
      · rw [World.cell?_setCell_other _ _ _ _ (by simp)]; exact e1)
    (enters_of Tryz.func77 (by kernel_rfl) rfl)
  have hfin : ∀ W', MadeR b W1 W' → ∃ v, (onceEnd W' b).cell? ⟨b, 3, none⟩ = some v ∧ v.oneCell' = true ∧ (onceEnd W' b).cell? ⟨w.heap.size, 0, none⟩ = some (.pointer (some ⟨b, 0, none⟩)) ∧ Below b w (onceEnd W' b) ∧ ((onceEnd W' b).ownsRow w.heap.size 9 1 v 4 nameVals ∧ ∀ k, k < w.heap.size → k ≠ b → (onceEnd W' b).heap[k]? = w.heap[k]?) := by
    rintro W' ⟨v, W2, hB, ho, rfl⟩
    refine ⟨v, ?_, ?_, ?_, ?_, ?_⟩
    · rw [onceEnd_cell _ _ _ (by omega) (by omega)]
      refine World.cell?_setCell_same (u := .slice none 0 0) _ _ _ ?_
      rw [hB.cell (p := ⟨b, 3, none⟩) (by simp; omega), hW1, World.cell?_setCell_other _ _ _ _ (by simp)]; exact c3
    · obtain ⟨g, cap, rfl⟩ := own_form ho nameVals_ne
      rfl
    · have : (onceEnd (W2.setCell ⟨b, 3, none⟩ v) b).cell? ⟨w.heap.size, 0, none⟩ = W2.cell? ⟨w.heap.size, 0, none⟩ :=
        World.cell?_of_block (by rw [onceEnd_block _ _ _ (by simp; omega), Below.heap_setCell _ _ _ _ (by simp; omega)])
      rw [this, hB.cell (p := ⟨w.heap.size, 0, none⟩) (by simp; omega), hW1, World.cell?_setCell_other _ _ _ _ (fun h => by injection h; omega)]
      exact cp
    · exact (B1.trans ((hB.mono (show b ≤ W1.heap.size by omega)).setCell (p := ⟨b, 3, none⟩) (Nat.le_refl b) _)).trans (onceEnd_below _ _)
    · refine ⟨ownsRow_block ho (by omega) fun g hg => ?_, fun k hk hne => ?_⟩
      · rw [onceEnd_block _ _ _ (by omega), Below.heap_setCell _ _ _ _ (by simp; omega)]
      · rw [onceEnd_block _ _ _ hne, Below.heap_setCell _ _ _ _ hne, hB.block k (by omega), hW1, Below.heap_setCell _ _ _ _ hne, hW0, Below.heap_alloc _ _ _ hk]
  have hd2 : Calls Tryz.prog 76 #[.pointer (some ⟨b, 0, none⟩), .func (.func 77) #[] #[.pointer (some ⟨w.heap.size, 0, none⟩)]] W0 fun e w' => e = .returned (.tuple #[]) ∧ ∃ g cap, w'.cell? ⟨b, 3, none⟩ = some (.slice (some ⟨g, 0, none⟩) 4 cap) ∧ w'.cell? ⟨w.heap.size, 0, none⟩ = some (.pointer (some ⟨b, 0, none⟩)) ∧ MadeE b w (.slice (some ⟨g, 0, none⟩) 4 cap) w' := by
    refine hdo.mono ?_
    rintro e w' ⟨he, W', hr, hw⟩
    obtain ⟨v, f1, f2, f3, f4, f5⟩ := hfin _ hr
    obtain rfl : w' = onceEnd W' b := hw
    obtain ⟨g, cap, rfl⟩ := own_form f5.1 nameVals_ne
    exact ⟨he, g, cap, f1, f3, f4, f5⟩
  clear hfin hdo
  clear B1 L1 hW1 z1 blk0 c0 c1 c3 fz cp z0 hL hblk
  subst hW0
  go_enter Tryz.func52, Tryz.ntmps52
  go_wp2_with (go_at_call 76; refine hd2.mono ?_; rintro e w' ⟨rfl, g, cap, f1, f2, f3⟩; have F := Lib.hid f3; clear f3)
  go_ret
  exact ⟨g, cap, rfl, F.out⟩

/-- An operation's name. -/
def nameOf (op : Int) : ByteArray := ((Lib.fields nameText.data.toList).map fun x => (⟨x.toArray⟩ : ByteArray)).getD op.toNat ByteArray.empty
theorem nameVals_at (i : Nat) (hi : i < 4) : nameVals[i]? = some (.string (nameOf i)) := by
  have h : ∀ j : Nat, j < 4 → nameVals[j]? = some (.string (((Lib.fields nameText.data.toList).map fun x => (⟨x.toArray⟩ : ByteArray)).getD j ByteArray.empty)) := by
    intro j hj
    have e : nameVals = ((Lib.fields nameText.data.toList).map fun x => (⟨x.toArray⟩ : ByteArray)).map Value.string := by
      simp [nameVals]
    have hl : ((Lib.fields nameText.data.toList).map fun x => (⟨x.toArray⟩ : ByteArray)).length = 4 := by
      simp [nameFields_length]
    rw [e, List.getElem?_map, List.getD_eq_getElem?_getD, List.getElem?_eq_getElem (by omega)]
    rfl
  exact h i hi

/-- The names as the program tells them. -/
def acl_class.f (op : Int) : Option ByteArray := some (if 0 ≤ op ∧ op < 4 then nameOf op else ⟨#[]⟩)

set_option maxRecDepth 100000 in
set_option maxHeartbeats 800000 in
theorem acl_class.calls (op : Int) (r : ByteArray) (w : World) (h : acl_class.f op = some r) (hLd : Laid w) :
    Calls Tryz.prog 72 #[.int .i64 op] w fun e w' => e = .returned (.string r) ∧ Below w.heap.size w w' := by
  have hL := hLd.1
  clear hLd
  have hm : Hid (∀ W, W = w.alloc (.cells #[.int .u32 0, .int .i32 0, .int .u32 0, .slice none 0 0] 90) → Calls Tryz.prog 52 #[.pointer (some ⟨w.heap.size, 0, none⟩)] W fun e w' => ∃ g cap, e = .returned (.slice (some ⟨g, 0, none⟩) 4 cap) ∧ MadeE w.heap.size W (.slice (some ⟨g, 0, none⟩) 4 cap) w') := by
    refine Lib.hid fun W hW => made_any w.heap.size W (by rw [hW]; exact heap_alloc_new w _) (hL.below rfl (by rw [hW]; exact (Below.refl _ w).alloc (Nat.le_refl _) _))
  unfold acl_class.f at h
  have hr := Option.some.inj h
  clear h
  by_cases hop : 0 ≤ op ∧ op < 4
  · rw [if_pos hop] at hr
    obtain ⟨h0, h1⟩ := hop
    obtain ⟨n, rfl⟩ := Int.eq_ofNat_of_zero_le (show 0 ≤ op by omega)
    have hn := nameVals_at n (by omega)
    rw [hr] at hn
    have HN := Lib.hid hn
    clear hn hr
    go_enter Tryz.func72, Tryz.ntmps72
    go_wp2_with (go_at_call 52; refine (hm.out _ rfl).mono ?_; rintro e w' ⟨g, cap, rfl, f⟩; have F := Lib.hid f; clear f; have hc := (F.out.2.1.cellAt n (by omega)).trans HN.out)
    go_ret
    exact ⟨rfl, ((Below.refl _ w).alloc (Nat.le_refl _) _).trans F.out.1⟩
  · rw [if_neg hop] at hr
    have HR := Lib.hid hr
    clear hr
    by_cases h0 : 0 ≤ op
    · have h1 : 4 ≤ op := by omega
      clear hop
      go_enter Tryz.func72, Tryz.ntmps72
      go_wp2_with (go_at_call 52; refine (hm.out _ rfl).mono ?_; rintro e w' ⟨g, cap, rfl, f⟩; have F := Lib.hid f; clear f)
      go_ret
      exact ⟨by rw [← HR.out]; rfl, ((Below.refl _ w).alloc (Nat.le_refl _) _).trans F.out.1⟩
    · have h1 : op < 0 := by omega
      clear hop
      go_enter Tryz.func72, Tryz.ntmps72
      go_wp2_with (go_at_call 52; refine (hm.out _ rfl).mono ?_; rintro e w' ⟨g, cap, rfl, f⟩; have F := Lib.hid f; clear f)
      go_ret
      exact ⟨by rw [← HR.out]; rfl, ((Below.refl _ w).alloc (Nat.le_refl _) _).trans F.out.1⟩
end Go.Proofs.YthngjjeilcfhgaaGreatDoor
