/- An operation's name, by the program: the list of names is made once, by strings.Fields. Condition: the table strings.asciiSpace stands as it was laid. -/
import Derived.Test.YtbfdaclekjgkfaaGreatDoorOnce
namespace Go.Proofs.YtbfdaclekjgkfaaGreatDoor
open Go.RowKit

def Laid (w : World) : Prop := Lib.TabIs Tryz.prog w "strings.asciiSpace" .u8 Lib.asciiSpaceTab
theorem Laid.below {w w' : World} {B : Nat} (h : Laid w) (hB : B = w.heap.size) (hb : Below B w w') : Laid w' := by
  have hg : Tryz.prog.globalNamed "strings.asciiSpace" = some 0 := by kernel_rfl
  refine var?_below hb hg ?_ h
  have h' : w.var? Tryz.prog "strings.asciiSpace" = some _ := h
  unfold World.var? at h'
  simp only [hg, Option.bind_some] at h'
  rw [hB]
  by_cases hl : 0 < w.heap.size
  · exact hl
  · rw [Array.getElem?_eq_none (by omega)] at h'
    cases h'

theorem info_str : (Tryz.prog.info? 9).map (fun i => (i.zero, i.size, i.bytes)) = some (some (.string ByteArray.empty), 1, 16) := by kernel_rfl

def nameText : ByteArray := ⟨#[103, 101, 116, 32, 115, 101, 116, 32, 97, 100, 100, 32, 114, 101, 112, 108, 97, 99, 101, 32, 100, 101, 108, 32, 99, 97, 115, 32, 105, 110, 99, 114, 32, 97, 112, 112, 101, 110, 100, 32, 116, 111, 117, 99, 104, 32, 116, 116, 108, 32, 115, 99, 97, 110, 32, 102, 108, 117, 115, 104, 32, 115, 116, 97, 116, 115]⟩
def nameVals : List Value := (Lib.fields nameText.data.toList).map fun x => Value.string ⟨x.toArray⟩
theorem nameVals_length : nameVals.length = 13 := by decide +kernel
theorem nameFields_length : (Lib.fields nameText.data.toList).length = 13 := by decide +kernel
theorem nameText_ascii : ∀ (j : Nat) b, nameText.data.toList[j]? = some b → b.toNat < 128 := by
  intro j b h
  exact (by decide +kernel : ∀ x ∈ nameText.data.toList, x.toNat < 128) b (List.mem_of_getElem? h)
theorem nameVals_one : ∀ u ∈ nameVals, u.oneCell' = true := by
  intro u hu
  simp only [nameVals, List.mem_map] at hu
  obtain ⟨x, _, rfl⟩ := hu
  rfl

theorem fields_names (w : World) (hL : Laid w) :
    Calls Tryz.prog 81 #[.string nameText] w fun e w' => e = .returned (.slice (some ⟨w.heap.size, 0, none⟩) 13 13) ∧ w' = w.alloc (.cells nameVals.toArray 9) := by
  have h := Tryz.strings_Fields nameText w (by decide) nameText_ascii hL
  rw [nameFields_length] at h
  exact h

/-- What the closure leaves: the names in a row of the call's own, told in cell 3 of block b. -/
def MadeR (b : Nat) (w W' : World) : Prop :=
  ∃ v W2, Below w.heap.size w W2 ∧ W2.ownsRow w.heap.size 9 1 v 14 (.string ⟨#[]⟩ :: nameVals) ∧ W' = W2.setCell ⟨b, 3, none⟩ v

theorem madeR_end {b : Nat} {w w' : World} {B : Nat} {v : Value} {n : Nat} {xs : List Value} (hb : Below w.heap.size w w') (ho : w'.ownsRow B 9 1 v n xs) (hB : w.heap.size ≤ B) (hn : n = 14) (hx : xs = .string ⟨#[]⟩ :: nameVals) :
    MadeR b w (w'.setCell ⟨b, 3, none⟩ v) := by
  subst hn hx
  refine ⟨v, w', hb, ?_, rfl⟩
  obtain ⟨h1, h2⟩ := ho
  refine ⟨h1, ?_⟩
  rcases h2 with h2 | ⟨g, cap, cs, e1, e2, e3⟩
  · exact .inl h2
  · exact .inr ⟨g, cap, cs, e1, by omega, e3⟩

theorem news_at {W : World} {A : Nat} {xs : List Value} (h : ∀ j, W.cell? ⟨A, j, none⟩ = xs[j]?) : ∀ j u, xs[j]? = some u → W.cell? ((⟨A, 0, none⟩ : Addr).add j) = some u := by
  intro j u hj
  rw [show ((⟨A, 0, none⟩ : Addr).add j) = ⟨A, j, none⟩ from by simp [Addr.add]; omega, h, hj]
theorem olds_at {W : World} {A : Nat} {xs : List Value} (h : ∀ j, W.cell? ⟨A, j, none⟩ = xs[j]?) : ∀ b, some (⟨A, 0, none⟩ : Addr) = some b → ∀ j u, xs[j]? = some u → W.cell? (b.add j) = some u := by
  intro b hb
  cases hb
  exact news_at h

theorem own_form {w : World} {base e : Nat} {v : Value} {n : Nat} {xs : List Value} (h : w.ownsRow base e 1 v n xs) (hn : xs ≠ []) : ∃ g cap, v = .slice (some ⟨g, 0, none⟩) n cap := by
  obtain ⟨h1, h2⟩ := h
  rcases h2 with ⟨_, h2⟩ | ⟨g, cap, cs, e1, _⟩
  · subst h2
    exact absurd (List.eq_nil_of_length_eq_zero (by simpa using h1)) hn
  · exact ⟨g, cap, e1⟩

set_option maxRecDepth 100000 in
set_option maxHeartbeats 800000 in
theorem made_fn (b pl : Nat) (w : World) (old : Value) (hp : w.cell? ⟨pl, 0, none⟩ = some (.pointer (some ⟨b, 0, none⟩)))
    (h3 : w.cell? ⟨b, 3, none⟩ = some old) (f3 : w.frozen? ⟨b, 3, none⟩ = false) (hb : b < w.heap.size) (hpl : pl < w.heap.size) (hL : Laid w) :
    Calls Tryz.prog 80 #[.pointer (some ⟨pl, 0, none⟩)] w fun e W' => e = .returned (.tuple #[]) ∧ MadeR b w W' := by
  obtain ⟨i0, hi, hz0, hz1, hz2⟩ := info_parts info_str
  have hT : Hid (∀ W, Below w.heap.size w W → Laid W) := Lib.hid fun W hb => hL.below rfl hb
  have hC : Hid (∀ W, Below w.heap.size w W → W.cell? ⟨b, 3, none⟩ = some old) := Lib.hid fun W hB => by rw [hB.cell (p := ⟨b, 3, none⟩) hb]; exact h3
  have hF : Hid (∀ W, Below w.heap.size w W → W.frozen? ⟨b, 3, none⟩ = false) := Lib.hid fun W hB => by rw [hB.frozen (p := ⟨b, 3, none⟩) hb]; exact f3
  have hP : Hid (∀ W, Below w.heap.size w W → W.cell? ⟨pl, 0, none⟩ = some (.pointer (some ⟨b, 0, none⟩))) := Lib.hid fun W hB => by rw [hB.cell (p := ⟨pl, 0, none⟩) hpl]; exact hp
  clear h3 f3
  go_enter Tryz.func80, Tryz.ntmps80
  go_wp2
  go_region_law (first | (refine step_append_grows rfl (.tmp 2) (.tmp 3) 23 rfl 9 i0 _ 1 16 Tryz.underlying23 hi hz0 hz1 hz2 rfl (by decide) _ 1 1 [.string ⟨#[]⟩] rfl (by simp) rfl (olds_at (by intro j; simp)) _ 13 13 nameVals rfl (by rw [nameVals_length]) (news_at (by intro j; simp)) nameVals_one (by omega) (by unfold maxLen; omega) (by omega) ?_; intro v' w' hown hgrow; have hB := Below.grown (B := w.heap.size) (a := w) (by repeat' (first | exact Below.refl _ _ | refine Below.drew ?_ | refine Below.alloc ?_ (by first | exact Nat.le_refl _ | (simp; done) | (simp; omega)) _)) hgrow (by first | (simp; done) | (simp; omega)) (by simp); obtain ⟨g, cap, rfl⟩ := own_form hown (by simp); have h3' := hC.out _ hB; have hp' := hP.out _ hB; have f3' := hF.out _ hB; have HR := madeR_end (b := b) hB hown (by simp; try omega) rfl rfl; have HH := Lib.hid HR; clear HR) | (go_simp; go_at_call 81; refine (fields_names _ (hT.out _ (by repeat' (first | exact Below.refl _ _ | refine Below.drew ?_ | refine Below.alloc ?_ (by simp) _)))).mono ?_; rintro e w' ⟨rfl, rfl⟩))
  all_goals (go_end0; exact ⟨rfl, HH.out⟩)

theorem ownsRow_block {w w' : World} {base base' e : Nat} {v : Value} {n : Nat} {xs : List Value} (h : w.ownsRow base e 1 v n xs) (hb : base' ≤ base) (hk : ∀ g, base ≤ g → w'.heap[g]? = w.heap[g]?) : w'.ownsRow base' e 1 v n xs := by
  obtain ⟨h1, h2⟩ := h
  refine ⟨h1, ?_⟩
  rcases h2 with h2 | ⟨g, cap, cs, e1, e2, e3, rest⟩
  · exact .inl h2
  · exact .inr ⟨g, cap, cs, e1, by omega, by rw [hk g e2]; exact e3, rest⟩

/-- What a Once's slow road leaves behind the function's own world. -/
def onceEnd (W : World) (b : Nat) : World := (W.drew.setCell ⟨b, 0, none⟩ (.int .u32 1)).setCell ⟨b, 1, none⟩ (.int .i32 0)
theorem onceEnd_block (W : World) (b k : Nat) (h : k ≠ b) : (onceEnd W b).heap[k]? = W.heap[k]? := by
  unfold onceEnd
  rw [Below.heap_setCell _ _ _ _ h, Below.heap_setCell _ _ _ _ h]
  rfl
theorem onceEnd_cell (W : World) (b o : Nat) (h0 : o ≠ 0) (h1 : o ≠ 1) : (onceEnd W b).cell? ⟨b, o, none⟩ = W.cell? ⟨b, o, none⟩ := by
  unfold onceEnd
  rw [World.cell?_setCell_other _ _ _ _ (fun h => by injection h; omega), World.cell?_setCell_other _ _ _ _ (fun h => by injection h; omega), World.cell?_drew]
theorem onceEnd_below (W : World) (b : Nat) : Below b W (onceEnd W b) :=
  (((Below.refl b W).drew).setCell (Nat.le_refl _) _).setCell (Nat.le_refl _) _

/-- What 'made' leaves: nothing below the object has changed; the row of names. -/
def MadeE (b : Nat) (w : World) (v : Value) (w' : World) : Prop := Below b w w' ∧ w'.ownsRow (b + 1) 9 1 v 14 (.string ⟨#[]⟩ :: nameVals)

set_option maxRecDepth 100000 in
set_option maxHeartbeats 800000 in
/-- The row of names, by 'made' of an object that was not asked before. -/
theorem made_any (b : Nat) (w : World) (hblk : w.heap[b]? = some (.cells #[.int .u32 0, .int .i32 0, .int .u32 0, .slice none 0 0] 100 (0, 0))) (hL : Laid w) :
    Calls Tryz.prog 60 #[.pointer (some ⟨b, 0, none⟩)] w fun e w' => ∃ g cap, e = .returned (.slice (some ⟨g, 0, none⟩) 14 cap) ∧ MadeE b w (.slice (some ⟨g, 0, none⟩) 14 cap) w' := by
  have hmf : ∀ (fn : Fn) (first cap : Array Value) (w : World), (Instr.makeFunc fn first cap).run Tryz.prog w = .ok (.func fn first cap) w := fun _ _ _ _ => rfl
  have hb : b < w.heap.size := by
    by_cases h : b < w.heap.size
    · exact h
    · rw [Array.getElem?_eq_none (by omega)] at hblk
      cases hblk
  obtain ⟨W0, hW0⟩ : ∃ W0, W0 = w.alloc (.cells #[.pointer (some ⟨b, 0, none⟩)] 130) := ⟨_, rfl⟩
  have z0 : W0.heap.size = w.heap.size + 1 := by rw [hW0]; simp
  have blk0 : W0.heap[b]? = some (.cells #[.int .u32 0, .int .i32 0, .int .u32 0, .slice none 0 0] 100 (0, 0)) := by rw [hW0, Below.heap_alloc _ _ _ hb]; exact hblk
  have c0 : W0.cell? ⟨b, 0, none⟩ = some (.int .u32 0) := by simp [World.cell?, blk0]
  have c1 : W0.cell? ⟨b, 0 + 1, none⟩ = some (.int .i32 0) := by simp [World.cell?, blk0]
  have c3 : W0.cell? ⟨b, 3, none⟩ = some (.slice none 0 0) := by simp [World.cell?, blk0]
  have fz : ∀ o, W0.frozen? ⟨b, o, none⟩ = false := fun o => by simp [World.frozen?, blk0]
  have cp : W0.cell? ⟨w.heap.size, 0, none⟩ = some (.pointer (some ⟨b, 0, none⟩)) := by rw [hW0]; simp
  obtain ⟨W1, hW1⟩ : ∃ W1, W1 = W0.setCell ⟨b, 0 + 1, none⟩ (.int .i32 1) := ⟨_, rfl⟩
  have z1 : W1.heap.size = w.heap.size + 1 := by rw [hW1]; simp [z0]
  have B1 : Below b w W1 := by rw [hW1, hW0]; exact ((Below.refl b w).alloc (by omega) _).setCell (Nat.le_refl _) _
  have L1 : Laid W1 := by
    have : Below W0.heap.size W0 W0 := Below.refl _ _
    have l0 : Laid W0 := hL.below rfl (by rw [hW0]; exact (Below.refl _ w).alloc (Nat.le_refl _) _)
    have hg : Tryz.prog.globalNamed "strings.asciiSpace" = some 0 := by kernel_rfl
    have hne : 0 ≠ b := by
      intro h
      have l' : W0.var? Tryz.prog "strings.asciiSpace" = some _ := l0
      unfold World.var? at l'
      simp only [hg, Option.bind_some] at l'
      rw [h, blk0] at l'
      have := congrArg (fun o => o.map Array.size) l'
      simp [Lib.asciiSpaceTab_length] at this
    have l' : W0.var? Tryz.prog "strings.asciiSpace" = some _ := l0
    show W1.var? Tryz.prog "strings.asciiSpace" = some _
    unfold World.var? at l' ⊢
    simp only [hg, Option.bind_some] at l' ⊢
    rw [hW1, Below.heap_setCell _ _ _ _ hne]
    exact l'
  have hdo := once_first 80 b 0 #[.pointer (some ⟨w.heap.size, 0, none⟩)] W0 (MadeR b W1) c0 c1 (fz _)
    (by
      rw [← hW1]
      refine made_fn b w.heap.size W1 (.slice none 0 0) ?_ ?_ ?_ (by omega) (by omega) L1
      · rw [hW1, World.cell?_setCell_other _ _ _ _ (fun h => by injection h; omega)]; exact cp
      · rw [hW1, World.cell?_setCell_other _ _ _ _ (by simp)]; exact c3
      · rw [hW1]; simpa using fz 3)
    (by
      rintro W' ⟨v, W2, hB, ho, rfl⟩
      have e0 : W2.cell? ⟨b, 0, none⟩ = some (.int .u32 0) := by
        rw [hB.cell (p := ⟨b, 0, none⟩) (by simp; omega), hW1, World.cell?_setCell_other _ _ _ _ (by simp)]; exact c0
      have e1 : W2.cell? ⟨b, 0 + 1, none⟩ = some (.int .i32 1) := by
        rw [hB.cell (p := ⟨b, 0 + 1, none⟩) (by simp; omega), hW1]; exact World.cell?_setCell_same _ _ _ c1
      have e2 : ∀ o, W2.frozen? ⟨b, o, none⟩ = false := fun o => by
        rw [hB.frozen (p := ⟨b, o, none⟩) (by simp; omega), hW1]; simpa using fz o
      refine ⟨?_, ?_, by simpa using e2 0, by simpa using e2 (0 + 1)⟩
      · rw [World.cell?_setCell_other _ _ _ _ (by simp)]; exact e0
      · rw [World.cell?_setCell_other _ _ _ _ (by simp)]; exact e1)
    (enters_of Tryz.func80 (by kernel_rfl) rfl)
  have hfin : ∀ W', MadeR b W1 W' → ∃ v, (onceEnd W' b).cell? ⟨b, 3, none⟩ = some v ∧ v.oneCell' = true ∧ (onceEnd W' b).cell? ⟨w.heap.size, 0, none⟩ = some (.pointer (some ⟨b, 0, none⟩)) ∧ Below b w (onceEnd W' b) ∧ (onceEnd W' b).ownsRow (b + 1) 9 1 v 14 (.string ⟨#[]⟩ :: nameVals) := by
    rintro W' ⟨v, W2, hB, ho, rfl⟩
    refine ⟨v, ?_, ?_, ?_, ?_, ?_⟩
    · rw [onceEnd_cell _ _ _ (by omega) (by omega)]
      refine World.cell?_setCell_same (u := .slice none 0 0) _ _ _ ?_
      rw [hB.cell (p := ⟨b, 3, none⟩) (by simp; omega), hW1, World.cell?_setCell_other _ _ _ _ (by simp)]; exact c3
    · obtain ⟨g, cap, rfl⟩ := own_form ho (by simp)
      rfl
    · have : (onceEnd (W2.setCell ⟨b, 3, none⟩ v) b).cell? ⟨w.heap.size, 0, none⟩ = W2.cell? ⟨w.heap.size, 0, none⟩ :=
        World.cell?_of_block (by rw [onceEnd_block _ _ _ (by simp; omega), Below.heap_setCell _ _ _ _ (by simp; omega)])
      rw [this, hB.cell (p := ⟨w.heap.size, 0, none⟩) (by simp; omega), hW1, World.cell?_setCell_other _ _ _ _ (fun h => by injection h; omega)]
      exact cp
    · exact (B1.trans ((hB.mono (show b ≤ W1.heap.size by omega)).setCell (p := ⟨b, 3, none⟩) (Nat.le_refl b) _)).trans (onceEnd_below _ _)
    · refine ownsRow_block ho (by omega) fun g hg => ?_
      rw [onceEnd_block _ _ _ (by omega), Below.heap_setCell _ _ _ _ (by simp; omega)]
  have hd2 : Calls Tryz.prog 79 #[.pointer (some ⟨b, 0, none⟩), .func (.func 80) #[] #[.pointer (some ⟨w.heap.size, 0, none⟩)]] W0 fun e w' => e = .returned (.tuple #[]) ∧ ∃ g cap, w'.cell? ⟨b, 3, none⟩ = some (.slice (some ⟨g, 0, none⟩) 14 cap) ∧ w'.cell? ⟨w.heap.size, 0, none⟩ = some (.pointer (some ⟨b, 0, none⟩)) ∧ MadeE b w (.slice (some ⟨g, 0, none⟩) 14 cap) w' := by
    refine hdo.mono ?_
    rintro e w' ⟨he, W', hr, hw⟩
    obtain ⟨v, f1, f2, f3, f4, f5⟩ := hfin _ hr
    obtain rfl : w' = onceEnd W' b := hw
    obtain ⟨g, cap, rfl⟩ := own_form f5 (by simp)
    exact ⟨he, g, cap, f1, f3, f4, f5⟩
  clear hfin hdo
  clear B1 L1 hW1 z1 blk0 c0 c1 c3 fz cp z0 hL hblk
  subst hW0
  go_enter Tryz.func60, Tryz.ntmps60
  go_wp2_with (go_at_call 79; refine hd2.mono ?_; rintro e w' ⟨rfl, g, cap, f1, f2, f3⟩; have F := Lib.hid f3; clear f3)
  go_ret
  exact ⟨g, cap, rfl, F.out⟩

/-- An operation's name. -/
def nameOf (op : Int) : ByteArray := ((([] : List UInt8) :: Lib.fields nameText.data.toList).map fun x => (⟨x.toArray⟩ : ByteArray)).getD op.toNat ByteArray.empty
theorem nameVals_at (i : Nat) (hi : i < 14) : (Value.string ⟨#[]⟩ :: nameVals)[i]? = some (.string (nameOf i)) := by
  have h : ∀ j : Nat, j < 14 → (Value.string ⟨#[]⟩ :: nameVals)[j]? = some (.string (((([] : List UInt8) :: Lib.fields nameText.data.toList).map fun x => (⟨x.toArray⟩ : ByteArray)).getD j ByteArray.empty)) := by
    intro j hj
    have e : (Value.string ⟨#[]⟩ :: nameVals) = ((([] : List UInt8) :: Lib.fields nameText.data.toList).map fun x => (⟨x.toArray⟩ : ByteArray)).map Value.string := by
      simp [nameVals]
    have hl : ((([] : List UInt8) :: Lib.fields nameText.data.toList).map fun x => (⟨x.toArray⟩ : ByteArray)).length = 14 := by
      simp [nameFields_length]
    rw [e, List.getElem?_map, List.getD_eq_getElem?_getD, List.getElem?_eq_getElem (by omega)]
    rfl
  exact h i hi

/-- The names as the program tells them. -/
def command_Name.f (op : Int) : Option ByteArray := some (if 0 < op ∧ op < 14 then nameOf op else ⟨#[]⟩)

set_option maxRecDepth 100000 in
set_option maxHeartbeats 800000 in
theorem command_Name.calls (op : Int) (r : ByteArray) (w : World) (h : command_Name.f op = some r) (hL : Laid w) :
    Calls Tryz.prog 17 #[.int .i64 op] w fun e w' => e = .returned (.string r) ∧ Below w.heap.size w w' := by
  have hm : Hid (∀ W, W = w.alloc (.cells #[.int .u32 0, .int .i32 0, .int .u32 0, .slice none 0 0] 100) → Calls Tryz.prog 60 #[.pointer (some ⟨w.heap.size, 0, none⟩)] W fun e w' => ∃ g cap, e = .returned (.slice (some ⟨g, 0, none⟩) 14 cap) ∧ MadeE w.heap.size W (.slice (some ⟨g, 0, none⟩) 14 cap) w') := by
    refine Lib.hid fun W hW => made_any w.heap.size W (by rw [hW]; exact heap_alloc_new w _) (hL.below rfl (by rw [hW]; exact (Below.refl _ w).alloc (Nat.le_refl _) _))
  unfold command_Name.f at h
  have hr := Option.some.inj h
  clear h
  by_cases hop : 0 < op ∧ op < 14
  · rw [if_pos hop] at hr
    obtain ⟨h0, h1⟩ := hop
    obtain ⟨n, rfl⟩ := Int.eq_ofNat_of_zero_le (show 0 ≤ op by omega)
    have hn := nameVals_at n (by omega)
    rw [hr] at hn
    have HN := Lib.hid hn
    clear hn hr
    go_enter Tryz.func17, Tryz.ntmps17
    go_wp2_with (go_at_call 60; refine (hm.out _ rfl).mono ?_; rintro e w' ⟨g, cap, rfl, f⟩; have F := Lib.hid f; clear f; have hc := (F.out.2.cellAt n (by omega)).trans HN.out)
    go_ret
    exact ⟨rfl, ((Below.refl _ w).alloc (Nat.le_refl _) _).trans F.out.1⟩
  · rw [if_neg hop] at hr
    have HR := Lib.hid hr
    clear hr
    by_cases h0 : 0 < op
    · have h1 : 14 ≤ op := by omega
      clear hop
      go_enter Tryz.func17, Tryz.ntmps17
      go_wp2_with (go_at_call 60; refine (hm.out _ rfl).mono ?_; rintro e w' ⟨g, cap, rfl, f⟩; have F := Lib.hid f; clear f)
      go_ret
      exact ⟨by rw [← HR.out]; rfl, ((Below.refl _ w).alloc (Nat.le_refl _) _).trans F.out.1⟩
    · have h1 : op ≤ 0 := by omega
      clear hop
      go_enter Tryz.func17, Tryz.ntmps17
      go_wp2_with (go_at_call 60; refine (hm.out _ rfl).mono ?_; rintro e w' ⟨g, cap, rfl, f⟩; have F := Lib.hid f; clear f)
      go_ret
      exact ⟨by rw [← HR.out]; rfl, ((Below.refl _ w).alloc (Nat.le_refl _) _).trans F.out.1⟩
end Go.Proofs.YtbfdaclekjgkfaaGreatDoor
