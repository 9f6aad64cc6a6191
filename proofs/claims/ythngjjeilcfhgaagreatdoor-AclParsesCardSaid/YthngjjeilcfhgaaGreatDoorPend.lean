import Derived.Test.YthngjjeilcfhgaaGreatDoorPb
import Derived.Test.YthngjjeilcfhgaaGreatDoorBkra
import Derived.Test.YthngjjeilcfhgaaGreatDoorRef2

/- The first call of chapter 18's statements answers true. -/
set_option linter.unusedVariables false
namespace Go.Proofs.YthngjjeilcfhgaaGreatDoor
open Go.RowKit Go.Proofs.YthngjjeilcfhgaaGreatDoorW.PrintWords Go.Proofs.YthngjjeilcfhgaaGreatDoorW.PrintLast
set_option maxRecDepth 100000
theorem alive_true : Pb.escutcheonlaw18_alive.f 60 = some true := by decide +kernel
end Go.Proofs.YthngjjeilcfhgaaGreatDoor

/- AclParses: the walk. -/
set_option linter.unusedVariables false
namespace Go.Proofs.YthngjjeilcfhgaaGreatDoor.Bk
open Go.RowKit Go.Proofs.YthngjjeilcfhgaaGreatDoorW.PrintWords Go.Proofs.YthngjjeilcfhgaaGreatDoorW.PrintLast Go.Proofs.YthngjjeilcfhgaaGreatDoor.Pa

def bookC : Array Value := #[.slice none 0 0, .slice none 0 0, .slice none 0 0, .slice none 0 0, .slice none 0 0, .slice none 0 0, .slice none 0 0, .slice none 0 0, .slice none 0 0, .slice none 0 0, .slice none 0 0, .slice none 0 0, .slice none 0 0, .slice none 0 0]
theorem bookC_at (i : Nat) (h : i < 14) : bookC[i]? = some (.slice none 0 0) := by
  unfold bookC
  rcases i with _|_|_|_|_|_|_|_|_|_|_|_|_|_|i
  all_goals first | rfl | omega

/-- Both readings of a text, and they tell the same. -/
def BothRead (a0 : ByteArray) : Prop := ∃ (l : List S45) (n : Int) (ok : Bool) (k k' : Nat), l.length ≤ 40 ∧ Pb.acl_Parse.f k a0 = some (l, n, ok) ∧ Pl.escutcheonref14_Rules.f k' a0 = some (l, n, ok)

set_option maxHeartbeats 6400000 in
set_option maxRecDepth 100000 in
theorem parses_walk (a0 : ByteArray) (w : World) (hL : Laid w) (b0 : a0.size ≤ 140737488351232) (hboth : a0.size ≤ 6000 → BothRead a0)
    (hmk : ∀ i a n : Nat, i ≤ 250 → a ≤ 20000 → n ≤ 20000 → ∃ k, Pl.escutcheonbook_markRules.f k (i : Int) (a : Int) (n : Int) = some (mkOf mkR i a n))
    (hsame : ∀ l : List S45, l.length ≤ 20000 → ∃ k, Pl.escutcheonbook_SameRules.f k l l = some true) (hcopy : ∀ l : List S45, l.length ≤ 40 → Pl.escutcheonbook_copyRules.f l = some l) :
    Calls Tryz.prog 3 #[.string a0] w fun e w' => e = .returned (.bool true) ∧ Below w.heap.size w w' := by
  have HLd := Lib.hid hL
  have HBo := Lib.hid hboth
  have HM := Lib.hid hmk
  have HS := Lib.hid hsame
  have HC := Lib.hid hcopy
  clear hL hboth hmk hsame hcopy
  by_cases hlen : (a0.size : Int) > 6000
  · have hl' : decide (6000 < (a0.size : Int)) = true := decide_eq_true hlen
    go_enter Tryz.func3, Tryz.ntmps3
    go_wp2_with fail
    refine (Pb.escutcheonlaw18_alive.calls 60 true _ alive_true HLd.out).mono ?_
    rintro e w1 ⟨rfl, hb1⟩
    have HB1 := Lib.hid hb1
    clear hb1
    go_wp2
    go_ret
    exact ⟨rfl, HB1.out⟩
  · have hl' : decide (6000 < (a0.size : Int)) = false := decide_eq_false hlen
    go_enter Tryz.func3, Tryz.ntmps3
    go_wp2_with fail
    refine (Pb.escutcheonlaw18_alive.calls 60 true _ alive_true HLd.out).mono ?_
    rintro e w1 ⟨rfl, hb1⟩
    obtain ⟨l, n, ok, k, k', hl40, hk, hk'⟩ := HBo.out (by omega)
    have HK := Lib.hid hk
    have HK' := Lib.hid hk'
    have HB1 := Lib.hid hb1
    clear hk hk' hb1
    go_wp2_with fail
    have hLw : ∀ W : World, Below w.heap.size w W → Laid W := fun W h => Laid.below HLd.out rfl h
    have HLw := Lib.hid hLw
    clear hLw
    obtain ⟨g, hgd⟩ : ∃ g, g = w1.heap.size := ⟨_, rfl⟩
    have hbl2 : (w1.alloc (.cells bookC 32)).heap[g]? = some (.cells bookC 32 (0, 0)) := by rw [hgd]; exact heap_alloc_new w1 _
    have hb2 : Below w.heap.size w (w1.alloc (.cells bookC 32)) := HB1.out.alloc HB1.out.size _
    rw [← hgd]
    change Calls _ _ _ (w1.alloc (.cells bookC 32)) _
    generalize w1.alloc (.cells bookC 32) = w2 at hbl2 hb2 ⊢
    have hgw : w.heap.size ≤ g := by rw [hgd]; exact HB1.out.size
    have HB2 := Lib.hid hb2
    have HG2 := Lib.hid hbl2
    clear hbl2 hb2 hgd
    refine (Pb.acl_Parse.calls k a0 l n ok w2 HK.out (HLw.out w2 HB2.out)).mono ?_
    rintro e w3 ⟨va, rfl, hra, hb3⟩
    obtain ⟨Aa, ca, rfl, _⟩ := Kd.R_reads hra
    have HA3 := Lib.hid hra
    have HB3 := Lib.hid hb3
    have HW3 := Lib.hid (HB2.out.trans (hb3.mono HB2.out.size))
    clear hra hb3
    go_wp2_with fail
    refine (Pb.acl_Parse.calls k a0 l n ok w3 HK.out (HLw.out w3 HW3.out)).mono ?_
    rintro e w4 ⟨vb, rfl, hrb, hb4⟩
    obtain ⟨Ab, cb, rfl, _⟩ := Kd.R_reads hrb
    have HR4 := Lib.hid hrb
    have HB4 := Lib.hid hb4
    have HW4 := Lib.hid (HW3.out.trans (hb4.mono HW3.out.size))
    clear hrb hb4
    go_wp2_with fail
    have hg4 := blk_below (blk_below HG2.out HB3.out) HB4.out
    have hra4 := Kd.R_below HA3.out HB4.out
    have hsz2 := HB2.out.size
    have hsz3 := HB3.out.size
    have hsz4 := HB4.out.size
    have hsz3' : w.heap.size ≤ w3.heap.size := HW3.out.size
    refine (Rules_any w.heap.size g bookC (.slice none 0 0) (.slice none 0 0) [] [] [] Aa ca l w4 hg4 rfl rfl ⟨Lists.nil _ _ _ _ _, Lists.nil _ _ _ _ _, fun k h => by cases h⟩ (Kd.R_lower hra4 hsz2) (fun k _ ⟨j, u, hu, _⟩ => by simp at hu) (by decide) (HC.out l hl40) HW4.out.size).mono ?_
    rintro e w5 ⟨rfl, v5, u5, y5, hg5, hp5, ht5⟩
    have hx5 := R_tch rfl HR4.out ht5 (fun k a b => by
      rcases b with h | h | h
      · exact R_off HR4.out hg4 (by decide) k a h
      · cases h
      · cases h)
    have hW5 : Below w.heap.size w w5 := ht5.below HW4.out HW4.out.size (fun k b => by
      rcases b with h | h | h
      · omega
      · cases h
      · cases h)
    have HG5 := Lib.hid hg5
    have HP5 := Lib.hid hp5
    have HX5 := Lib.hid hx5
    have HW5 := Lib.hid hW5
    clear hg4 hra4 hg5 hp5 hx5 hW5 ht5
    go_wp2_with fail
    refine (Rules_any w.heap.size g ((bookC.setIfInBounds 4 v5).setIfInBounds 5 u5) v5 u5 _ _ _ Ab cb l w5 HG5.out rfl rfl HP5.out (Kd.R_lower HX5.out hsz3') (fun k hk ⟨j, x, hx, hxk⟩ => ?_) (show 1 < 250 by decide) (HC.out l hl40) HW5.out.size).mono ?_
    · match j, hx with
      | 0, hx =>
        obtain rfl := Option.some.inj hx
        have h1 := Kd.R_lt HA3.out k hxk
        have h2 := Kd.R_base HR4.out k hk
        omega
    rintro e w6 ⟨rfl, v6, u6, y6, hg6, hp6, ht6⟩
    have hW6 : Below w.heap.size w w6 := ht6.below HW5.out HW5.out.size (fun k b => by
      rcases b with h | h | h
      · omega
      · exact Kd.R_base HP5.out.a.outer k h
      · exact Kd.R_base HP5.out.b.outer k h)
    have HG6 := Lib.hid hg6
    have HP6 := Lib.hid hp6
    have HW6 := Lib.hid hW6
    clear hg6 hp6 hW6 ht6
    go_wp2_with fail
    refine (Pl.escutcheonref14_Rules.calls k' a0 l n ok w6 HK'.out).mono ?_
    rintro e w7 ⟨vx, rfl, hrx, hb7⟩
    obtain ⟨Ax, cx, rfl, hcx, hCx⟩ := Kd.R_reads hrx
    obtain ⟨_, hca, hCa⟩ := Kd.R_reads' (Kd.R_below (HP6.out.a.each 0 _ _ rfl rfl) hb7)
    obtain ⟨ks, hks⟩ := HS.out l (by omega)
    have HKS := Lib.hid hks
    have HCX := Lib.hid hCx
    have HCA := Lib.hid hCa
    have HB7 := Lib.hid hb7
    clear hrx hb7 hCx hCa hks
    go_wp2_with fail
    refine (Pl.escutcheonbook_SameRules.calls ks Aa ca l Ax cx l true _ HCA.out hca HCX.out hcx HKS.out).mono ?_
    rintro e w8 ⟨rfl, hd8⟩
    have hb8 : Below w6.heap.size w6 w8 := HB7.out.trans (hd8.below.mono HB7.out.size)
    have hg8 := blk_below HG6.out hb8
    have hW8 := HW6.out.trans (hb8.mono HW6.out.size)
    have hp8 : Pair k45 45 33 w8 w.heap.size v6 u6 _ _ _ := ⟨HP6.out.a.below rfl hb8, HP6.out.b.below rfl hb8, HP6.out.ap⟩
    have HG8 := Lib.hid hg8
    have HW8 := Lib.hid hW8
    have HP8 := Lib.hid hp8
    clear hd8 hb8 hg8 hW8 hp8
    go_wp2_with fail
    refine (Apart_Rules w.heap.size g 40 _ v6 u6 _ _ _ _ HG8.out (fun i h1 h2 h3 => ?_) rfl rfl HP8.out HW8.out.size (show 2 ≤ 250 by decide) (fun x hx => ?_) (by decide) HM.out HS.out).mono ?_
    · rw [Array.getElem?_setIfInBounds_ne (by omega), Array.getElem?_setIfInBounds_ne (by omega), Array.getElem?_setIfInBounds_ne (by omega), Array.getElem?_setIfInBounds_ne (by omega)]
      exact bookC_at i h1
    · have hx' : x = l := by simpa using hx
      rw [hx']
      exact hl40
    rintro e w9 ⟨rfl, hb9⟩
    have HW9 := Lib.hid (HW8.out.trans (hb9.mono (Nat.le_refl _)))
    clear hb9
    go_wp2
    go_ret
    exact ⟨rfl, HW9.out⟩
end Go.Proofs.YthngjjeilcfhgaaGreatDoor.Bk

/- AclParses: the plain law: both readings of a text tell the same. -/
set_option linter.unusedVariables false
namespace Go.Proofs.YthngjjeilcfhgaaGreatDoor
open Go.RowKit Go.Proofs.YthngjjeilcfhgaaGreatDoorW.PrintWords Go.Proofs.YthngjjeilcfhgaaGreatDoorW.PrintLast
namespace Bot
open Acl Ref

/-- The rule that a line tells, if it tells one. -/
def ruleX (s : ByteArray) : Pa.S45 := match splitS s 32 with
  | [s0, s1, s2, s3] => ruleOf s0 s1 s2 s3
  | _ => Pa.z45
theorem ruleX_four {s s0 s1 s2 s3 : ByteArray} (h : splitS s 32 = [s0, s1, s2, s3]) : ruleX s = ruleOf s0 s1 s2 s3 := by
  unfold ruleX
  rw [h]

theorem readX_ev (s : ByteArray) (hs : s.size ≤ 6000) : Ev (fun k => acl_read.f k s) ((ruleX s).f0, (ruleX s).f1, (ruleX s).f2, (ruleX s).f3, lineOk s) := by
  have hsp := split_f s 32 (by omega)
  match hw : splitS s 32 with
  | [s0, s1, s2, s3] =>
    have z3 := word_size s s3 (by rw [hw]; simp)
    rw [lineOk_four hw, ruleX_four hw]
    have hr := right_ev (ruleOf s0 s1 s2 s3) (by show s3.size ≤ _; omega)
    refine Ev.congr (f := fun k => (acl_Right.f k (ruleOf s0 s1 s2 s3).f0 (ruleOf s0 s1 s2 s3).f1 (ruleOf s0 s1 s2 s3).f2 (ruleOf s0 s1 s2 s3).f3).bind fun rr =>
      if rr = true then (Pa.acl_line.f (ruleOf s0 s1 s2 s3).f0 (ruleOf s0 s1 s2 s3).f1 (ruleOf s0 s1 s2 s3).f2 (ruleOf s0 s1 s2 s3).f3).bind fun ln => some ((ruleOf s0 s1 s2 s3).f0, (ruleOf s0 s1 s2 s3).f1, (ruleOf s0 s1 s2 s3).f2, (ruleOf s0 s1 s2 s3).f3, ln.toList == s.toList)
      else some ((ruleOf s0 s1 s2 s3).f0, (ruleOf s0 s1 s2 s3).f1, (ruleOf s0 s1 s2 s3).f2, (ruleOf s0 s1 s2 s3).f3, false)) (fun k => ?_) (Ev.bind hr ?_)
    · unfold acl_read.f
      rw [hsp, Option.bind_some, hw]
      rfl
    · by_cases h : rightB (ruleOf s0 s1 s2 s3) = true
      · refine Ev.congr (fun k => ?_) (Ev.now _)
        rw [if_pos h, line_f (ok_of h), Option.bind_some, Lib.toList_data, Lib.toList_data, h]
        simp
      · refine Ev.congr (fun k => ?_) (Ev.now _)
        rw [if_neg h]
        have : rightB (ruleOf s0 s1 s2 s3) = false := by simpa using h
        rw [this]
        rfl
  | [] =>
    rw [show lineOk s = false by unfold lineOk; rw [hw], show ruleX s = Pa.z45 by unfold ruleX; rw [hw]]
    exact Ev.congr (fun k => by unfold acl_read.f; rw [hsp, Option.bind_some, hw]; rfl) (Ev.now _)
  | [_] =>
    rw [show lineOk s = false by unfold lineOk; rw [hw], show ruleX s = Pa.z45 by unfold ruleX; rw [hw]]
    exact Ev.congr (fun k => by unfold acl_read.f; rw [hsp, Option.bind_some, hw]; rfl) (Ev.now _)
  | [_, _] =>
    rw [show lineOk s = false by unfold lineOk; rw [hw], show ruleX s = Pa.z45 by unfold ruleX; rw [hw]]
    exact Ev.congr (fun k => by unfold acl_read.f; rw [hsp, Option.bind_some, hw]; rfl) (Ev.now _)
  | [_, _, _] =>
    rw [show lineOk s = false by unfold lineOk; rw [hw], show ruleX s = Pa.z45 by unfold ruleX; rw [hw]]
    exact Ev.congr (fun k => by unfold acl_read.f; rw [hsp, Option.bind_some, hw]; rfl) (Ev.now _)
  | _ :: _ :: _ :: _ :: _ :: _ =>
    rw [show lineOk s = false by unfold lineOk; rw [hw], show ruleX s = Pa.z45 by unfold ruleX; rw [hw]]
    exact Ev.congr (fun k => by unfold acl_read.f; rw [hsp, Option.bind_some, hw]; rfl) (Ev.now _)

/-- A text's lines, read one by one: the rules, or the line that is none. -/
def parseL : List ByteArray → List Pa.S45 → Nat → List Pa.S45 × Int × Bool
  | [], acc, _ => (acc, 0, true)
  | s :: rest, acc, i => if s.data.toList = [] ∨ s.data.toList.head? = some 35 then parseL rest acc (i + 1) else
    if lineOk s = true then (if acc.length = 40 then ([], ((i + 1 : Nat) : Int), false) else parseL rest (acc ++ [ruleX s]) (i + 1)) else ([], ((i + 1 : Nat) : Int), false)

theorem parseL_len : ∀ (L : List ByteArray) (acc : List Pa.S45) (i : Nat), acc.length ≤ 40 → (parseL L acc i).1.length ≤ 40
  | [], acc, i, h => h
  | s :: rest, acc, i, h => by
    rw [parseL]
    split
    · exact parseL_len rest acc (i + 1) h
    · split
      · split
        · exact Nat.zero_le _
        · exact parseL_len rest _ (i + 1) (by rw [List.length_append, List.length_singleton]; omega)
      · exact Nat.zero_le _

theorem parse_is (L : List ByteArray) (hL : L.length ≤ 6000) (hsz : ∀ s ∈ L, s.size ≤ 6000) : ∀ (d i : Nat) (acc : List Pa.S45), i + d = L.length → acc.length ≤ 40 → Ev (fun k => Pb.acl_Parse.l0 k acc L (L.length : Int) (i : Int)) (parseL (L.drop i) acc i) := by
  intro d
  induction d with
  | zero =>
    intro i acc hi hacc
    rw [List.drop_eq_nil_of_le (by omega)]
    exact parse_end L acc i (by omega)
  | succ d ih =>
    intro i acc hi hacc
    have hlt : i < L.length := by omega
    rw [List.drop_eq_getElem_cons hlt, parseL]
    have hs := hsz L[i] (List.getElem_mem hlt)
    match hc : L[i].data.toList with
    | [] =>
      rw [if_pos (.inl rfl)]
      exact parse_skip L hL acc i hlt L[i] rfl (.inl hc) _ (ih (i + 1) acc (by omega) hacc)
    | c :: q =>
      by_cases h35 : c = 35
      · rw [if_pos (.inr (by rw [h35]; rfl))]
        exact parse_skip L hL acc i hlt L[i] rfl (.inr ⟨q, by rw [hc, h35]⟩) _ (ih (i + 1) acc (by omega) hacc)
      · rw [if_neg (by rintro (h | h); · cases h
                       · exact h35 (Option.some.inj h))]
        refine parse_read L hL acc i hlt L[i] rfl c q hc h35 (ruleX L[i]) (lineOk L[i]) (readX_ev _ hs) hacc _ ?_
        by_cases hok : lineOk L[i] = true
        · rw [if_pos hok, if_pos hok]
          by_cases h40 : acc.length = 40
          · rw [if_pos h40, if_pos h40]
          · rw [if_neg h40, if_neg h40]
            exact ih (i + 1) _ (by omega) (by rw [List.length_append, List.length_singleton]; omega)
        · rw [if_neg hok, if_neg hok]

theorem parseT (t : ByteArray) (ht : t.size ≤ 5000) : Ev (fun k => Pb.acl_Parse.f k t) (parseL (splitS t 10) [] 0) := by
  have hlen : (splitS t 10).length ≤ 6000 := by
    rw [splitS_is, List.length_map]
    have := partsAt_length 10 t.data.toList
    rw [← Lib.size_eq] at this
    omega
  unfold Pb.acl_Parse.f
  refine Ev.congr (f := fun k => Pb.acl_Parse.l0 k [] (splitS t 10) ((splitS t 10).length : Int) ((0 : Nat) : Int)) (fun k => ?_) ?_
  · rw [if_neg (by omega), split_f _ _ (by omega), Option.bind_some]
    rfl
  · have := parse_is (splitS t 10) hlen (fun s hs => by
      rw [splitS_is] at hs
      obtain ⟨l, hl, rfl⟩ := List.mem_map.1 hs
      have := (partsAt_mem 10 _ l hl).2
      rw [ba_size]
      rw [← Lib.size_eq] at this
      omega) (splitS t 10).length 0 [] (by omega) (by decide)
    rwa [List.drop_zero] at this

/-! ### the document's reading -/
theorem tail_gen (t s : ByteArray) (hs : s.size ≤ 6000) (acc : List Pa.S45) (hacc : acc.length ≤ 40) (n z7 z8 : Int) (w0 w1 w2 w3 : ByteArray) (hw : splitS s 32 = [w0, w1, w2, w3]) (R : List Pa.S45 × Int × Bool)
    (hR : if lineOk s = true then (if acc.length = 40 then R = ([], n, false) else Ev (fun k => Pl.escutcheonref14_Rules.l0 k t (acc ++ [ruleOf w0 w1 w2 w3]) (wrap64 (n + 1)) z7 (wrap64 (z8 + 1))) R) else R = ([], n, false)) :
    Ev (fun k => Pl.escutcheonref14_Rules.l1 k t acc n z7 z8 s [w0, w1, w2, w3] 0 (w0.toList == [97, 108, 108, 111, 119]) w1 (-1) w3) R := by
  have e1 := word_size s w1 (by rw [hw]; simp)
  have e3 := word_size s w3 (by rw [hw]; simp)
  have hstep : ∀ (j : Nat) (hj : j < 4) (c : Int), Ev (fun k => Pl.escutcheonref14_Rules.l1 k t acc n z7 z8 s [w0, w1, w2, w3] ((j + 1 : Nat) : Int) (w0.toList == [97, 108, 108, 111, 119]) w1 (if w2.toList = (nameOf (j : Int)).toList then (j : Int) else c) w3) R →
      Ev (fun k => Pl.escutcheonref14_Rules.l1 k t acc n z7 z8 s [w0, w1, w2, w3] (j : Int) (w0.toList == [97, 108, 108, 111, 119]) w1 c w3) R := by
    intro j hj c hr
    refine Ev.step (f := fun k => Pl.escutcheonref14_Rules.l1 k t acc n z7 z8 s [w0, w1, w2, w3] ((j + 1 : Nat) : Int) (w0.toList == [97, 108, 108, 111, 119]) w1 (if w2.toList = (nameOf (j : Int)).toList then (j : Int) else c) w3) (fun k => ?_) hr
    show Pl.escutcheonref14_Rules.l1 (k + 1) t acc n z7 z8 s [w0, w1, w2, w3] (j : Int) (w0.toList == [97, 108, 108, 111, 119]) w1 c w3 = _
    rw [Pl.escutcheonref14_Rules.l1, if_pos (by omega), if_pos (by show (2 : Int) < 4; decide), Option.bind_some, if_pos (by omega), if_pos (by show (j : Int) < 4; omega)]
    rw [show rdOf ByteArray.empty ([(⟨#[97, 110, 121]⟩ : ByteArray), (⟨#[114, 101, 97, 100]⟩ : ByteArray), (⟨#[119, 114, 105, 116, 101]⟩ : ByteArray), (⟨#[97, 100, 109, 105, 110]⟩ : ByteArray)] : List ByteArray) (j : Int) = nameOf (j : Int) from names4_at (j : Int) (by omega) (by omega)]
    rw [show rdOf ByteArray.empty [w0, w1, w2, w3] 2 = w2 from rfl, wrap1 j (by omega)]
    by_cases h : w2.toList = (nameOf (j : Int)).toList
    · rw [if_pos h, if_pos h]
    · rw [if_neg h, if_neg h]
  refine hstep 0 (by decide) _ (hstep 1 (by decide) _ (hstep 2 (by decide) _ (hstep 3 (by decide) _ ?_)))
  have hc : (if w2.toList = (nameOf ((3 : Nat) : Int)).toList then ((3 : Nat) : Int) else if w2.toList = (nameOf ((2 : Nat) : Int)).toList then ((2 : Nat) : Int) else if w2.toList = (nameOf ((1 : Nat) : Int)).toList then ((1 : Nat) : Int) else if w2.toList = (nameOf ((0 : Nat) : Int)).toList then ((0 : Nat) : Int) else -1) = Lib.idxOfS clsL w2 := (idx_cls w2).symm
  rw [hc]
  have hr := rule_ev (ruleOf w0 w1 w2 w3) (by show w1.size ≤ _; omega) (by show w3.size ≤ _; omega)
  refine Ev.step (f := fun k => (Pl.escutcheonref14_Rule.f k (ruleOf w0 w1 w2 w3).f0 (ruleOf w0 w1 w2 w3).f1 (ruleOf w0 w1 w2 w3).f2 (ruleOf w0 w1 w2 w3).f3).bind fun t140 => (if t140 = true then ((Pl.escutcheonref14_Line.f (ruleOf w0 w1 w2 w3).f0 (ruleOf w0 w1 w2 w3).f1 (ruleOf w0 w1 w2 w3).f2 (ruleOf w0 w1 w2 w3).f3).bind fun t141 => (if t141.toList = s.toList then (if (acc.length : Int) ≥ 40 then (some (([] : List Pa.S45), n, false)) else (Pl.escutcheonref14_Rules.l0 k t (acc ++ [ruleOf w0 w1 w2 w3]) (wrap64 (n + 1)) z7 (wrap64 (z8 + 1)))) else (some (([] : List Pa.S45), n, false)))) else (some (([] : List Pa.S45), n, false)))) (fun k => ?_) (Ev.bind hr ?_)
  · show Pl.escutcheonref14_Rules.l1 (k + 1) t acc n z7 z8 s [w0, w1, w2, w3] ((3 + 1 : Nat) : Int) (w0.toList == [97, 108, 108, 111, 119]) w1 (Lib.idxOfS clsL w2) w3 = _
    rw [Pl.escutcheonref14_Rules.l1, if_neg (by decide)]
    refine congrArg (fun g => Option.bind _ g) (funext fun t140 => ?_)
    refine iteCongr ?_ rfl
    refine congrArg (fun g => Option.bind _ g) (funext fun t141 => ?_)
    refine iteCongr ?_ rfl
    refine iteCongr rfl ?_
    rw [if_pos (by omega)]
    rfl
  · rw [lineOk_four hw] at hR
    by_cases h : rightB (ruleOf w0 w1 w2 w3) = true
    · rw [h, Bool.true_and] at hR
      rw [h]
      by_cases hl : lineL (ruleOf w0 w1 w2 w3) = s.data.toList
      · have hb : (lineL (ruleOf w0 w1 w2 w3) == s.data.toList) = true := beq_iff_eq.2 hl
        rw [hb, if_pos rfl] at hR
        by_cases h40 : acc.length = 40
        · rw [if_pos h40] at hR
          subst hR
          refine Ev.congr (fun k => ?_) (Ev.now _)
          rw [if_pos rfl, ref_line (ok_of h), Option.bind_some, if_pos (by rw [Lib.toList_data, Lib.toList_data]; exact hl), if_pos (by omega)]
        · rw [if_neg h40] at hR
          refine Ev.congr (fun k => ?_) hR
          rw [if_pos rfl, ref_line (ok_of h), Option.bind_some, if_pos (by rw [Lib.toList_data, Lib.toList_data]; exact hl), if_neg (by omega)]
      · have hb : (lineL (ruleOf w0 w1 w2 w3) == s.data.toList) = false := beq_eq_false_iff_ne.2 hl
        rw [hb, if_neg (by decide)] at hR
        subst hR
        refine Ev.congr (fun k => ?_) (Ev.now _)
        rw [if_pos rfl, ref_line (ok_of h), Option.bind_some, if_neg (by rw [Lib.toList_data, Lib.toList_data]; exact hl)]
    · have h' : rightB (ruleOf w0 w1 w2 w3) = false := by simpa using h
      rw [h', Bool.false_and, if_neg (by decide)] at hR
      subst hR
      rw [h']
      exact Ev.congr (fun k => by rw [if_neg (by decide)]) (Ev.now _)

/-- A line, from its end on. -/
theorem line_gen (t : ByteArray) (ht : t.size ≤ 5000) (f i : Nat) (hfi : f ≤ i) (hi : i ≤ t.size) (acc : List Pa.S45) (hacc : acc.length ≤ 40) (m : Nat) (hm : m ≤ 6000) (rest : List ByteArray)
    (hnext : ∀ acc' : List Pa.S45, acc'.length ≤ 40 → Ev (fun k => Pl.escutcheonref14_Rules.l0 k t acc' ((m + 2 : Nat) : Int) ((i + 1 : Nat) : Int) ((i + 1 : Nat) : Int)) (parseL rest acc' (m + 1))) :
    Ev (fun k => Pl.escutcheonref14_Rules.j1 k t acc ((m + 1 : Nat) : Int) (f : Int) (i : Int) false) (parseL (t.extract f i :: rest) acc m) := by
  have hsz : (t.extract f i).size ≤ 6000 := by rw [ByteArray.size_extract]; omega
  have hw1 : wrap64 ((i : Int) + 1) = ((i + 1 : Nat) : Int) := wrap1 i (by omega)
  have hwm : wrap64 (((m + 1 : Nat) : Int) + 1) = ((m + 2 : Nat) : Int) := wrap1 (m + 1) (by omega)
  have hx : t.extract (f : Int).toNat (i : Int).toNat = t.extract f i := by rw [Int.toNat_natCast, Int.toNat_natCast]
  obtain ⟨s, hs⟩ : ∃ s, s = t.extract f i := ⟨_, rfl⟩
  rw [← hs] at hx hsz ⊢
  have j2f : Ev (fun k => Pl.escutcheonref14_Rules.j2 k t acc ((m + 1 : Nat) : Int) ((i + 1 : Nat) : Int) (i : Int) s false) (parseL rest acc (m + 1)) := by
    refine Ev.step (f := fun k => Pl.escutcheonref14_Rules.l0 k t acc ((m + 2 : Nat) : Int) ((i + 1 : Nat) : Int) ((i + 1 : Nat) : Int)) (fun k => ?_) (hnext acc hacc)
    show Pl.escutcheonref14_Rules.j2 (k + 1) t acc ((m + 1 : Nat) : Int) ((i + 1 : Nat) : Int) (i : Int) s false = _
    rw [Pl.escutcheonref14_Rules.j2, if_neg (by decide), hwm, hw1]
  rw [parseL]
  match hc : s.data.toList with
  | [] =>
    rw [if_pos (.inl rfl)]
    refine Ev.step (f := fun k => Pl.escutcheonref14_Rules.j2 k t acc ((m + 1 : Nat) : Int) ((i + 1 : Nat) : Int) (i : Int) s false) (fun k => ?_) j2f
    show Pl.escutcheonref14_Rules.j1 (k + 1) t acc ((m + 1 : Nat) : Int) (f : Int) (i : Int) false = _
    rw [Pl.escutcheonref14_Rules.j1, if_neg (by decide), if_pos (by omega), if_pos (by omega), if_pos (by omega), hx, if_pos (by rw [Lib.toList_data]; exact hc), hw1]
  | c :: q =>
    have hs0 : 0 < s.size := by rw [Lib.size_eq, hc]; simp
    have hb0 : bt s 0 = (c.toNat : Int) := by
      have := bt_get s 0 hs0
      rw [hc] at this
      exact this
    have hj1 : ∀ (b : Bool) (r : List Pa.S45 × Int × Bool), (bt s 0 != 35) = b → Ev (fun k => Pl.escutcheonref14_Rules.j2 k t acc ((m + 1 : Nat) : Int) ((i + 1 : Nat) : Int) (i : Int) s b) r → Ev (fun k => Pl.escutcheonref14_Rules.j1 k t acc ((m + 1 : Nat) : Int) (f : Int) (i : Int) false) r := by
      intro b r hb h
      refine Ev.step (f := fun k => Pl.escutcheonref14_Rules.j2 k t acc ((m + 1 : Nat) : Int) ((i + 1 : Nat) : Int) (i : Int) s b) (fun k => ?_) h
      show Pl.escutcheonref14_Rules.j1 (k + 1) t acc ((m + 1 : Nat) : Int) (f : Int) (i : Int) false = _
      rw [Pl.escutcheonref14_Rules.j1, if_neg (by decide), if_pos (by omega), if_pos (by omega), if_pos (by omega), hx, if_neg (by rw [Lib.toList_data, hc]; simp), if_pos (by omega), hb, hw1]
    by_cases h35 : c = 35
    · rw [if_pos (.inr (by rw [h35]; rfl))]
      refine hj1 false _ ?_ j2f
      rw [hb0, h35]
      rfl
    · rw [if_neg (by rintro (h | h); · cases h
                     · exact h35 (Option.some.inj h))]
      refine hj1 true _ ?_ ?_
      · rw [hb0]
        have : (((c.toNat : Nat) : Int) == 35) = false := beq_eq_false_iff_ne.2 fun h => h35 (UInt8.toNat_inj.1 (by show _ = 35; omega))
        show (!(_ == _)) = true
        rw [this]
        rfl
      · have hwd := words_ev s (by omega)
        refine Ev.step (f := fun k => (Pl.escutcheonref14_words.f k s).bind fun t128 => (if (t128.length : Int) = 4 then (if 0 < (t128.length : Int) then (if 1 < (t128.length : Int) then (if 3 < (t128.length : Int) then (Pl.escutcheonref14_Rules.l1 k t acc ((m + 1 : Nat) : Int) ((i + 1 : Nat) : Int) (i : Int) s t128 0 ((rdOf ByteArray.empty t128 0).toList == ([97, 108, 108, 111, 119] : List UInt8)) (rdOf ByteArray.empty t128 1) (-1) (rdOf ByteArray.empty t128 3)) else (none)) else (none)) else (none)) else (some (([] : List Pa.S45), ((m + 1 : Nat) : Int), false)))) (fun k => ?_) (Ev.bind hwd ?_)
        · show Pl.escutcheonref14_Rules.j2 (k + 1) t acc ((m + 1 : Nat) : Int) ((i + 1 : Nat) : Int) (i : Int) s true = _
          rw [Pl.escutcheonref14_Rules.j2, if_pos rfl]
        · by_cases h4 : (wordsL s).length = 4
          · match hwl : wordsL s, h4 with
            | [w0, w1, w2, w3], _ =>
              refine Ev.congr (f := fun k => Pl.escutcheonref14_Rules.l1 k t acc ((m + 1 : Nat) : Int) ((i + 1 : Nat) : Int) (i : Int) s [w0, w1, w2, w3] 0 (w0.toList == [97, 108, 108, 111, 119]) w1 (-1) w3) (fun k => by rfl) ?_
              refine tail_gen t s hsz acc hacc _ _ _ w0 w1 w2 w3 hwl _ ?_
              by_cases hok : lineOk s = true
              · rw [if_pos hok, if_pos hok]
                by_cases h40 : acc.length = 40
                · rw [if_pos h40, if_pos h40]
                · rw [if_neg h40, if_neg h40, ruleX_four hwl, hwm, hw1]
                  exact hnext _ (by rw [List.length_append, List.length_singleton]; omega)
              · rw [if_neg hok, if_neg hok]
          · have hno : lineOk s = false := by
              unfold lineOk
              split
              · rename_i w0 w1 w2 w3 e
                exact absurd (by unfold wordsL; rw [e]; rfl) h4
              · rfl
            rw [hno, if_neg (by decide)]
            exact Ev.congr (fun k => by rw [if_neg (by omega)]) (Ev.now _)

theorem drop_split (t : ByteArray) (f i : Nat) (hfi : f ≤ i) (hi : i < t.size) (h10 : t.data.toList.getD i 0 = 10) : t.data.toList.drop f = (t.extract f i).data.toList ++ 10 :: t.data.toList.drop (i + 1) := by
  have hl : i < t.data.toList.length := by rw [← Lib.size_eq]; exact hi
  have h1 : t.data.toList.drop f = (t.data.toList.drop f).take (i - f) ++ (t.data.toList.drop f).drop (i - f) := (List.take_append_drop _ _).symm
  rw [List.drop_drop, show f + (i - f) = i by omega, List.drop_eq_getElem_cons hl] at h1
  have h2 : t.data.toList[i] = 10 := by rw [List.getD_eq_getElem?_getD, List.getElem?_eq_getElem hl] at h10; exact h10
  rw [h2] at h1
  rw [Lib.extract_data]
  exact h1
theorem drop_last (t : ByteArray) (f : Nat) : t.data.toList.drop f = (t.extract f t.size).data.toList := by
  rw [Lib.extract_data, List.take_of_length_le]
  rw [List.length_drop, Lib.size_eq]
  exact Nat.le_refl _
theorem line_no (t : ByteArray) (f i : Nat) (hi : i ≤ t.size) (hno : ∀ j, f ≤ j → j < i → t.data.toList.getD j 0 ≠ 10) : (10 : UInt8) ∉ (t.extract f i).data.toList := by
  intro h
  rw [Lib.extract_data, List.mem_iff_getElem?] at h
  obtain ⟨j, hj⟩ := h
  rw [List.getElem?_take] at hj
  split at hj
  · rename_i hlt
    rw [List.getElem?_drop] at hj
    refine hno (f + j) (by omega) (by omega) ?_
    rw [List.getD_eq_getElem?_getD, hj]
    rfl
  · cases hj

def linesOf (l : List UInt8) : List ByteArray := (partsAt 10 l).map fun x => (⟨x.toArray⟩ : ByteArray)

theorem rules_is (t : ByteArray) (ht : t.size ≤ 5000) : ∀ (d i f : Nat) (acc : List Pa.S45) (m : Nat), f ≤ i → i + d = t.size → (∀ j, f ≤ j → j < i → t.data.toList.getD j 0 ≠ 10) → m ≤ i → acc.length ≤ 40 →
    Ev (fun k => Pl.escutcheonref14_Rules.l0 k t acc ((m + 1 : Nat) : Int) (f : Int) (i : Int)) (parseL (linesOf (t.data.toList.drop f)) acc m) := by
  intro d
  induction d with
  | zero =>
    intro i f acc m hfi hi hno hm hacc
    obtain rfl : i = t.size := by omega
    refine Ev.step (f := fun k => Pl.escutcheonref14_Rules.j1 k t acc ((m + 1 : Nat) : Int) (f : Int) (t.size : Int) false) (fun k => ?_) ?_
    · show Pl.escutcheonref14_Rules.l0 (k + 1) t acc ((m + 1 : Nat) : Int) (f : Int) (t.size : Int) = _
      rw [Pl.escutcheonref14_Rules.l0, if_pos (by omega), if_neg (by omega)]
    · have hl : linesOf (t.data.toList.drop f) = t.extract f t.size :: [] := by
        unfold linesOf
        rw [drop_last, partsAt_no 10 _ (line_no t f t.size (Nat.le_refl _) hno), List.map_cons, List.map_nil]
      rw [hl]
      refine line_gen t ht f t.size hfi (Nat.le_refl _) acc hacc m (by omega) [] (fun acc' h' => ?_)
      refine Ev.step (f := fun _ => some (acc', 0, true)) (fun k => ?_) (Ev.now _)
      show Pl.escutcheonref14_Rules.l0 (k + 1) t acc' ((m + 2 : Nat) : Int) ((t.size + 1 : Nat) : Int) ((t.size + 1 : Nat) : Int) = _
      rw [Pl.escutcheonref14_Rules.l0, if_neg (by omega)]
  | succ d ih =>
    intro i f acc m hfi hi hno hm hacc
    have hlt : i < t.size := by omega
    have hb := bt_get t i hlt
    by_cases h10 : t.data.toList.getD i 0 = 10
    · refine Ev.step (f := fun k => Pl.escutcheonref14_Rules.j1 k t acc ((m + 1 : Nat) : Int) (f : Int) (i : Int) false) (fun k => ?_) ?_
      · show Pl.escutcheonref14_Rules.l0 (k + 1) t acc ((m + 1 : Nat) : Int) (f : Int) (i : Int) = _
        rw [Pl.escutcheonref14_Rules.l0, if_pos (by omega), if_pos (by omega), if_pos (by omega), hb, h10]
        rfl
      · have hl : linesOf (t.data.toList.drop f) = t.extract f i :: linesOf (t.data.toList.drop (i + 1)) := by
          unfold linesOf
          rw [drop_split t f i hfi hlt h10, partsAt_app 10 _ _ (line_no t f i (by omega) hno), List.map_cons]
        rw [hl]
        exact line_gen t ht f i hfi (by omega) acc hacc m (by omega) _ (fun acc' h' => ih (i + 1) (i + 1) acc' (m + 1) (Nat.le_refl _) (by omega) (fun j h1 h2 => by omega) (by omega) h')
    · have hbn : (bt t (i : Int) != 10) = true := by
        rw [hb]
        have : (((t.data.toList.getD i 0).toNat : Int) == 10) = false := beq_eq_false_iff_ne.2 fun h => h10 (UInt8.toNat_inj.1 (by show _ = 10; omega))
        show (!(_ == _)) = true
        rw [this]
        rfl
      refine Ev.step (f := fun k => Pl.escutcheonref14_Rules.j1 k t acc ((m + 1 : Nat) : Int) (f : Int) (i : Int) true) (fun k => ?_) ?_
      · show Pl.escutcheonref14_Rules.l0 (k + 1) t acc ((m + 1 : Nat) : Int) (f : Int) (i : Int) = _
        rw [Pl.escutcheonref14_Rules.l0, if_pos (by omega), if_pos (by omega), if_pos (by omega), hbn]
      · refine Ev.step (f := fun k => Pl.escutcheonref14_Rules.l0 k t acc ((m + 1 : Nat) : Int) (f : Int) ((i + 1 : Nat) : Int)) (fun k => ?_) (ih (i + 1) f acc m (by omega) (by omega) (fun j h1 h2 => ?_) (by omega) hacc)
        · show Pl.escutcheonref14_Rules.j1 (k + 1) t acc ((m + 1 : Nat) : Int) (f : Int) (i : Int) true = _
          rw [Pl.escutcheonref14_Rules.j1, if_pos rfl, wrap1 i (by omega)]
        · by_cases hj : j = i
          · rw [hj]; exact h10
          · exact hno j h1 (by omega)

theorem rulesT (t : ByteArray) (ht : t.size ≤ 5000) : Ev (fun k => Pl.escutcheonref14_Rules.f k t) (parseL (splitS t 10) [] 0) := by
  unfold Pl.escutcheonref14_Rules.f
  refine Ev.congr (f := fun k => Pl.escutcheonref14_Rules.l0 k t [] ((0 + 1 : Nat) : Int) ((0 : Nat) : Int) ((0 : Nat) : Int)) (fun k => by rw [if_neg (by omega)]; rfl) ?_
  have := rules_is t ht t.size 0 0 [] 0 (Nat.le_refl _) (by omega) (fun j h1 h2 => by omega) (Nat.le_refl _) (by decide)
  rw [List.drop_zero] at this
  rw [splitS_is]
  exact this
end Bot
end Go.Proofs.YthngjjeilcfhgaaGreatDoor

/- AclParses: the walk and the plain law, joined. -/
set_option linter.unusedVariables false
namespace Go.Proofs.YthngjjeilcfhgaaGreatDoor.Bk
open Go.RowKit Go.Proofs.YthngjjeilcfhgaaGreatDoorW.PrintWords Go.Proofs.YthngjjeilcfhgaaGreatDoorW.PrintLast Go.Proofs.YthngjjeilcfhgaaGreatDoor.Pa Go.Proofs.YthngjjeilcfhgaaGreatDoor.Acl Go.Proofs.YthngjjeilcfhgaaGreatDoor.Bot

theorem wrap_sum (a n : Nat) (h : a + n ≤ 100000) : wrap64 ((a : Int) + (n : Int)) = ((a + n : Nat) : Int) := by
  unfold wrap64
  omega

theorem mark_ev (i a n : Nat) (ha : a ≤ 20000) (hn : n ≤ 20000) : Ev (fun k => Pl.escutcheonbook_markRules.f k (i : Int) (a : Int) (n : Int)) (mkOf mkR i a n) := by
  have key : ∀ (d j : Nat), j + d = n → Ev (fun k => Pl.escutcheonbook_markRules.l0 k (i : Int) (a : Int) (n : Int) (mkOf mkR i a j) ((a + j : Nat) : Int)) (mkOf mkR i a n) := by
    intro d
    induction d with
    | zero =>
      intro j hj
      obtain rfl : j = n := by omega
      refine Ev.step (f := fun _ => some (mkOf mkR i a j)) (fun k => ?_) (Ev.now _)
      show Pl.escutcheonbook_markRules.l0 (k + 1) (i : Int) (a : Int) (j : Int) (mkOf mkR i a j) ((a + j : Nat) : Int) = _
      rw [Pl.escutcheonbook_markRules.l0, wrap_sum a j (by omega), if_neg (by omega)]
    | succ d ih =>
      intro j hj
      refine Ev.step (f := fun k => Pl.escutcheonbook_markRules.l0 k (i : Int) (a : Int) (n : Int) (mkOf mkR i a (j + 1)) ((a + (j + 1) : Nat) : Int)) (fun k => ?_) (ih (j + 1) (by omega))
      show Pl.escutcheonbook_markRules.l0 (k + 1) (i : Int) (a : Int) (n : Int) (mkOf mkR i a j) ((a + j : Nat) : Int) = _
      rw [Pl.escutcheonbook_markRules.l0, wrap_sum a n (by omega), if_pos (by omega), if_pos (by rw [mkOf_len]; omega), wrap1 (a + j) (by omega)]
      have e : mkOf mkR i a (j + 1) = mkOf mkR i a j ++ [mkR i (a + j)] := by unfold mkOf; rw [List.range_succ, List.map_append]; rfl
      rw [e]
      rfl
  exact key n 0 (by omega)

theorem same_ev' (l : List S45) (hn : l.length ≤ 100000) : Ev (fun k => Pl.escutcheonbook_SameRules.f k l l) true := by
  unfold Pl.escutcheonbook_SameRules.f
  refine Ev.congr (f := fun k => Pl.escutcheonbook_SameRules.l0 k l l 0) (fun k => by rw [if_pos rfl]) ?_
  refine same_ev l hn Pl.escutcheonbook_SameRules.l0 fun k i => ?_
  rw [Pl.escutcheonbook_SameRules.l0]
  by_cases h : (i : Int) < (l.length : Int)
  · rw [if_pos h, if_pos (by omega), if_pos h, if_pos (by simp), wrap1 i (by omega), if_pos h]
  · rw [if_neg h, if_neg h]

theorem copy_is (l : List S45) (h : l.length ≤ 40) : Pl.escutcheonbook_copyRules.f l = some l := by
  unfold Pl.escutcheonbook_copyRules.f
  rw [if_pos (by show 0 + l.length < _; omega)]
  rfl

theorem both_read (t : ByteArray) (ht : t.size ≤ 6000) : BothRead t := by
  by_cases h5 : t.size ≤ 5000
  · obtain ⟨k, hk⟩ := (parseT t h5).rounds
    obtain ⟨k', hk'⟩ := (rulesT t h5).rounds
    exact ⟨_, _, _, k, k', parseL_len _ _ _ (by decide), hk, hk'⟩
  · refine ⟨[], 0, false, 0, 0, by decide, ?_, ?_⟩
    · unfold Pb.acl_Parse.f
      rw [if_pos (by omega)]
    · unfold Pl.escutcheonref14_Rules.f
      rw [if_pos (by omega)]

theorem parses_all (a0 : ByteArray) (w : World) (hL : Laid w) (b0 : a0.size ≤ 140737488351232) : Calls Tryz.prog 3 #[.string a0] w fun e w' => e = .returned (.bool true) ∧ Below w.heap.size w w' :=
  parses_walk a0 w hL b0 (both_read a0) (fun i a n _ ha hn => (mark_ev i a n ha hn).rounds) (fun l hl => (same_ev' l (by omega)).rounds) copy_is
end Go.Proofs.YthngjjeilcfhgaaGreatDoor.Bk
