import Derived.Test.YtbfdaclekjgkfaaGreatDoorWWords
import Derived.Test.YtbfdaclekjgkfaaGreatDoorWLast
import Derived.Test.YtbfdaclekjgkfaaGreatDoorWTab
import Derived.Deep.DeepAppendRoom
import Derived.Deep.AppendSrc

/- Lists that a book keeps, whatever is in them: the memory they lie in, what is left of them. No program in sight. -/
set_option linter.unusedVariables false
namespace Go.Proofs.YtbfdaclekjgkfaaGreatDoor.Bk
open Go.RowKit Go.Proofs.YtbfdaclekjgkfaaGreatDoorW.PrintWords

/-- From W to w1 at most the blocks of S have turned. -/
structure Tch (S : Nat → Prop) (W w1 : World) : Prop where
  os : w1.os = W.os
  tape : w1.tape = W.tape
  output : w1.output = W.output
  size : W.heap.size ≤ w1.heap.size
  block : ∀ k, k < W.heap.size → ¬ S k → w1.heap[k]? = W.heap[k]?

namespace Tch
variable {S S' : Nat → Prop} {W w1 w2 : World}
theorem refl (S : Nat → Prop) (W : World) : Tch S W W := ⟨rfl, rfl, rfl, Nat.le_refl _, fun _ _ _ => rfl⟩
theorem trans (h : Tch S W w1) (k : Tch S' w1 w2) (hs : ∀ k, k < W.heap.size → S' k → S k) : Tch S W w2 :=
  ⟨k.os.trans h.os, k.tape.trans h.tape, k.output.trans h.output, Nat.le_trans h.size k.size, fun i hi hn => (k.block i (Nat.lt_of_lt_of_le hi h.size) (fun x => hn (hs i hi x))).trans (h.block i hi hn)⟩
theorem of_below (S : Nat → Prop) (h : Below W.heap.size W w1) : Tch S W w1 := ⟨h.os, h.tape, h.output, h.size, fun k hk _ => h.block k hk⟩
theorem of_grown {row : Option Nat} (h : W.grownBy w1 row) : Tch (fun k => row = some k) W w1 := ⟨h.os, h.tape, h.output, h.size, fun k hk hn => h.block k hk (fun e => hn e.symm)⟩
theorem mono (h : Tch S W w1) (hs : ∀ k, k < W.heap.size → S k → S' k) : Tch S' W w1 := ⟨h.os, h.tape, h.output, h.size, fun k hk hn => h.block k hk (fun x => hn (hs k hk x))⟩
theorem below {B : Nat} {w0 : World} (h : Tch S W w1) (hb : Below B w0 W) (hB : B ≤ W.heap.size) (hs : ∀ k, S k → B ≤ k) : Below B w0 w1 :=
  hb.trans ⟨h.os, h.tape, h.output, h.size, fun k hk => h.block k (Nat.lt_of_lt_of_le hk hB) (fun x => Nat.not_lt.2 (hs k x) hk)⟩
theorem below' (h : Tch S W w1) (hs : ∀ k, S k → W.heap.size ≤ k) : Below W.heap.size W w1 := h.below (Below.refl _ _) (Nat.le_refl _) hs
theorem set (W : World) (p : Addr) (u : Value) : Tch (fun k => k = p.block) W (W.setCell p u) :=
  ⟨rfl, rfl, rfl, by simp [World.setCell], fun k _ hn => Below.heap_setCell W p u k hn⟩
theorem cell (h : Tch S W w1) {p : Addr} (hp : p.block < W.heap.size) (hn : ¬ S p.block) : w1.cell? p = W.cell? p := World.cell?_of_block (h.block _ hp hn)
end Tch

abbrev OneV := {u : Value // u.oneCell' = true}
/-- Cells as they are. -/
def kv : Kd OneV := Kd.scalar Subtype.val (fun x => x.2)

def Flat {α : Type} (d : Kd α) : Prop := ∀ (w w1 : World) x cs, d.K w x cs → d.K w1 x cs
theorem flat_kv : Flat kv := fun _ _ _ _ h => h

section
variable {α : Type} {d : Kd α} {e se B : Nat} {W w1 : World} {u v : Value} {l : List α} {S : Nat → Prop} {ok : Nat → Prop} {vs : List OneV} {ls : List (List α)}

/-- A list that reads; its block is one of the type's. -/
structure Rd (d : Kd α) (e : Nat) (W : World) (u : Value) (l : List α) : Prop where
  ex : ∃ A c, u = .slice A l.length c ∧ l.length ≤ c ∧ d.C W A l.length l
  ty : ∀ k, u.ownBlock = some k → ∃ cells, W.heap[k]? = some (.cells cells e (0, 0))

theorem Rd.lt (h : Rd d e W u l) (k : Nat) (hk : u.ownBlock = some k) : k < W.heap.size := by
  obtain ⟨c, hc⟩ := h.ty k hk
  rcases Nat.lt_or_ge k W.heap.size with h | h
  · exact h
  · rw [Array.getElem?_eq_none h] at hc; cases hc

theorem add_block (a : Addr) (j : Nat) : (a.add j).block = a.block := by unfold Addr.add; split <;> rfl

theorem C_tch {A : Option Addr} {n : Nat} (hf : Flat d) (hC : d.C W A n l) (t : Tch S W w1) (hS : ∀ a, A = some a → a.block < W.heap.size ∧ ¬ S a.block) : d.C w1 A n l := by
  refine ⟨hC.1, hC.2.1, fun hp => ?_⟩
  obtain ⟨ad, rfl, hcell⟩ := hC.2.2 hp
  refine ⟨ad, rfl, fun j p hj => ?_⟩
  obtain ⟨cs, h1, h2, h3⟩ := hcell j p hj
  refine ⟨cs, h1, hf _ _ _ _ h2, fun i x hx => ?_⟩
  rw [World.cell?_of_block (w := W) (by rw [add_block]; exact t.block _ (hS _ rfl).1 (hS _ rfl).2)]
  exact h3 i x hx

theorem Rd.tch (hf : Flat d) (h : Rd d e W u l) (t : Tch S W w1) (hS : ∀ k, u.ownBlock = some k → ¬ S k) : Rd d e w1 u l := by
  have hlt := h.lt
  obtain ⟨⟨A, c, rfl, hc, hC⟩, hty⟩ := h
  refine ⟨⟨A, c, rfl, hc, C_tch hf hC t (fun a ha => ?_)⟩, fun k hk => ?_⟩
  · subst ha
    exact ⟨hlt _ rfl, hS _ rfl⟩
  · rw [t.block k (hlt k hk) (hS k hk)]
    exact hty k hk
theorem Rd.below (hf : Flat d) (h : Rd d e W u l) (hb : Below W.heap.size W w1) : Rd d e w1 u l := h.tch hf (Tch.of_below (fun _ => False) hb) (fun _ _ x => x)

theorem R_typed (h : d.R e W B ok u l) (k : Nat) (hk : u.ownBlock = some k) : ∃ cells, W.heap[k]? = some (.cells cells e (0, 0)) := by
  obtain ⟨inner, ho⟩ := Kd.R_own h
  exact own_typed ho k hk

theorem Rd.of_R (h : d.R e W B ok u l) : Rd d e W u l := ⟨Kd.R_reads h, R_typed h⟩

theorem R_self (hE : d.E = []) (h : d.R e W B ok u l) : d.R e W B (fun k => u.ownBlock = some k) u l := by
  obtain ⟨h0, inner, ho, hr⟩ := h
  refine ⟨fun k hk => hk, inner, ho, hr.imp_ (fun _ _ hp => d.M_mono (fun k hk => ?_) (d.M_bound hp))⟩
  obtain ⟨_, _, _, q, hq, _⟩ := hk
  rw [hE] at hq
  cases hq

theorem R_tch (hE : d.E = []) (h : d.R e W B ok u l) (t : Tch S W w1) (hS : ∀ k, u.ownBlock = some k → ¬ S k) : d.R e w1 B (fun _ => True) u l :=
  Kd.R_mono (Kd.R_step (R_self hE h) (fun k hk hlt => t.block k hlt (hS k hk))) (fun _ _ => trivial)

/-- Two rows of other types lie apart. -/
theorem Rd.apart {β : Type} {d' : Kd β} {e' : Nat} {l' : List β} (h : Rd d e W u l) (h' : Rd d' e' W v l') (ht : e ≠ e') (k : Nat) (hk : u.ownBlock = some k) : v.ownBlock ≠ some k := by
  intro hk'
  obtain ⟨c, hc⟩ := h.ty k hk
  obtain ⟨c', hc'⟩ := h'.ty k hk'
  rw [hc] at hc'
  injection hc' with hc'
  injection hc' with _ hc'
  exact ht hc'

/-- A row of lists, each of the call's own, and all apart. -/
structure Lists (d : Kd α) (e se : Nat) (W : World) (B : Nat) (v : Value) (vs : List OneV) (ls : List (List α)) : Prop where
  outer : kv.R se W B (fun _ => True) v vs
  len : ls.length = vs.length
  each : ∀ (j : Nat) (u : OneV) (l : List α), vs[j]? = some u → ls[j]? = some l → d.R e W B (fun _ => True) u.1 l
  dis : ∀ (i j : Nat) (a b : OneV) (k : Nat), i ≠ j → vs[i]? = some a → vs[j]? = some b → a.1.ownBlock = some k → b.1.ownBlock ≠ some k

/-- A row of lists that reads. -/
structure Has (d : Kd α) (e se : Nat) (W : World) (v : Value) (vs : List OneV) (ls : List (List α)) : Prop where
  outer : Rd kv se W v vs
  len : ls.length = vs.length
  each : ∀ (j : Nat) (u : OneV) (l : List α), vs[j]? = some u → ls[j]? = some l → Rd d e W u.1 l

theorem Lists.has (h : Lists d e se W B v vs ls) : Has d e se W v vs ls := ⟨Rd.of_R h.outer, h.len, fun j u l hu hl => Rd.of_R (h.each j u l hu hl)⟩

theorem Has.tch (hf : Flat d) (h : Has d e se W v vs ls) (t : Tch S W w1) (ho : ∀ k, v.ownBlock = some k → ¬ S k) (hi : ∀ (j : Nat) (u : OneV) k, vs[j]? = some u → u.1.ownBlock = some k → ¬ S k) : Has d e se w1 v vs ls :=
  ⟨h.outer.tch flat_kv t ho, h.len, fun j u l hu hl => (h.each j u l hu hl).tch hf t (fun k hk => hi j u k hu hk)⟩
theorem Has.below (hf : Flat d) (h : Has d e se W v vs ls) (hb : Below W.heap.size W w1) : Has d e se w1 v vs ls := h.tch hf (Tch.of_below (fun _ => False) hb) (fun _ _ x => x) (fun _ _ _ _ _ x => x)

theorem Lists.tch (hE : d.E = []) (h : Lists d e se W B v vs ls) (t : Tch S W w1) (ho : ∀ k, v.ownBlock = some k → ¬ S k) (hi : ∀ (j : Nat) (u : OneV) k, vs[j]? = some u → u.1.ownBlock = some k → ¬ S k) : Lists d e se w1 B v vs ls :=
  ⟨R_tch rfl h.outer t ho, h.len, fun j u l hu hl => R_tch hE (h.each j u l hu hl) t (fun k hk => hi j u k hu hk), h.dis⟩
theorem Lists.below (hE : d.E = []) (h : Lists d e se W B v vs ls) (hb : Below W.heap.size W w1) : Lists d e se w1 B v vs ls := h.tch hE (Tch.of_below (fun _ => False) hb) (fun _ _ x => x) (fun _ _ _ _ _ x => x)

theorem Lists.nil (d : Kd α) (e se : Nat) (W : World) (B : Nat) : Lists d e se W B (.slice none 0 0) [] [] :=
  ⟨Kd.R_nil _ _ _ _ _, rfl, fun j u l hu => by simp at hu, fun i j a b k _ ha => by simp at ha⟩

theorem Has.form (h : Has d e se W v vs ls) : ∃ A c, v = .slice A ls.length c ∧ ls.length ≤ c := by
  obtain ⟨⟨A, c, rfl, hc, _⟩, _⟩ := h.outer
  rw [h.len]
  exact ⟨A, c, rfl, hc⟩

theorem some_lt {β : Type} {xs : List β} {i : Nat} {x : β} (h : xs[i]? = some x) : i < xs.length := by
  rcases Nat.lt_or_ge i xs.length with hh | hh
  · exact hh
  · rw [List.getElem?_eq_none hh] at h; cases h
theorem lt_some {β : Type} {xs : List β} {i : Nat} (h : i < xs.length) : ∃ x, xs[i]? = some x := ⟨xs[i], List.getElem?_eq_getElem h⟩

theorem kv_cell {A : Option Addr} {n : Nat} (h : kv.C W A n vs) (i : Nat) (u : OneV) (hu : vs[i]? = some u) : ∃ ad, A = some ad ∧ W.cell? (ad.add i) = some u.1 := by
  have hi := some_lt hu
  obtain ⟨ad, rfl, hc⟩ := h.2.2 (by have := h.1; omega)
  obtain ⟨c, h1, h2, h3⟩ := hc i u hu
  obtain rfl : c = [u.1] := h2
  refine ⟨ad, rfl, ?_⟩
  have := h3 0 u.1 rfl
  rwa [show i * kv.sz + 0 = i from by show i * 1 + 0 = i; omega] at this

/-- The list at a place: where its value lies, and that it reads. -/
theorem Has.at {A : Option Addr} {n c : Nat} (h : Has d e se W (.slice A n c) vs ls) (i : Nat) (l : List α) (hl : ls[i]? = some l) :
    ∃ ad A' c', A = some ad ∧ W.cell? (ad.add i) = some (.slice A' l.length c') ∧ l.length ≤ c' ∧ d.C W A' l.length l := by
  have hi := some_lt hl
  have hu : vs[i]? = some (vs[i]'(by have := h.len; omega)) := List.getElem?_eq_getElem _
  obtain ⟨⟨A0, c0, he, hc, hC⟩, _⟩ := h.outer
  injection he with h1 h2 h3
  subst h1
  obtain ⟨ad, hA, hcell⟩ := kv_cell hC i _ hu
  obtain ⟨⟨A', c', hx, hc', hC'⟩, _⟩ := h.each i _ l hu hl
  rw [hx] at hcell
  exact ⟨ad, A', c', hA, hcell, hc', hC'⟩

theorem drawn_cell {w W : World} (h : Drawn0 w W) (a : Addr) : W.cell? a = w.cell? a := by
  obtain ⟨n, rfl⟩ := h.out
  rfl
theorem drawn_heap {w W : World} (h : Drawn0 w W) : W.heap = w.heap := by
  obtain ⟨n, rfl⟩ := h.out
  rfl
theorem drewN_heap (w : World) (n : Nat) : (w.drewN n).heap = w.heap := by
  induction n with
  | zero => rfl
  | succ n ih => exact ih
end
end Go.Proofs.YtbfdaclekjgkfaaGreatDoor.Bk

/- append on a row of the call's own: what the old row reads afterwards. No program in sight. -/
set_option linter.unusedVariables false
namespace Go.Proofs.YtbfdaclekjgkfaaGreatDoor.Bk
open Go.RowKit Go.Proofs.YtbfdaclekjgkfaaGreatDoorW.PrintWords

theorem le63 (x : Nat) (h : x ≤ 140737488355328) : (x : Int) ≤ 9223372036854775807 := by omega
theorem add_at (b j : Nat) : (⟨b, 0, none⟩ : Addr).add j = ⟨b, j, none⟩ := by
  rw [Addr.add_lit, Nat.zero_add]
section
variable {P : Program} (w : World)
/-- The old row's block is the new row's, or is left as it was. -/
theorem run_append_keeps (base : Nat) (t ty e : TypeId) (i : TypeInfo) (z : Value) (size bytes : Nat) (ht : P.underlying t = some (.slice e)) (hi : P.info? e = some i) (hz : i.zero = some z) (hsize : i.size = size) (hby : i.bytes = bytes) (hb0 : 0 < bytes)
    (v : Value) (n : Nat) (xs : List Value) (hown : w.ownsRow base e size v n xs)
    (a : Addr) (m c : Nat) (news : List Value) (hl : news.length = m * size) (hnews : ∀ j u, news[j]? = some u → w.cell? (a.add j) = some u) (h1 : ∀ u ∈ news, u.oneCell' = true)
    (hbytes : (n + m) * bytes ≤ 140737488355328)
    {v' : Value} {w' : World} (hr : (Builtin.append_ #[t, t] ty #[v, .slice (some a) m c]).run P w = .ok v' w') : ∀ g, v.ownBlock = some g → v'.ownBlock = some g ∨ w'.heap[g]? = w.heap[g]? := by
  intro g hg
  have hown0 := hown
  subst hsize
  subst hby
  have hnm : n + m ≤ 140737488355328 := Nat.le_trans (Nat.le_mul_of_pos_right _ hb0) hbytes
  rcases hown.2 with ⟨rfl, _⟩ | ⟨g', cap, cur, rfl, _, hh, hnc, hcm, hcs, htk⟩
  · simp [Value.ownBlock] at hg
  obtain rfl : g' = g := by simpa [Value.ownBlock] using hg
  by_cases hroom : n + m ≤ cap
  · obtain ⟨w2, hr2, _, _⟩ := run_append_own_spare (P := P) w base t ty e i i.size ht hi rfl g' n cap xs hown0 a m c news hl hnews h1 hroom
    rw [hr2] at hr
    injection hr with hv hw
    exact .inl (by rw [← hv]; rfl)
  · have hlt : g' < w.heap.size := own_lt hown0 g' rfl
    have hold : (Builtin.firstCells i.size n (.slice (some ⟨g', 0, none⟩) n cap)).run P w.drew = .ok xs.toArray w.drew := by
      refine run_firstCells_some w.drew i.size n ⟨g', 0, none⟩ n cap xs hown0.1 (fun j u hu => ?_)
      have hx : xs = cur.toList.take (n * i.size) := htk.symm
      rw [hx, List.getElem?_take] at hu
      split at hu
      · rw [add_at]
        show w.cell? ⟨g', j, none⟩ = some u
        rw [cell_of_row w g' j cur e (0, 0) hh]
        simpa using hu
      · cases hu
    have hr2 := run_append_grow_src (P := P) w t t ty e i z ht hi hz (some ⟨g', 0, none⟩) n cap xs hold (.slice (some a) m c) m news (Src.ofSlice w ht a m c news hl hnews h1) (by omega) (le63 _ hnm)
      (growslice_fits (by omega) hbytes)
    rw [hr2] at hr
    injection hr with hv hw
    refine .inr ?_
    rw [← hw]
    exact Below.heap_alloc w.drew _ g' hlt
end

section
variable {P : Program} {α : Type}
/-- append(v, ys...) as a run: the law of the words, with the run's own equation. -/
theorem run_R_append (d : Kd α) {Rr : α → List Value → Prop} {w0 W : World} (base : Nat) (t ty e : TypeId) (z : Value) (bytes : Nat)
    (ht : P.underlying t = some (.slice e)) (hinfo : (P.info? e).map (fun i => (i.zero, i.size, i.bytes)) = some (some z, d.sz, bytes)) (hz : z.cells.size = d.sz) (hs0 : 0 < d.sz) (hb0 : 0 < bytes)
    (v : Value) (xs ys : List α) (A : Option Addr) (m c : Nat) (ok okp : Nat → Prop)
    (HO : d.R e W base ok v xs) (HR : ReadsRow Rr d.sz W A m ys) (hKM : ∀ x cs, Rr x cs → d.M W base okp x cs) (hokp : ∀ k, okp k → ok k ∧ some k ≠ v.ownBlock) (hfresh : ∀ k, W.heap.size ≤ k → ok k)
    (HB : Below base w0 W) (hbase : base ≤ W.heap.size) (hl : (xs.length + m) * bytes ≤ 140737488355328) :
    ∃ v1 w1, (Builtin.append_ #[t, t] ty #[v, .slice A m c]).run P W = .ok v1 w1 ∧ d.R e w1 base ok v1 (xs ++ ys) ∧ Below base w0 w1 ∧ W.grownBy w1 v.ownBlock ∧ (v1.ownBlock = v.ownBlock ∨ ∃ b, v1.ownBlock = some b ∧ W.heap.size ≤ b) := by
  have H : wpList P #[] (fun ex a' w1 => ex = .normal ∧ ∃ v1, a' = (⟨#[v1, v, .slice A m c], []⟩ : Act) ∧ d.R e w1 base ok v1 (xs ++ ys) ∧ Below base w0 w1 ∧ W.grownBy w1 v.ownBlock ∧ (v1.ownBlock = v.ownBlock ∨ ∃ b, v1.ownBlock = some b ∧ W.heap.size ≤ b))
      [{ dst := some 0, op := .call { callee := .builtin .append, args := #[.tmp 1, .tmp 2], argTypes := #[t, t] }, type := ty, pos := "", after := #[], guard := none }] ⟨#[undef, v, .slice A m c], []⟩ W := by
    refine Kd.R_append_rows d (w0 := w0) base rfl (.tmp 1) (.tmp 2) t e z bytes rfl ht hinfo hz hs0 hb0 v xs ys A m c ok okp rfl rfl HO HR hKM hokp hfresh HB hbase hl ?_
    intro v1 w1 h1 h2 h3 h4
    exact ⟨rfl, v1, rfl, h1, h2, h3, h4⟩
  unfold wpList at H
  simp only [Region.wanted, if_true] at H
  rcases H with H | ⟨_, a', w', H, _⟩
  · unfold Oper.wp execOp at H
    simp only [resolve, invoke, builtin, Sem.run_bind, Sem.run_pure, Result.andThen_ok, List.map_toArray, List.map_cons, List.map_nil] at H
    have e1 : Act.eval (⟨#[undef, v, .slice A m c], []⟩ : Act) (.tmp 1) = v := rfl
    have e2 : Act.eval (⟨#[undef, v, .slice A m c], []⟩ : Act) (.tmp 2) = .slice A m c := rfl
    rw [e1, e2] at H
    cases hr : (Builtin.append_ #[t, t] ty #[v, .slice A m c]).run P W with
    | ok v1 w1 =>
      rw [hr] at H
      obtain ⟨_, v2, ha, r⟩ := H
      have hv : v1 = v2 := by
        have := congrArg (fun x : Act => x.tmps.getD 0 undef) ha
        exact this
      subst hv
      exact ⟨v1, w1, rfl, r⟩
    | halt x w1 =>
      rw [hr] at H
      cases x <;> first | exact H.elim | (obtain ⟨h, _⟩ := H; cases h)
  · cases H

/-- append(v, ys...) on a row of the call's own: as in the words, and the old row's block is the new one's, or stays. -/
theorem R_append_old {ops : Array Oper} {rest : List Oper} {o : Oper} {a : Act} {Q : Exit → Act → World → Prop} (d : Kd α) {Rr : α → List Value → Prop} {w0 W : World} (base : Nat) (hgd : o.guard = none) (s x : Operand) (t e : TypeId) (z : Value) (bytes : Nat)
    (ho : o.op = .call { callee := .builtin .append, args := #[s, x], argTypes := #[t, t] })
    (ht : P.underlying t = some (.slice e)) (hinfo : (P.info? e).map (fun i => (i.zero, i.size, i.bytes)) = some (some z, d.sz, bytes)) (hz : z.cells.size = d.sz) (hs0 : 0 < d.sz) (hb0 : 0 < bytes)
    (v : Value) (xs ys : List α) (A : Option Addr) (m c : Nat) (ok okp : Nat → Prop) (hs : a.eval s = v) (hx : a.eval x = .slice A m c)
    (HO : d.R e W base ok v xs) (HR : ReadsRow Rr d.sz W A m ys) (hKM : ∀ x cs, Rr x cs → d.M W base okp x cs) (hokp : ∀ k, okp k → ok k ∧ some k ≠ v.ownBlock) (hfresh : ∀ k, W.heap.size ≤ k → ok k)
    (HB : Below base w0 W) (hbase : base ≤ W.heap.size) (hl : (xs.length + m) * bytes ≤ 140737488355328)
    (h : ∀ v1 w1, d.R e w1 base ok v1 (xs ++ ys) → Below base w0 w1 → W.grownBy w1 v.ownBlock → (v1.ownBlock = v.ownBlock ∨ ∃ b, v1.ownBlock = some b ∧ W.heap.size ≤ b) → (∀ g, v.ownBlock = some g → v1.ownBlock = some g ∨ w1.heap[g]? = W.heap[g]?) → wpList P ops Q rest (a.put o.dst v1) w1) :
    wpList P ops Q (o :: rest) a W := by
  obtain ⟨v1, w1, hr, h1, h2, h3, h4⟩ := run_R_append (P := P) d (w0 := w0) base t o.type e z bytes ht hinfo hz hs0 hb0 v xs ys A m c ok okp HO HR hKM hokp hfresh HB hbase hl
  have hk : ∀ g, v.ownBlock = some g → v1.ownBlock = some g ∨ w1.heap[g]? = W.heap[g]? := by
    obtain ⟨i0, hi, hzz⟩ := Option.map_eq_some_iff.1 hinfo
    simp only [Prod.mk.injEq] at hzz
    obtain ⟨hz0, hz1, hz2⟩ := hzz
    obtain ⟨inner, hown⟩ := Kd.R_own HO
    have hm : ys.length = m := HR.1
    rcases A with _ | ad
    · have h0 : m = 0 := by
        rcases Nat.eq_zero_or_pos m with h0 | h0
        · exact h0
        · obtain ⟨ad, h, _⟩ := HR.2.2 h0
          cases h
      subst h0
      obtain rfl : ys = [] := List.eq_nil_of_length_eq_zero hm
      rcases hown.2 with ⟨rfl, _⟩ | ⟨g, cap, cur, rfl, _, _, hnc, _⟩
      · intro g hg
        cases hg
      · have hrun : (Builtin.append_ #[t, t] o.type #[.slice (some ⟨g, 0, none⟩) xs.length cap, .slice none 0 c]).run P W = .ok (.slice (some ⟨g, 0, none⟩) xs.length cap) W := by
          simp [Builtin.append_, run_underlying ht, sizeOf, typeInfo, hi, Builtin.lenOf, Builtin.firstCells, hnc, storeCells]
        rw [hrun] at hr
        injection hr with hv hw
        subst hw
        exact fun _ _ => .inr rfl
    · obtain ⟨news, hnr, hnc⟩ := ReadsRow.inner_ HR
      refine run_append_keeps (P := P) W base t o.type e i0 z d.sz bytes ht hi hz0 hz1 hz2 hb0 v xs.length inner hown ad m c news (by rw [hnr.1, hm]) hnc ?_ hl hr
      intro u hu
      obtain ⟨q, hq, rfl⟩ := List.mem_iff_getElem.1 hu
      have hql : q / d.sz < ys.length := by
        rw [Nat.div_lt_iff_lt_mul hs0, ← hnr.1]
        exact hq
      refine d.K_one (d.K_of_M (hKM _ _ (hnr.2 (q / d.sz) _ (List.getElem?_eq_getElem hql)))) _ ?_
      rw [List.mem_iff_getElem?]
      refine ⟨q % d.sz, ?_⟩
      rw [List.getElem?_take, if_pos (Nat.mod_lt _ hs0), List.getElem?_drop, Nat.mul_comm, Nat.div_add_mod, List.getElem?_eq_getElem hq]
  refine wpList_plain hgd fun K hK => ?_
  unfold Oper.wp execOp
  simp only [ho, resolve, invoke, builtin, Sem.run_bind, Sem.run_pure, Result.andThen_ok, List.map_toArray, List.map_cons, List.map_nil, hs, hx, hr]
  exact hK _ _ (h v1 w1 h1 h2 h3 h4 hk)

theorem exec_append {o : Oper} {a : Act} {s x : Operand} {t : TypeId} {v y v1 : Value} {W w1 : World} (ho : o.op = .call { callee := .builtin .append, args := #[s, x], argTypes := #[t, t] }) (hs : a.eval s = v) (hx : a.eval x = y)
    (hr : (Builtin.append_ #[t, t] o.type #[v, y]).run P W = .ok v1 w1) : (execOp a.eval o).run P W = .ok (.value v1) w1 := by
  unfold execOp
  simp only [ho, resolve, invoke, builtin, Sem.run_bind, Sem.run_pure, Result.andThen_ok, List.map_toArray, List.map_cons, List.map_nil, hs, hx, hr]

/-- One cell of its own block, read as a row. -/
theorem one_row {W : World} {b se : Nat} {y : OneV} (h : W.heap[b]? = some (.cells #[y.1] se (0, 0))) : kv.C W (some ⟨b, 0, none⟩) 1 [y] := by
  refine ⟨rfl, by decide, fun _ => ⟨⟨b, 0, none⟩, rfl, fun j p hj => ?_⟩⟩
  match j, hj with
  | 0, hj =>
    obtain rfl := Option.some.inj hj
    refine ⟨[y.1], rfl, rfl, fun i u hu => ?_⟩
    match i, hu with
    | 0, hu =>
      obtain rfl := Option.some.inj hu
      rw [add_at]
      exact (blk_cell h _).trans rfl

theorem R_off {d : Kd α} {e t g B : Nat} {W : World} {ok : Nat → Prop} {u : Value} {l : List α} {cs : Array Value} (h : d.R e W B ok u l) (hb : W.heap[g]? = some (.cells cs t (0, 0))) (ht : e ≠ t) (k : Nat) (hk : u.ownBlock = some k) : ¬ k = g := by
  rintro rfl
  obtain ⟨c, hc⟩ := R_typed h k hk
  rw [hc] at hb
  injection hb with hb
  injection hb with _ hb
  exact ht hb
end
end Go.Proofs.YtbfdaclekjgkfaaGreatDoor.Bk

/- Lists that are marked, and grown: what holds from round to round. No program in sight. -/
set_option linter.unusedVariables false
namespace Go.Proofs.YtbfdaclekjgkfaaGreatDoor.Bk
open Go.RowKit Go.Proofs.YtbfdaclekjgkfaaGreatDoorW.PrintWords

theorem halt_ {p : Prop} (h : Hid p) : p := h
section
variable {α : Type} {d : Kd α} {e se B : Nat} {w W w1 : World} {u v : Value} {l : List α} {vs : List OneV} {cur : List (List α)} {f : Nat → Nat → α}

/-- n marks of list i, from a number on. -/
def mkOf (f : Nat → Nat → α) (i from_ n : Nat) : List α := (List.range n).map fun k => f i (from_ + k)
theorem mkOf_len (f : Nat → Nat → α) (i a n : Nat) : (mkOf f i a n).length = n := by simp [mkOf]
theorem mkOf_get (f : Nat → Nat → α) (i a n k : Nat) (h : k < n) : (mkOf f i a n)[k]? = some (f i (a + k)) := by simp [mkOf, h]
theorem mkOf_add (f : Nat → Nat → α) (i n m : Nat) : mkOf f i 0 n ++ mkOf f i n m = mkOf f i 0 (n + m) := by
  apply List.ext_getElem?
  intro k
  by_cases h : k < n
  · rw [List.getElem?_append_left (by rw [mkOf_len]; exact h), mkOf_get _ _ _ _ _ h, mkOf_get _ _ _ _ _ (by omega)]
  · rw [List.getElem?_append_right (by rw [mkOf_len]; omega), mkOf_len]
    by_cases h2 : k < n + m
    · rw [mkOf_get _ _ _ _ _ (by omega), mkOf_get _ _ _ _ _ h2]
      congr 2
      omega
    · rw [List.getElem?_eq_none (by rw [mkOf_len]; omega), List.getElem?_eq_none (by rw [mkOf_len]; omega)]

def Marked (f : Nat → Nat → α) (cur : List (List α)) (i : Nat) : Prop := ∀ j l, j < i → cur[j]? = some l → l = mkOf f j 0 l.length
def Small (N : Nat) (cur : List (List α)) : Prop := ∀ l ∈ cur, l.length ≤ N
/-- The lists' own blocks. -/
def In (vs : List OneV) (k : Nat) : Prop := ∃ (j : Nat) (u : OneV), vs[j]? = some u ∧ u.1.ownBlock = some k

/-- The first i lists are marked. -/
structure PutI (f : Nat → Nat → α) (d : Kd α) (e se : Nat) (W : World) (B : Nat) (v : Value) (vs : List OneV) (n N i : Nat) (w1 : World) : Prop where
  ex : ∃ cur, cur.length = n ∧ Marked f cur i ∧ Small N cur ∧ Lists d e se w1 B v vs cur
  tch : Tch (In vs) W w1
/-- .. and of list i, of M elements, the first k. -/
structure PutK (f : Nat → Nat → α) (d : Kd α) (e se : Nat) (W : World) (B : Nat) (v : Value) (vs : List OneV) (n N i M : Nat) (mv : Value) (k : Nat) (w1 : World) : Prop where
  ex : ∃ cur l, cur.length = n ∧ Marked f cur i ∧ Small N cur ∧ cur[i]? = some l ∧ l.length = M ∧ (∀ j, j < k → l[j]? = some (f i j)) ∧ Lists d e se w1 B v vs cur
  tch : Tch (In vs) W w1
  rd : Rd d e w1 mv (mkOf f i 0 M)
  far : ∀ k, mv.ownBlock = some k → W.heap.size ≤ k

theorem PutI.start {n N : Nat} (h : Lists d e se W B v vs cur) (hn : cur.length = n) (hN : Small N cur) : PutI f d e se W B v vs n N 0 W :=
  ⟨⟨cur, hn, fun j l hj => by omega, hN, h⟩, Tch.refl _ _⟩

theorem PutI.inner {n N i : Nat} (hf : Flat d) (hE : d.E = []) {mv : Value} (h : PutI f d e se W B v vs n N i w) {cur : List (List α)} (hn : cur.length = n) (hm : Marked f cur i) (hN : Small N cur) (hL : Lists d e se w B v vs cur) (hl : cur[i]? = some l)
    (hr : d.R e w1 w.heap.size (fun _ => True) mv (mkOf f i 0 l.length)) (hb : Below w.heap.size w w1) : PutK f d e se W B v vs n N i l.length mv 0 w1 :=
  ⟨⟨cur, l, hn, hm, hN, hl, rfl, fun j hj => by omega, hL.below hE hb⟩, h.tch.trans (Tch.of_below (fun _ => False) hb) (fun _ _ x => x.elim), Rd.of_R hr,
    fun k hk => Nat.le_trans h.tch.size (Kd.R_base hr k hk)⟩

/-- A store into list i. -/
theorem Lists.stored (hE : d.E = []) (hne : e ≠ se) (h : Lists d e se W B v vs cur) {i : Nat} {u : OneV} {l' : List α} (hu : vs[i]? = some u) {g : Nat} (hg : u.1.ownBlock = some g) (hgr : W.grownBy w1 (some g)) (hR : d.R e w1 B (fun _ => True) u.1 l') (hi : i < cur.length) : Lists d e se w1 B v vs (cur.set i l') := by
  have t := Tch.of_grown hgr
  have hui : ∃ l0, cur[i]? = some l0 := lt_some hi
  obtain ⟨l0, hl0⟩ := hui
  have r0 := Rd.of_R (h.each i u l0 hu hl0)
  refine ⟨R_tch rfl h.outer t (fun k hk hk' => ?_), by rw [List.length_set]; exact h.len, fun j a l ha hl => ?_, h.dis⟩
  · obtain rfl := Option.some.inj hk'
    exact (Rd.of_R h.outer).apart r0 (fun x => hne x.symm) g hk hg
  · by_cases hj : j = i
    · subst hj
      rw [hu] at ha
      obtain rfl := Option.some.inj ha
      rw [List.getElem?_set_self hi] at hl
      obtain rfl := Option.some.inj hl
      exact hR
    · rw [List.getElem?_set_ne (fun x => hj x.symm)] at hl
      refine R_tch hE (h.each j a l ha hl) t (fun k hk hk' => ?_)
      obtain rfl := Option.some.inj hk'
      exact h.dis i j u a g (fun x => hj x.symm) hu ha hg hk

theorem PutK.step {n N i M k : Nat} {mv : Value} (hf : Flat d) (hE : d.E = []) (hne : e ≠ se) (h : PutK f d e se W B v vs n N i M mv k w) (hk : k < M) (hvs : ∀ k, In vs k → k < W.heap.size)
    {cur : List (List α)} (hn : cur.length = n) (hm : Marked f cur i) (hN : Small N cur) (hl : cur[i]? = some l) (hM : l.length = M) (hp : ∀ j, j < k → l[j]? = some (f i j)) (hL : Lists d e se w B v vs cur)
    {u : OneV} (hu : vs[i]? = some u) {g : Nat} (hg : u.1.ownBlock = some g) (hgr : w.grownBy w1 (some g)) (hR : d.R e w1 B (fun _ => True) u.1 (l.set k (f i k))) : PutK f d e se W B v vs n N i M mv (k + 1) w1 := by
  have hi := some_lt hl
  have hin : In vs g := ⟨i, u, hu, hg⟩
  refine ⟨⟨cur.set i (l.set k (f i k)), l.set k (f i k), by rw [List.length_set]; exact hn, fun j x hj hx => ?_, fun x hx => ?_, List.getElem?_set_self hi, by rw [List.length_set]; exact hM, fun j hj => ?_, hL.stored hE hne hu hg hgr hR hi⟩, ?_, ?_, h.far⟩
  · rw [List.getElem?_set_ne (by omega)] at hx
    exact hm j x hj hx
  · rcases List.mem_or_eq_of_mem_set hx with hx | rfl
    · exact hN x hx
    · rw [List.length_set]
      exact hN l (List.mem_of_getElem? hl)
  · by_cases hjk : j = k
    · subst hjk
      exact List.getElem?_set_self (by omega)
    · rw [List.getElem?_set_ne (fun x => hjk x.symm)]
      exact hp j (by omega)
  · refine h.tch.trans (Tch.of_grown hgr) (fun k' _ hk' => ?_)
    obtain rfl := Option.some.inj hk'
    exact hin
  · refine h.rd.tch hf (Tch.of_grown hgr) (fun k' hk1 hk2 => ?_)
    obtain rfl := Option.some.inj hk2
    have := h.far g hk1
    have := hvs g hin
    omega

theorem PutK.done {n N i M : Nat} {mv : Value} (h : PutK f d e se W B v vs n N i M mv M w) : PutI f d e se W B v vs n N (i + 1) w := by
  obtain ⟨cur, l, hn, hm, hN, hl, hM, hp, hL⟩ := h.ex
  refine ⟨⟨cur, hn, fun j x hj hx => ?_, hN, hL⟩, h.tch⟩
  by_cases hji : j = i
  · subst hji
    rw [hl] at hx
    obtain rfl := Option.some.inj hx
    apply List.ext_getElem?
    intro k
    by_cases hk : k < l.length
    · rw [hp k (by omega), mkOf_get _ _ _ _ _ hk, Nat.zero_add]
    · rw [List.getElem?_eq_none (by omega), List.getElem?_eq_none (by rw [mkOf_len]; omega)]
  · exact hm j x (by omega) hx

/-- What a round meets: where the list's value lies, its row, the cells that are written, the mark. -/
theorem PutK.meets {n N i M k c1 : Nat} {A1 : Option Addr} {mv : Value} (h : PutK f d e se W B (.slice A1 n c1) vs n N i M mv k w) (hk : k < M) :
    ∃ (cur : List (List α)) (l : List α) (u : OneV) (ad : Addr) (g cap : Nat) (c : List Value), (cur.length = n ∧ Marked f cur i ∧ Small N cur ∧ cur[i]? = some l ∧ l.length = M ∧ (∀ j, j < k → l[j]? = some (f i j)) ∧ Lists d e se w B (.slice A1 n c1) vs cur) ∧
      vs[i]? = some u ∧ u.1 = .slice (some ⟨g, 0, none⟩) M cap ∧ M ≤ cap ∧ A1 = some ad ∧ w.cell? (ad.add i) = some (.slice (some ⟨g, 0, none⟩) M cap) ∧
      d.R e w B (fun _ => True) (.slice (some ⟨g, 0, none⟩) M cap) l ∧ c.length = d.sz ∧ (∀ j u, c[j]? = some u → w.cell? ⟨g, k * d.sz + j, none⟩ = some u) ∧ In vs g := by
  obtain ⟨cur, l, hn, hm, hN, hl, hM, hp, hL⟩ := h.ex
  have hi := some_lt hl
  obtain ⟨u, hu⟩ := lt_some (show i < vs.length by have := hL.len; omega)
  have hR := hL.each i u l hu hl
  obtain ⟨inner, ho⟩ := Kd.R_own hR
  obtain ⟨g, cap, hug, _⟩ := ho.form (by omega)
  rw [hM] at hug
  obtain ⟨A0, c0, he, hc0, hC0⟩ := (Rd.of_R hL.outer).ex
  injection he with h1 h2 h3
  subst h1
  obtain ⟨ad, hA, hcell⟩ := kv_cell hC0 i u hu
  rw [hug] at hcell hR
  obtain ⟨_, hcap, hC⟩ := Kd.R_reads' hR
  obtain ⟨ad', e', hcc⟩ := hC.2.2 (by omega)
  obtain rfl := Option.some.inj e'
  obtain ⟨x, hx⟩ := lt_some (show k < l.length by omega)
  obtain ⟨c, hcl, _, hcs⟩ := hcc k x hx
  refine ⟨cur, l, u, ad, g, cap, c, ⟨hn, hm, hN, hl, hM, hp, hL⟩, hu, hug, hcap, hA, hcell, hR, hcl, fun j y hy => ?_, ⟨i, u, hu, by rw [hug]; rfl⟩⟩
  have := hcs j y hy
  rwa [add_at] at this

theorem PutI.end_ {n N : Nat} (h : PutI f d e se W B v vs n N n w) : ∃ cur, cur.length = n ∧ Marked f cur n ∧ Small N cur ∧ Lists d e se w B v vs cur := h.ex

/-- One list more. -/
theorem Lists.added {S : Nat → Prop} {ls : List (List α)} {v1 : Value} {x : OneV} (hE : d.E = []) (h : Lists d e se W B v vs ls) (t : Tch S W w1) (hi : ∀ k, In vs k → ¬ S k) (ho : kv.R se w1 B (fun _ => True) v1 (vs ++ [x])) (hx : d.R e w1 B (fun _ => True) x.1 l) (hd : ∀ k, x.1.ownBlock = some k → ¬ In vs k) : Lists d e se w1 B v1 (vs ++ [x]) (ls ++ [l]) := by
  have hl := h.len
  refine ⟨ho, by rw [List.length_append, List.length_append, hl]; rfl, fun j u y hu hy => ?_, fun i j a b k hij ha hb hk => ?_⟩
  · by_cases hj : j < vs.length
    · rw [List.getElem?_append_left hj] at hu
      rw [List.getElem?_append_left (by omega)] at hy
      exact R_tch hE (h.each j u y hu hy) t (fun k hk => hi k ⟨j, u, hu, hk⟩)
    · have := some_lt hu
      rw [List.length_append, List.length_singleton] at this
      obtain rfl : j = vs.length := by omega
      rw [List.getElem?_append_right (Nat.le_refl _), Nat.sub_self] at hu
      rw [List.getElem?_append_right (by omega), hl, Nat.sub_self] at hy
      obtain rfl := Option.some.inj hu
      obtain rfl := Option.some.inj hy
      exact hx
  · have h1 := some_lt ha
    have h2 := some_lt hb
    rw [List.length_append, List.length_singleton] at h1 h2
    by_cases hi1 : i < vs.length
    · rw [List.getElem?_append_left hi1] at ha
      by_cases hj1 : j < vs.length
      · rw [List.getElem?_append_left hj1] at hb
        exact h.dis i j a b k hij ha hb hk
      · obtain rfl : j = vs.length := by omega
        rw [List.getElem?_append_right (Nat.le_refl _), Nat.sub_self] at hb
        obtain rfl := Option.some.inj hb
        exact fun hk2 => hd k hk2 ⟨i, a, ha, hk⟩
    · obtain rfl : i = vs.length := by omega
      rw [List.getElem?_append_right (Nat.le_refl _), Nat.sub_self] at ha
      obtain rfl := Option.some.inj ha
      rw [List.getElem?_append_left (by omega)] at hb
      exact fun hk2 => hd k hk ⟨j, b, hb, hk2⟩

/-- The lists and their copies. -/
structure Pair (d : Kd α) (e se : Nat) (W : World) (B : Nat) (v u : Value) (vs us : List OneV) (ls : List (List α)) : Prop where
  a : Lists d e se W B v vs ls
  b : Lists d e se W B u us ls
  ap : ∀ k, v.ownBlock = some k → u.ownBlock ≠ some k

/-- What one call leaves: the pair with one more, the book's block. -/
def Added (d : Kd α) (e se : Nat) (B g tb : Nat) (cur : Array Value) (i : Nat) (vs us : List OneV) (ls : List (List α)) (x : OneV) (l : List α) (v u : Value) (W w1 : World) : Prop :=
  ∃ v' u' y, w1.heap[g]? = some (.cells ((cur.setIfInBounds i v').setIfInBounds (i + 1) u') tb (0, 0)) ∧ Pair d e se w1 B v' u' (vs ++ [x]) (us ++ [y]) (ls ++ [l]) ∧ Tch (fun k => k = g ∨ v.ownBlock = some k ∨ u.ownBlock = some k) W w1
end
end Go.Proofs.YtbfdaclekjgkfaaGreatDoor.Bk

/- Lists that are grown: what holds from round to round. No program in sight. -/
set_option linter.unusedVariables false
namespace Go.Proofs.YtbfdaclekjgkfaaGreatDoor.Bk
open Go.RowKit Go.Proofs.YtbfdaclekjgkfaaGreatDoorW.PrintWords

section
variable {α : Type} {d : Kd α} {e se B : Nat} {w W w1 w2 w3 wi : World} {u v lv v1 ov : Value} {l : List α} {vs : List OneV} {ls : List (List α)} {f : Nat → Nat → α} {ok : Nat → Prop}

/-- A row of the call's own begins at its block's first cell. -/
def Form (u : Value) : Prop := u = .slice none 0 0 ∨ ∃ g n c, u = .slice (some ⟨g, 0, none⟩) n c
theorem form_of_R (h : d.R e W B ok u l) : Form u := by
  obtain ⟨inner, ho⟩ := Kd.R_own h
  rcases ho.2 with ⟨rfl, _⟩ | ⟨g, cap, cur, rfl, _⟩
  · exact .inl rfl
  · exact .inr ⟨g, _, cap, rfl⟩

/-- What a longer row of the same block reads, the shorter one reads, too. -/
theorem Rd.prefix_ {xs : List α} (h : Rd d e W u l) (hu : Form u) (h1 : d.R e w1 B ok v1 xs) {g : Nat} (hg : u.ownBlock = some g) (hg1 : v1.ownBlock = some g) (hl : l = xs.take l.length) (hlx : l.length ≤ xs.length) : Rd d e w1 u l := by
  rcases hu with rfl | ⟨g', n, c, rfl⟩
  · cases hg
  obtain rfl : g' = g := by simpa [Value.ownBlock] using hg
  obtain ⟨⟨A, c', he, hc, hC⟩, _⟩ := h
  injection he with e1 e2 e3
  subst e1 e2 e3
  refine ⟨⟨_, _, rfl, hc, ?_⟩, fun k hk => ?_⟩
  · rcases form_of_R h1 with rfl | ⟨g2, n2, c2, rfl⟩
    · cases hg1
    obtain rfl : g2 = g' := by simpa [Value.ownBlock] using hg1
    obtain ⟨_, _, hC1⟩ := Kd.R_reads' h1
    have := Kd.C_take hC1 hlx
    rwa [← hl] at this
  · obtain rfl : g' = k := by simpa [Value.ownBlock] using hk
    exact R_typed h1 g' hg1

/-- The first i lists are grown. -/
structure GrowI (f : Nat → Nat → α) (d : Kd α) (e se : Nat) (W : World) (B : Nat) (v : Value) (vs : List OneV) (ls : List (List α)) (N i : Nat) (ov : Value) (w1 : World) : Prop where
  ex : ∃ (gs : List OneV) (ms : List (List α)), gs.length = i ∧ ms.length = i ∧ Marked f ms i ∧ Small N ms ∧ kv.R se w1 W.heap.size (fun _ => True) ov gs ∧ (∀ (j : Nat) (u : OneV) (l : List α), gs[j]? = some u → ms[j]? = some l → Rd d e w1 u.1 l) ∧
    (∀ (j : Nat) (u : OneV) (k : Nat), gs[j]? = some u → u.1.ownBlock = some k → ∀ (j' : Nat) (u' : OneV), i ≤ j' → vs[j']? = some u' → u'.1.ownBlock ≠ some k)
  old : ∀ (j : Nat) (u : OneV) (l : List α), vs[j]? = some u → ls[j]? = some l → Rd d e w1 u.1 l
  own : ∀ (j : Nat) (u : OneV) (l : List α), i ≤ j → vs[j]? = some u → ls[j]? = some l → d.R e w1 B (fun _ => True) u.1 l
  outer : Rd kv se w1 v vs
  far : ∀ k, v.ownBlock = some k → k < W.heap.size
  tch : Tch (In vs) W w1

/-- List i has k elements more. -/
structure GrowK (f : Nat → Nat → α) (d : Kd α) (e : Nat) (B i : Nat) (wi : World) (u : Value) (l : List α) (lv : Value) (k : Nat) (w1 : World) : Prop where
  R : d.R e w1 B (fun _ => True) lv (mkOf f i 0 (l.length + k))
  blk : ∀ g, lv.ownBlock = some g → u.ownBlock = some g ∨ wi.heap.size ≤ g
  rd : Rd d e w1 u l
  form : Form u
  tch : Tch (fun g => u.ownBlock = some g) wi w1

theorem GrowI.start {N : Nat} (h : Lists d e se W B v vs ls) : GrowI f d e se W B v vs ls N 0 (.slice none 0 0) W :=
  ⟨⟨[], [], rfl, rfl, (fun j l hj => absurd hj (Nat.not_lt_zero _)), (fun l hl => absurd hl List.not_mem_nil), Kd.R_nil _ _ _ _ _, (fun j u l hu => by simp at hu), (fun j u k hu => by simp at hu)⟩,
    fun j u l hu hl => Rd.of_R (h.each j u l hu hl), fun j u l _ hu hl => h.each j u l hu hl, Rd.of_R h.outer, (Rd.of_R h.outer).lt, Tch.refl _ _⟩

theorem GrowI.inner {N i : Nat} (h : GrowI f d e se W B v vs ls N i ov wi) {u : OneV} (hu : vs[i]? = some u) (hl : ls[i]? = some l) (hm : l = mkOf f i 0 l.length) : GrowK f d e B i wi u.1 l u.1 0 wi := by
  have hR := h.own i u l (Nat.le_refl _) hu hl
  refine ⟨?_, fun g hg => .inl hg, Rd.of_R hR, form_of_R hR, Tch.refl _ _⟩
  rw [Nat.add_zero, ← hm]
  exact hR

theorem GrowK.below {i k : Nat} (hE : d.E = []) (hf : Flat d) (h : GrowK f d e B i wi u l lv k w) (hb : Below w.heap.size w w1) : GrowK f d e B i wi u l lv k w1 :=
  ⟨R_tch hE h.R (Tch.of_below (fun _ => False) hb) (fun _ _ x => x), h.blk, h.rd.below hf hb, h.form, h.tch.trans (Tch.of_below (fun _ => False) hb) (fun _ _ x => x.elim)⟩

theorem GrowK.step {i k m : Nat} (hE : d.E = []) (hf : Flat d) (h : GrowK f d e B i wi u l lv k w) (hm : l = mkOf f i 0 l.length)
    (hR : d.R e w1 B ok v1 (mkOf f i 0 (l.length + k) ++ mkOf f i (l.length + k) m)) (hg : w.grownBy w1 lv.ownBlock) (hat : v1.ownBlock = lv.ownBlock ∨ ∃ b, v1.ownBlock = some b ∧ w.heap.size ≤ b)
    (hk : ∀ g, lv.ownBlock = some g → v1.ownBlock = some g ∨ w1.heap[g]? = w.heap[g]?) : GrowK f d e B i wi u l v1 (k + m) w1 := by
  have e1 : mkOf f i 0 (l.length + k) ++ mkOf f i (l.length + k) m = mkOf f i 0 (l.length + (k + m)) := by rw [mkOf_add, Nat.add_assoc]
  rw [e1] at hR
  have hpre : l = (mkOf f i 0 (l.length + (k + m))).take l.length := by
    rw [← mkOf_add, List.take_append_of_le_length (by rw [mkOf_len]; exact Nat.le_refl _), List.take_of_length_le (by rw [mkOf_len]; exact Nat.le_refl _)]
    exact hm
  refine ⟨Kd.R_mono hR (fun _ _ => trivial), fun g hg1 => ?_, ?_, h.form, ?_⟩
  · rcases hat with hat | ⟨b, hb, hle⟩
    · exact h.blk g (hat ▸ hg1)
    · rw [hb] at hg1
      obtain rfl := Option.some.inj hg1
      exact .inr (Nat.le_trans h.tch.size hle)
  · by_cases hsame : ∃ g, u.ownBlock = some g ∧ lv.ownBlock = some g
    · obtain ⟨g, hu, hlv⟩ := hsame
      rcases hk g hlv with h1 | h1
      · exact h.rd.prefix_ h.form hR hu h1 hpre (by rw [mkOf_len]; omega)
      · refine h.rd.tch (S := fun _ => False) hf ⟨hg.os, hg.tape, hg.output, hg.size, fun k' hk' _ => ?_⟩ (fun _ _ x => x)
        by_cases hkg : k' = g
        · rw [hkg]; exact h1
        · exact hg.block k' hk' (fun x => hkg (Option.some.inj (x.trans hlv)))
    · refine h.rd.tch hf (Tch.of_grown hg) (fun k' hk' hk2 => hsame ⟨k', hk', hk2⟩)
  · refine h.tch.trans (Tch.of_grown hg) (fun k' hk' hk2 => ?_)
    rcases h.blk k' hk2 with h1 | h1
    · exact h1
    · omega

theorem GrowI.step {N i k : Nat} (hE : d.E = []) (hf : Flat d) (hne : e ≠ se) (h : GrowI f d e se W B v vs ls N i ov wi) (hdis : ∀ (i j : Nat) (a b : OneV) (k : Nat), i ≠ j → vs[i]? = some a → vs[j]? = some b → a.1.ownBlock = some k → b.1.ownBlock ≠ some k) (hlen : ls.length = vs.length)
    {u : OneV} (hu : vs[i]? = some u) (hl : ls[i]? = some l) (hK : GrowK f d e B i wi u.1 l lv k w2) (hN : l.length + k ≤ N) (hlv : lv.oneCell' = true)
    {gs : List OneV} {ms : List (List α)} (h1 : gs.length = i) (h2 : ms.length = i) (h3 : Marked f ms i) (h4 : Small N ms) (h5 : kv.R se wi W.heap.size (fun _ => True) ov gs) (h6 : ∀ (j : Nat) (u : OneV) (l : List α), gs[j]? = some u → ms[j]? = some l → Rd d e wi u.1 l)
    (h7 : ∀ (j : Nat) (u : OneV) (k : Nat), gs[j]? = some u → u.1.ownBlock = some k → ∀ (j' : Nat) (u' : OneV), i ≤ j' → vs[j']? = some u' → u'.1.ownBlock ≠ some k)
    {ov' : Value} (hR : kv.R se w3 W.heap.size ok ov' (gs ++ [⟨lv, hlv⟩])) (hg : w2.grownBy w3 ov.ownBlock) : GrowI f d e se W B v vs ls N (i + 1) ov' w3 := by
  have t1 := hK.tch
  have t2 := Tch.of_grown hg
  have rou := Rd.of_R (h.own i u l (Nat.le_refl _) hu hl)
  have rov : Rd kv se w2 ov gs := (Rd.of_R h5).tch flat_kv t1 (fun k' a b => (Rd.of_R h5).apart rou (fun x => hne x.symm) k' a b)
  have key : ∀ {x : Value} {y : List α}, Rd d e w2 x y → Rd d e w3 x y := fun hx => hx.tch hf t2 (fun k' a b => hx.apart rov hne k' a b)
  have keyR : ∀ {x : Value} {y : List α}, d.R e w2 B (fun _ => True) x y → d.R e w3 B (fun _ => True) x y := fun hx => R_tch hE hx t2 (fun k' a b => (Rd.of_R hx).apart rov hne k' a b)
  have hvl : ∀ j (x : OneV), vs[j]? = some x → ∃ y, ls[j]? = some y := fun j x hx => lt_some (by have := some_lt hx; omega)
  refine ⟨⟨gs ++ [⟨lv, hlv⟩], ms ++ [mkOf f i 0 (l.length + k)], by rw [List.length_append, h1]; rfl, by rw [List.length_append, h2]; rfl, fun j x hj hx => ?_, fun x hx => ?_, Kd.R_mono hR (fun _ _ => trivial), fun j x y hx hy => ?_, fun j x k' hx hk' j' x' hj' hx' => ?_⟩, fun j x y hx hy => ?_, fun j x y hj hx hy => ?_, ?_, h.far, ?_⟩
  · by_cases hji : j < i
    · rw [List.getElem?_append_left (by omega)] at hx
      exact h3 j x hji hx
    · obtain rfl : j = i := by omega
      rw [List.getElem?_append_right (by omega), h2, Nat.sub_self] at hx
      obtain rfl := Option.some.inj hx
      rw [mkOf_len]
  · rcases List.mem_append.1 hx with hx | hx
    · exact h4 x hx
    · rw [List.mem_singleton.1 hx, mkOf_len]
      exact hN
  · by_cases hji : j < i
    · rw [List.getElem?_append_left (by omega)] at hx hy
      exact key ((h6 j x y hx hy).tch hf t1 (fun k' a b => h7 j x k' hx a i u (Nat.le_refl _) hu b))
    · have hj2 : j = i := by
        have := some_lt hx
        rw [List.length_append, h1] at this
        simp only [List.length_singleton] at this
        omega
      subst hj2
      rw [List.getElem?_append_right (by omega), h1, Nat.sub_self] at hx
      rw [List.getElem?_append_right (by omega), h2, Nat.sub_self] at hy
      obtain rfl := Option.some.inj hx
      obtain rfl := Option.some.inj hy
      exact key (Rd.of_R hK.R)
  · by_cases hji : j < i
    · rw [List.getElem?_append_left (by omega)] at hx
      exact h7 j x k' hx hk' j' x' (by omega) hx'
    · have hj2 : j = i := by
        have := some_lt hx
        rw [List.length_append, h1] at this
        simp only [List.length_singleton] at this
        omega
      subst hj2
      rw [List.getElem?_append_right (by omega), h1, Nat.sub_self] at hx
      obtain rfl := Option.some.inj hx
      rcases hK.blk k' hk' with hb | hb
      · exact hdis j j' u x' k' (by omega) hu hx' hb
      · intro hk2
        obtain ⟨y', hy'⟩ := hvl j' x' hx'
        have := (h.old j' x' y' hx' hy').lt k' hk2
        omega
  · by_cases hji : j = i
    · subst hji
      rw [hu] at hx
      obtain rfl := Option.some.inj hx
      rw [hl] at hy
      obtain rfl := Option.some.inj hy
      exact key hK.rd
    · exact key ((h.old j x y hx hy).tch hf t1 (fun k' a b => hdis i j u x k' (fun x => hji x.symm) hu hx b a))
  · exact keyR (R_tch hE (h.own j x y (by omega) hx hy) t1 (fun k' a b => hdis i j u x k' (by omega) hu hx b a))
  · have h8 := h.outer.tch flat_kv t1 (fun k' a b => h.outer.apart rou (fun x => hne x.symm) k' a b)
    refine h8.tch flat_kv t2 (fun k' a b => ?_)
    have := h.far k' a
    have := Kd.R_base h5 k' b
    omega
  · refine (h.tch.trans t1 (fun k' _ a => ⟨i, u, hu, a⟩)).trans t2 (fun k' hk' b => ?_)
    have := Kd.R_base h5 k' b
    omega

theorem GrowI.done {N n : Nat} (h : GrowI f d e se W B v vs ls N n ov w) (hn : n = ls.length) (hlen : ls.length = vs.length) : Has d e se w v vs ls ∧ (∃ gs ms, ms.length = n ∧ Marked f ms n ∧ Small N ms ∧ Has d e se w ov gs ms) ∧ Tch (In vs) W w := by
  obtain ⟨gs, ms, h1, h2, h3, h4, h5, h6, h7⟩ := h.ex
  exact ⟨⟨h.outer, hlen, h.old⟩, ⟨gs, ms, h2, h3, h4, Rd.of_R h5, by omega, h6⟩, h.tch⟩
end
end Go.Proofs.YtbfdaclekjgkfaaGreatDoor.Bk
