/- Rules handed in as a list: what it reads as; what is handed in is read behind the call as ahead of it. -/
import Derived.Test.YthngjjeilcfhgaaDoorBase
import Derived.Test.YthngjjeilcfhgaaDoorPa
import Derived.Deep.Slices
import Derived.WideKeyArgs
namespace Go.Proofs.YthngjjeilcfhgaaDoor
open Go.ChangeShapes Go.WideShapes Go.ChangeAt Go.RowKit Go.WideElems Go.Proofs.YthngjjeilcfhgaaDoorW.PrintWords

theorem cells_rule : Tryd.prog.cellsOf 25 = 4 := by kernel_rfl
theorem cells_int_ : Tryd.prog.cellsOf 3 = 1 := by kernel_rfl
theorem cells_str_ : Tryd.prog.cellsOf 9 = 1 := by kernel_rfl
theorem cells_bool_ : Tryd.prog.cellsOf 4 = 1 := by kernel_rfl

theorem open_rule {H : Type} {enc : TypeId × Value → H} {w : World} {base : Nat} {spare : Nat → Bool} {held : Bool} {fuel : Nat} {cs : List Value} {x : DataW H × List MemPlace}
    (hlen : cs.length = 4) (h : DataW.trod enc Tryd.prog w base spare held fuel 25 cs = some x) : ∃ r : Pa.S25, cs = [.bool r.f0, .string r.f1, .int .i64 r.f2, .string r.f3] ∧ r.f1.size ≤ maxLen ∧ r.f3.size ≤ maxLen := by
  match cs, hlen with
  | [c0, c1, c2, c3], _ =>
    obtain ⟨xs, n, _, hx, _, hlen, hg⟩ := DataW.trod_struct Tryd.underlying25 h
    match xs, hlen with
    | [y0, y1, y2, y3], _ =>
      have g0 := hg 0 _ rfl
      have g1 := hg 1 _ rfl
      have g2 := hg 2 _ rfl
      have g3 := hg 3 _ rfl
      simp [cells_int_, cells_str_, cells_bool_] at g0 g1 g2 g3
      obtain ⟨b, e0, f0⟩ := DataW.trod_bool Tryd.underlying4 g0
      obtain ⟨s, e1, f1, w1⟩ := DataW.trod_string Tryd.underlying9 g1
      obtain ⟨a, e2, f2, w2⟩ := DataW.trod_int Tryd.underlying3 g2
      obtain ⟨p, e3, f3, w3⟩ := DataW.trod_string Tryd.underlying9 g3
      simp only [List.cons.injEq, and_true] at e0 e1 e2 e3
      subst e0 e1 e2 e3
      exact ⟨⟨b, s, a, p⟩, rfl, w1, w3⟩

instance : Inhabited Pa.S25 := ⟨Pa.z25⟩
set_option maxRecDepth 100000 in
theorem open_rules {H : Type} {enc : TypeId × Value → H} {w : World} {r : Reach} {base b0 : Nat} {spare : Nat → Bool} {held : Bool} {v : Value} {d : DataW H} {p : List MemPlace}
    (hv : Value.okWide Tryd.prog w r b0 22 v) (h : DataW.Trod enc Tryd.prog w base spare held 22 v d p) : ∃ (A : Option Addr) (c : Nat) (l : List Pa.S25), v = .slice A l.length c ∧ ((Kd.C Pa.k25 w A l.length l ∧ l.length ≤ c) ∧ ∀ x ∈ l, x.f1.size ≤ maxLen ∧ x.f3.size ≤ maxLen) := by
  obtain ⟨A0, n0, c0, rfl⟩ := okWide_slice Tryd.underlying22 hv
  obtain ⟨fuel, hf⟩ := h
  rcases Go.Deep.open_slice Tryd.underlying22 hf with ⟨e, _⟩ | ⟨a, len, cap, m, n, D, Pl, e, hb, hl, hm, hmm, _, hx⟩
  · simp [Value.cells] at e
    obtain ⟨rfl, rfl, rfl⟩ := e
    exact ⟨none, 0, [], rfl, ⟨⟨rfl, by simp, fun h => absurd h (by simp)⟩, Nat.le_refl _⟩, fun x hx => by cases hx⟩
  · simp [Value.cells] at e
    obtain ⟨rfl, rfl, rfl⟩ := e
    have hlm : n0 ≤ m := by rw [hmm]; split <;> omega
    obtain ⟨S, hS⟩ := Go.Deep.choose_lt (α := Pa.S25) (n := n0) (p := fun i r => (∀ j u, ([.bool r.f0, .string r.f1, .int .i64 r.f2, .string r.f3] : List Value)[j]? = some u → w.cell? (a.add (i * 4 + j)) = some u) ∧ r.f1.size ≤ maxLen ∧ r.f3.size ≤ maxLen) (fun i hi => by
      obtain ⟨cs', h1, h2⟩ := hx i (by omega)
      rw [cells_rule] at h1
      obtain ⟨_, hlen, hc⟩ := World.cells?_some h1
      obtain ⟨r, rfl, z1, z3⟩ := open_rule hlen h2
      refine ⟨r, fun j u hj => ?_, z1, z3⟩
      have hj4 : j < 4 := by
        have := (List.getElem?_eq_some_iff.1 hj).1
        simpa using this
      rw [← Go.Deep.add_add, hc j hj4]
      exact hj)
    have hlen : ((List.range n0).map S).length = n0 := by simp
    refine ⟨some a, c0, (List.range n0).map S, by rw [hlen], ⟨?_, by rw [hlen]; exact hl⟩, fun x hx => by
      obtain ⟨i, hi, rfl⟩ := List.mem_map.1 hx
      exact (hS i (List.mem_range.1 hi)).2⟩
    refine ⟨rfl, by rw [hlen]; unfold maxLen at hm; omega, fun _ => ⟨a, rfl, fun j p hj => ?_⟩⟩
    rw [List.getElem?_map] at hj
    obtain ⟨k, hk, rfl⟩ := Option.map_eq_some_iff.1 hj
    obtain ⟨hk1, hk2⟩ := List.getElem?_eq_some_iff.1 hk
    simp only [List.getElem_range] at hk2
    subst hk2
    rw [List.length_range] at hk1
    exact ⟨_, rfl, Pa.k25_mk w (S j), fun i u hu => (hS j hk1).1 i u hu⟩

theorem laidOut_prog : laidOutB Tryd.prog = true := by kernel_rfl
set_option maxRecDepth 100000 in
theorem rules_stay {H : Type} {enc : TypeId × Value → H} {base : Nat} {W W' : World} {v : Value} {d : DataW H} {p : List MemPlace} (h : DataW.Trod enc Tryd.prog W base (fun _ => true) true 22 v d p)
    (hlt : ∀ x ∈ p, x.block < W.heap.size) (hb : Below W.heap.size W W') : DataW.Trod enc Tryd.prog W' base (fun b => decide (b < W.heap.size)) true 22 v d p :=
  Trod_stays laidOut_prog (by kernel_rfl) (of_decide_eq_true (by kernel_rfl)) h (fun x hx => hb.same (hlt x hx)) (fun x hx => by simpa using hlt x hx)
end Go.Proofs.YthngjjeilcfhgaaDoor
