/- A reply handed in by value: what it reads as; what is handed in is read behind the call as ahead of it. -/
import Derived.Test.YtbfdaclekjgkfaaGreatDoorBase
import Derived.Test.YtbfdaclekjgkfaaGreatDoorWWords
import Derived.Deep.Slices
import Derived.WideKeyArgs
namespace Go.Proofs.YtbfdaclekjgkfaaGreatDoor
open Go.ChangeShapes Go.WideShapes Go.ChangeAt Go.RowKit Go.WideElems Go.Proofs.YtbfdaclekjgkfaaGreatDoorW.PrintWords

theorem cells_reply : Tryz.prog.cellsOf 25 = 5 := by kernel_rfl
theorem cells_errno : Tryz.prog.cellsOf 22 = 1 := by kernel_rfl
theorem cells_int_ : Tryz.prog.cellsOf 3 = 1 := by kernel_rfl
theorem cells_str_ : Tryz.prog.cellsOf 9 = 1 := by kernel_rfl
theorem cells_strs : Tryz.prog.cellsOf 23 = 1 := by kernel_rfl

theorem open_strs {H : Type} {enc : TypeId × Value → H} {w : World} {base : Nat} {spare : Nat → Bool} {held : Bool} {fuel : Nat} {cs : List Value} {x : DataW H × List MemPlace}
    (h : DataW.trod enc Tryz.prog w base spare held fuel 23 cs = some x) : ∃ (A : Option Addr) (c : Nat) (l : List ByteArray), cs = [.slice A l.length c] ∧ l.length ≤ c ∧ Kd.C Kd.string w A l.length l := by
  rcases Go.Deep.open_slice1 Tryz.underlying23 cells_str_ h with ⟨rfl, rfl⟩ | ⟨a, len, cap, m, n, V, D, Pl, rfl, hb, hl, hm, hmm, rfl, hx⟩
  · refine ⟨none, 0, [], rfl, Nat.le_refl _, rfl, by simp, fun h => absurd h (by simp)⟩
  · have hlm : len ≤ m := by rw [hmm]; split <;> omega
    obtain ⟨S, hS⟩ := Go.Deep.choose_lt (α := ByteArray) (n := len) (p := fun i s => w.cell? (a.add i) = some (.string s)) (fun i hi => by
      obtain ⟨h1, h2⟩ := hx i (by omega)
      obtain ⟨s, e1, f1, w1⟩ := DataW.trod_string Tryz.underlying9 h2
      simp only [List.cons.injEq, and_true] at e1
      rw [e1] at h1
      exact ⟨s, h1⟩)
    have hlen : ((List.range len).map S).length = len := by simp
    refine ⟨some a, cap, (List.range len).map S, by rw [hlen], by rw [hlen]; exact hl, ?_⟩
    refine ⟨rfl, by rw [hlen]; unfold maxLen at hm; omega, fun _ => ⟨a, rfl, fun j p hj => ?_⟩⟩
    rw [List.getElem?_map] at hj
    obtain ⟨k, hk, rfl⟩ := Option.map_eq_some_iff.1 hj
    obtain ⟨hk1, hk2⟩ := List.getElem?_eq_some_iff.1 hk
    simp only [List.getElem_range] at hk2
    subst hk2
    rw [List.length_range] at hk1
    refine ⟨[.string (S j)], rfl, rfl, fun i u hu => ?_⟩
    cases i with
    | zero =>
      simp only [List.getElem?_cons_zero, Option.some.injEq] at hu
      subst hu
      have := hS j hk1
      simpa [Kd.string, Kd.scalar] using this
    | succ i => simp at hu

set_option maxRecDepth 100000 in
theorem open_reply {H : Type} {enc : TypeId × Value → H} {w : World} {r : Reach} {base b0 : Nat} {spare : Nat → Bool} {held : Bool} {v : Value} {d : DataW H} {p : List MemPlace}
    (hv : Value.okWide Tryz.prog w r b0 25 v) (h : DataW.Trod enc Tryz.prog w base spare held 25 v d p) :
    ∃ (e : Int) (s : ByteArray) (a b : Int) (A : Option Addr) (c : Nat) (l : List ByteArray), v = .agg #[.int .i64 e, .string s, .int .i64 a, .int .i64 b, .slice A l.length c] ∧ l.length ≤ c ∧ Kd.C Kd.string w A l.length l := by
  obtain ⟨cs, rfl, hsz⟩ := okWide_struct Tryz.underlying25 hv
  obtain ⟨l⟩ := cs
  match l, hsz.trans cells_reply with
  | [c0, c1, c2, c3, c4], _ =>
    obtain ⟨fuel, hf⟩ := h
    obtain ⟨xs, n, _, hx, _, hlen, hg⟩ := DataW.trod_struct Tryz.underlying25 hf
    match xs, hlen with
    | [y0, y1, y2, y3, y4], _ =>
      have g0 := hg 0 _ rfl
      have g1 := hg 1 _ rfl
      have g2 := hg 2 _ rfl
      have g3 := hg 3 _ rfl
      have g4 := hg 4 _ rfl
      simp [cells_int_, cells_str_, cells_errno, cells_strs, Value.cells] at g0 g1 g2 g3 g4
      obtain ⟨e, e0, f0, w0⟩ := DataW.trod_int Tryz.underlying22 g0
      obtain ⟨s, e1, f1, w1⟩ := DataW.trod_string Tryz.underlying9 g1
      obtain ⟨a, e2, f2, w2⟩ := DataW.trod_int Tryz.underlying3 g2
      obtain ⟨b, e3, f3, w3⟩ := DataW.trod_int Tryz.underlying3 g3
      obtain ⟨A, c, l, e4, hc, hC⟩ := open_strs g4
      simp only [List.cons.injEq, and_true] at e0 e1 e2 e3 e4
      subst e0 e1 e2 e3 e4
      exact ⟨e, s, a, b, A, c, l, rfl, hc, hC⟩

theorem laidOut_prog : laidOutB Tryz.prog = true := by kernel_rfl
theorem read_reply : Tryz.prog.readableRec 25 = true := by kernel_rfl
theorem row_reply : 25 < Tryz.prog.types.size := of_decide_eq_true (by kernel_rfl)
theorem reply_stays {H : Type} {enc : TypeId × Value → H} {base : Nat} {W W' : World} {v : Value} {d : DataW H} {p : List MemPlace} (h : DataW.Trod enc Tryz.prog W base (fun _ => true) true 25 v d p)
    (hlt : ∀ x ∈ p, x.block < W.heap.size) (hb : Below W.heap.size W W') : DataW.Trod enc Tryz.prog W' base (fun b => decide (b < W.heap.size)) true 25 v d p :=
  Trod_stays laidOut_prog read_reply row_reply h (fun x hx => hb.same (hlt x hx)) (fun x hx => by simpa using hlt x hx)
end Go.Proofs.YtbfdaclekjgkfaaGreatDoor
