/- A command handed in by value: what it reads as. -/
import Derived.Test.YtbfdaclekjgkfaaDoorBase
namespace Go.Proofs.YtbfdaclekjgkfaaDoor
open Go.ChangeShapes Go.WideShapes Go.ChangeAt Go.RowKit

theorem cells_cmd : Tryd.prog.cellsOf 23 = 5 := by kernel_rfl
theorem cells_int : Tryd.prog.cellsOf 3 = 1 := by kernel_rfl
theorem cells_str : Tryd.prog.cellsOf 9 = 1 := by kernel_rfl
theorem trod_str1 {H : Type} {enc : TypeId × Value → H} {w : World} {base : Nat} {spare : Nat → Bool} {held : Bool} (k : ByteArray) (h : k.size ≤ maxLen) : DataW.trod enc Tryd.prog w base spare held (0 + 1) 9 [.string k] = some (.lit (.string k.data.toList), []) := by
  simp only [DataW.trod, Tryd.underlying9]
  rw [if_pos h]
set_option maxRecDepth 100000 in
theorem shut_cmd {H : Type} (enc : TypeId × Value → H) (w : World) (base : Nat) (spare : Nat → Bool) (held : Bool) (op : Int) (k s : ByteArray) (a b : Int)
    (h0 : (Lit.int .i64 op).wf = true) (h1 : k.size ≤ maxLen) (h2 : s.size ≤ maxLen) (h3 : (Lit.int .i64 a).wf = true) (h4 : (Lit.int .i64 b).wf = true) :
    DataW.Trod enc Tryd.prog w base spare held 23 (.agg #[.int .i64 op, .string k, .string s, .int .i64 a, .int .i64 b]) (.agg [.lit (.int .i64 op), .lit (.string k.data.toList), .lit (.string s.data.toList), .lit (.int .i64 a), .lit (.int .i64 b)]) [] := by
  have t0 := trod_int_mk (enc := enc) (w := w) (base := base) (spare := spare) (held := held) 0 Tryd.underlying3 h0
  have t3 := trod_int_mk (enc := enc) (w := w) (base := base) (spare := spare) (held := held) 0 Tryd.underlying3 h3
  have t4 := trod_int_mk (enc := enc) (w := w) (base := base) (spare := spare) (held := held) 0 Tryd.underlying3 h4
  have t1 := trod_str1 (enc := enc) (w := w) (base := base) (spare := spare) (held := held) k h1
  have t2 := trod_str1 (enc := enc) (w := w) (base := base) (spare := spare) (held := held) s h2
  have := trod_struct_mk (enc := enc) (w := w) (base := base) (spare := spare) (held := held) (n := 1) (cs := [.int .i64 op, .string k, .string s, .int .i64 a, .int .i64 b])
    (xs := [(.lit (.int .i64 op), []), (.lit (.string k.data.toList), []), (.lit (.string s.data.toList), []), (.lit (.int .i64 a), []), (.lit (.int .i64 b), [])]) Tryd.underlying23 (by rw [cells_cmd]; rfl) (by simp [cells_int, cells_str, t0, t1, t2, t3, t4])
  exact ⟨2, by simpa [Value.cells] using this⟩
set_option maxRecDepth 100000 in
theorem open_cmd {H : Type} {enc : TypeId × Value → H} {w : World} {r : Reach} {base b0 : Nat} {spare : Nat → Bool} {held : Bool} {v : Value} {d : DataW H} {p : List MemPlace}
    (hv : Value.okWide Tryd.prog w r b0 23 v) (h : DataW.Trod enc Tryd.prog w base spare held 23 v d p) :
    ∃ (op : Int) (k s : ByteArray) (a b : Int), v = .agg #[.int .i64 op, .string k, .string s, .int .i64 a, .int .i64 b] ∧ d = .agg [.lit (.int .i64 op), .lit (.string k.data.toList), .lit (.string s.data.toList), .lit (.int .i64 a), .lit (.int .i64 b)] ∧ p = [] ∧
      (∀ (w' : World) (base' : Nat) (spare' : Nat → Bool) (held' : Bool), DataW.Trod enc Tryd.prog w' base' spare' held' 23 (.agg #[.int .i64 op, .string k, .string s, .int .i64 a, .int .i64 b]) (.agg [.lit (.int .i64 op), .lit (.string k.data.toList), .lit (.string s.data.toList), .lit (.int .i64 a), .lit (.int .i64 b)]) []) ∧
      (k.size ≤ 9223372036854775807 ∧ s.size ≤ 9223372036854775807) := by
  obtain ⟨cs, rfl, hsz⟩ := okWide_struct Tryd.underlying23 hv
  obtain ⟨l⟩ := cs
  match l, hsz.trans cells_cmd with
  | [c0, c1, c2, c3, c4], _ =>
    obtain ⟨fuel, hf⟩ := h
    obtain ⟨xs, n, _, hx, _, hlen, hg⟩ := DataW.trod_struct Tryd.underlying23 hf
    match xs, hlen with
    | [y0, y1, y2, y3, y4], _ =>
      have g0 := hg 0 _ rfl
      have g1 := hg 1 _ rfl
      have g2 := hg 2 _ rfl
      have g3 := hg 3 _ rfl
      have g4 := hg 4 _ rfl
      simp [cells_int, cells_str, Value.cells] at g0 g1 g2 g3 g4
      obtain ⟨op, e0, f0, w0⟩ := DataW.trod_int Tryd.underlying3 g0
      obtain ⟨k, e1, f1, w1⟩ := DataW.trod_string Tryd.underlying9 g1
      obtain ⟨s, e2, f2, w2⟩ := DataW.trod_string Tryd.underlying9 g2
      obtain ⟨a, e3, f3, w3⟩ := DataW.trod_int Tryd.underlying3 g3
      obtain ⟨b, e4, f4, w4⟩ := DataW.trod_int Tryd.underlying3 g4
      simp only [List.cons.injEq, and_true] at e0 e1 e2 e3 e4
      subst e0 e1 e2 e3 e4 f0 f1 f2 f3 f4
      simp only [Prod.mk.injEq] at hx
      refine ⟨op, k, s, a, b, rfl, by simpa using hx.1, by simpa using hx.2, fun w' base' spare' held' => shut_cmd enc w' base' spare' held' op k s a b w0 w1 w2 w3 w4, ?_⟩
      unfold maxLen at w1 w2
      exact ⟨w1, w2⟩
end Go.Proofs.YtbfdaclekjgkfaaDoor
