import Derived.Test.YtbfdaclekjgkfaaDoorBase
import Derived.Test.YtbfdaclekjgkfaaDoorWWords
import Derived.Deep.Slices
import Derived.WideKeyArgs
import Derived.Test.YtbfdaclekjgkfaaDoorPRep
import Derived.Test.YtbfdaclekjgkfaaDoorPs1
import Derived.SizedLaws
import Derived.ShutString
import Derived.Lib.SmallJoins

/- A reply handed in by value: what it reads as; what is handed in is read behind the call as ahead of it. -/
namespace Go.Proofs.YtbfdaclekjgkfaaDoor
open Go.ChangeShapes Go.WideShapes Go.ChangeAt Go.RowKit Go.WideElems Go.Proofs.YtbfdaclekjgkfaaDoorW.PrintWords

theorem cells_reply : Tryd.prog.cellsOf 40 = 5 := by kernel_rfl
theorem cells_errno : Tryd.prog.cellsOf 37 = 1 := by kernel_rfl
theorem cells_int_ : Tryd.prog.cellsOf 3 = 1 := by kernel_rfl
theorem cells_str_ : Tryd.prog.cellsOf 9 = 1 := by kernel_rfl
theorem cells_strs : Tryd.prog.cellsOf 38 = 1 := by kernel_rfl

theorem open_strs {H : Type} {enc : TypeId × Value → H} {w : World} {base : Nat} {spare : Nat → Bool} {held : Bool} {fuel : Nat} {cs : List Value} {x : DataW H × List MemPlace}
    (h : DataW.trod enc Tryd.prog w base spare held fuel 38 cs = some x) : ∃ (A : Option Addr) (c : Nat) (l : List ByteArray), cs = [.slice A l.length c] ∧ l.length ≤ c ∧ Kd.C Kd.string w A l.length l := by
  rcases Go.Deep.open_slice1 Tryd.underlying38 cells_str_ h with ⟨rfl, rfl⟩ | ⟨a, len, cap, m, n, V, D, Pl, rfl, hb, hl, hm, hmm, rfl, hx⟩
  · refine ⟨none, 0, [], rfl, Nat.le_refl _, rfl, by simp, fun h => absurd h (by simp)⟩
  · have hlm : len ≤ m := by rw [hmm]; split <;> omega
    obtain ⟨S, hS⟩ := Go.Deep.choose_lt (α := ByteArray) (n := len) (p := fun i s => w.cell? (a.add i) = some (.string s)) (fun i hi => by
      obtain ⟨h1, h2⟩ := hx i (by omega)
      obtain ⟨s, e1, f1, w1⟩ := DataW.trod_string Tryd.underlying9 h2
      simp only [List.cons.injEq, and_true] at e1
      rw [e1] at h1
      exact ⟨s, h1⟩)
    have hlen : ((List.range len).map S).length = len := by simp
    refine ⟨some a, cap, (List.range len).map S, by rw [hlen], by rw [hlen]; exact hl, ?_⟩
    refine ⟨rfl, by rw [hlen]; unfold maxLen at hm; omega, fun _ => ⟨a, rfl, fun j p hj => ?_⟩⟩
    rw [List.getElem?_map] at hj
    obtain ⟨k, hk, rfl⟩ := Option.map_eq_some_iff.1 hj
    obtain ⟨hk1, hk2⟩ := List.getElem?_eq_some_iff.1 hk
    simp only [List.getElem_range] at hk2
    subst hk2
    rw [List.length_range] at hk1
    refine ⟨[.string (S j)], rfl, rfl, fun i u hu => ?_⟩
    cases i with
    | zero =>
      simp only [List.getElem?_cons_zero, Option.some.injEq] at hu
      subst hu
      have := hS j hk1
      simpa [Kd.string, Kd.scalar] using this
    | succ i => simp at hu

set_option maxRecDepth 100000 in
theorem open_reply {H : Type} {enc : TypeId × Value → H} {w : World} {r : Reach} {base b0 : Nat} {spare : Nat → Bool} {held : Bool} {v : Value} {d : DataW H} {p : List MemPlace}
    (hv : Value.okWide Tryd.prog w r b0 40 v) (h : DataW.Trod enc Tryd.prog w base spare held 40 v d p) :
    ∃ (e : Int) (s : ByteArray) (a b : Int) (A : Option Addr) (c : Nat) (l : List ByteArray), v = .agg #[.int .i64 e, .string s, .int .i64 a, .int .i64 b, .slice A l.length c] ∧ l.length ≤ c ∧ Kd.C Kd.string w A l.length l := by
  obtain ⟨cs, rfl, hsz⟩ := okWide_struct Tryd.underlying40 hv
  obtain ⟨l⟩ := cs
  match l, hsz.trans cells_reply with
  | [c0, c1, c2, c3, c4], _ =>
    obtain ⟨fuel, hf⟩ := h
    obtain ⟨xs, n, _, hx, _, hlen, hg⟩ := DataW.trod_struct Tryd.underlying40 hf
    match xs, hlen with
    | [y0, y1, y2, y3, y4], _ =>
      have g0 := hg 0 _ rfl
      have g1 := hg 1 _ rfl
      have g2 := hg 2 _ rfl
      have g3 := hg 3 _ rfl
      have g4 := hg 4 _ rfl
      simp [cells_int_, cells_str_, cells_errno, cells_strs, Value.cells] at g0 g1 g2 g3 g4
      obtain ⟨e, e0, f0, w0⟩ := DataW.trod_int Tryd.underlying37 g0
      obtain ⟨s, e1, f1, w1⟩ := DataW.trod_string Tryd.underlying9 g1
      obtain ⟨a, e2, f2, w2⟩ := DataW.trod_int Tryd.underlying3 g2
      obtain ⟨b, e3, f3, w3⟩ := DataW.trod_int Tryd.underlying3 g3
      obtain ⟨A, c, l, e4, hc, hC⟩ := open_strs g4
      simp only [List.cons.injEq, and_true] at e0 e1 e2 e3 e4
      subst e0 e1 e2 e3 e4
      exact ⟨e, s, a, b, A, c, l, rfl, hc, hC⟩

theorem laidOut_prog : laidOutB Tryd.prog = true := by kernel_rfl
theorem read_reply : Tryd.prog.readableRec 40 = true := by kernel_rfl
theorem row_reply : 40 < Tryd.prog.types.size := of_decide_eq_true (by kernel_rfl)
theorem reply_stays {H : Type} {enc : TypeId × Value → H} {base : Nat} {W W' : World} {v : Value} {d : DataW H} {p : List MemPlace} (h : DataW.Trod enc Tryd.prog W base (fun _ => true) true 40 v d p)
    (hlt : ∀ x ∈ p, x.block < W.heap.size) (hb : Below W.heap.size W W') : DataW.Trod enc Tryd.prog W' base (fun b => decide (b < W.heap.size)) true 40 v d p :=
  Trod_stays laidOut_prog read_reply row_reply h (fun x hx => hb.same (hlt x hx)) (fun x hx => by simpa using hlt x hx)
end Go.Proofs.YtbfdaclekjgkfaaDoor

/- ReplySizes: the walk, out of the printed function. -/
namespace Go.Proofs.YtbfdaclekjgkfaaDoor
open Go.RowKit Go.Proofs.YtbfdaclekjgkfaaDoorW.PrintWords Go.Proofs.YtbfdaclekjgkfaaDoorW.PrintLast Go.Proofs.YtbfdaclekjgkfaaDoorW.PrintMore

theorem kl_cons (l : List ByteArray) (i : Nat) (h : i < l.length) : (keysL (l.drop i)).length = 1 + l[i].size + (keysL (l.drop (i + 1))).length := by
  have hd : l.drop i = l[i] :: l.drop (i + 1) := List.drop_eq_getElem_cons h
  have h3 : keysL (l[i] :: l.drop (i + 1)) = (shortB l[i]).data.toList ++ keysL (l.drop (i + 1)) := by simp only [keysL, List.flatMap_cons]
  rw [hd, h3, List.length_append, ← Lib.size_eq, shortB_size]
theorem w_succ60 (k : Nat) (h : k + 1 ≤ 60) : wrap64 ((k : Int) + 1) = ((k + 1 : Nat) : Int) := wrap_small (k + 1) (by omega)
theorem w_add (x s : Nat) (h : x + s ≤ 100000) : wrap64 ((x : Int) + wrap64 (1 + (s : Int))) = ((x + (1 + s) : Nat) : Int) := by
  have h1 : wrap64 (1 + (s : Int)) = ((1 + s : Nat) : Int) := by
    have := wrap_small (1 + s) (by omega)
    rw [← this]
    congr 1
  rw [h1]
  have := wrap_small (x + (1 + s)) (by omega)
  rw [← this]
  congr 1

theorem sizes_no (e : Int) (v : ByteArray) (a b : Int) (l : List ByteArray) (hl : l.length ≤ 60) (hR : ¬ RepP e v a b l) : ∀ (n i : Nat) (x : Int), i ≤ l.length → l.length - i ≤ n →
    Ps.escutcheonlaw10_ReplySizes.l0 (n + 1) x l (l.length : Int) (i : Int) e v a b l = some true
  | n, i, x, hi, hn => by
    rw [Ps.escutcheonlaw10_ReplySizes.l0]
    by_cases h : i < l.length
    · rw [if_pos (by omega), if_pos (by omega), if_pos (by omega)]
      obtain ⟨m, rfl⟩ : ∃ m, n = m + 1 := ⟨n - 1, by omega⟩
      rw [w_succ60 i (by omega)]
      exact sizes_no e v a b l hl hR m (i + 1) _ (by omega) (by omega)
    · rw [if_neg (by omega)]
      unfold command_PutReply.f
      rw [if_neg hR]
      simp only [Option.bind_some]
      rw [if_neg (by decide)]
      exact congrArg some (by decide +kernel)
theorem sizes_yes (e : Int) (v : ByteArray) (a b : Int) (l : List ByteArray) (hR : RepP e v a b l) : ∀ (n i x : Nat), i ≤ l.length → l.length - i ≤ n → x + (keysL (l.drop i)).length = 20 + v.size + (keysL l).length →
    Ps.escutcheonlaw10_ReplySizes.l0 (n + 1) (x : Int) l (l.length : Int) (i : Int) e v a b l = some true
  | n, i, x, hi, hn, hx => by
    have h40 := hR.2.2.2.2.1
    have hkl := keysL_len l hR.2.2.2.2.2
    have hv := hR.2.2.2.1
    rw [Ps.escutcheonlaw10_ReplySizes.l0]
    by_cases h : i < l.length
    · rw [if_pos (by omega), if_pos (by omega), if_pos (by omega)]
      obtain ⟨m, rfl⟩ : ∃ m, n = m + 1 := ⟨n - 1, by omega⟩
      have hr : rdOf ByteArray.empty l (i : Int) = l[i] := by simp [rdOf, List.getD, h]
      have hc := kl_cons l i h
      rw [w_succ60 i (by omega), hr, w_add x l[i].size (by omega)]
      exact sizes_yes e v a b l hR m (i + 1) _ (by omega) (by omega) (by omega)
    · rw [if_neg (by omega)]
      have h0 : l.drop i = [] := List.drop_eq_nil_of_le (by omega)
      rw [h0] at hx
      have hx' : x = 20 + v.size + (keysL l).length := hx
      have hz := repS_size e v a b l
      unfold command_PutReply.f
      rw [if_pos hR]
      simp only [Option.bind_some]
      rw [if_pos trivial, if_pos (by rw [hz, hx'])]
theorem rsizes_f (e : Int) (v : ByteArray) (a b : Int) (l : List ByteArray) : Ps.escutcheonlaw10_ReplySizes.f 62 e v a b l = some true := by
  have hjt : Ps.escutcheonlaw10_ReplySizes.j0 (61 + 1) true e v a b l = some true := by
    rw [Ps.escutcheonlaw10_ReplySizes.j0, if_pos rfl]
    rfl
  unfold Ps.escutcheonlaw10_ReplySizes.f
  by_cases h1 : (v.size : Int) > 600
  · rw [if_pos h1]; exact hjt
  by_cases h2 : (l.length : Int) > 60
  · rw [if_neg h1, if_pos h2]; exact hjt
  rw [if_neg h1, if_neg h2]
  show Ps.escutcheonlaw10_ReplySizes.j0 (61 + 1) false e v a b l = some true
  rw [Ps.escutcheonlaw10_ReplySizes.j0, if_neg (by decide)]
  by_cases hR : RepP e v a b l
  · have hw : wrap64 (20 + (v.size : Int)) = ((20 + v.size : Nat) : Int) := by
      have := wrap_small (20 + v.size) (by omega)
      rw [← this]
      congr 1
    rw [hw]
    exact sizes_yes e v a b l hR 60 0 _ (by omega) (by omega) (by rw [List.drop_zero])
  · exact sizes_no e v a b l (by omega) hR 60 0 _ (by omega) (by omega)
theorem rsizes_walk (e : Int) (v : ByteArray) (a b : Int) (A : Option Addr) (c : Nat) (l : List ByteArray) (w : World) (hL : Laid w) (h : l.length ≤ c ∧ Kd.C Kd.string w A l.length l) :
    Calls Tryd.prog 8 #[.agg #[.int .i64 e, .string v, .int .i64 a, .int .i64 b, .slice A l.length c]] w fun x w' => x = .returned (.bool true) ∧ Below w.heap.size w w' :=
  Ps.escutcheonlaw10_ReplySizes.calls 62 e v a b A c l true w h.2 h.1 (rsizes_f e v a b l) hL
end Go.Proofs.YtbfdaclekjgkfaaDoor

/- ReplySizes: the row and its card. Conditions: the two listed variables of the library hold what their initialisers lay (the card ties that). -/
namespace Go.Proofs.YtbfdaclekjgkfaaDoor.replySizes
open Go.ChangeShapes Go.WideShapes Go.ChangeAt Go.RowKit Go.Joins
open Go.ChangeMaps (open_string shut_string)

set_option maxRecDepth 100000 in
theorem contract (H : Type) (enc : TypeId × Value → H) (W : World) (base : Nat) (args : Array Value) (ds gs : List (DataW H)) (before : List MemPlace)
    (hval : ∀ (j : Nat) t v, Tryd.f8.params[j]? = some t → args[j]? = some v → Value.okWide Tryd.prog W .any base t v)
    (hW : DataW.Whole enc Tryd.prog Tryd.f8.params.toList Rows.replySizesSpec.vars false W args.toList ds gs before) (hsz0 : (DataW.weightsEach Tryd.prog (Tryd.f8.params.toList ++ Rows.replySizesSpec.plain.varTypes Tryd.prog) (ds ++ gs)).all (· ≤ reachBytes) = true) (hL : Laid W) :
    Calls Tryd.prog 8 args W fun e W' => ∃ v, e = .returned v ∧ Rows.replySizesSpec.post enc Tryd.prog Tryd.f8 false true false false W args v W' := by
  have hW' := hW
  obtain ⟨p, q, hA0, hV, rfl, hfz, hnd⟩ := hW
  have hA : DataW.TrodAll enc Tryd.prog W 0 (fun _ => true) true Tryd.f8.params.toList args.toList ds p := hA0
  have hsz := hsz0
  rw [Tryd.params8] at hA hval
  obtain ⟨v0, vs0, d0, ds0, p0, q0, hargs, rfl, rfl, h0, r0⟩ := trodAll_cons hA
  obtain ⟨rfl, rfl, rfl⟩ := trodAll_nil r0
  obtain rfl : args = #[v0] := by cases args; simp_all
  obtain ⟨rfl, rfl⟩ := trodVars_none hV
  obtain ⟨a0_0, a0_1, a0_2, a0_3, a0_4, a0_5, a0_6, rfl, b0⟩ := open_reply (hval 0 40 v0 rfl rfl) h0
  have hlt := DataW.TrodAll.lt hA0
  clear hA0
  simp only [List.append_nil] at hW'
  refine (rsizes_walk a0_0 a0_1 a0_2 a0_3 a0_4 a0_5 a0_6 W hL b0).mono fun e W' ⟨he, hb⟩ => ?_
  subst he
  refine ⟨_, rfl, _, _, _, [], (p0 ++ ([])), [], hW', ?_, ?_, ?_, hb.frame _, fun h => by cases h⟩
  · exact trodAll_mk1 (shut_bool Tryd.underlying4 true)
  · exact (trodAll_cons_mk (reply_stays h0 (fun x hx => hlt x (by simp [hx])) hb) trodAll_mk0)
  · rfl

theorem reads (os : Os) {H : Type} (enc : TypeId × Value → H) : ∃ places, DataW.whole enc Tryd.prog ((laidWorld os).forCall (fun _ _ => 0) ⟨#[], #[.agg #[.int .i64 0, .string ByteArray.empty, .int .i64 0, .int .i64 0, .slice none 0 0]], []⟩).memory Tryd.f8.params.toList Rows.replySizesSpec.vars false (#[.agg #[.int .i64 0, .string ByteArray.empty, .int .i64 0, .int .i64 0, .slice none 0 0]] : Array Value).toList 8 = some ([.agg [.lit (.int .i64 0), .lit (.string []), .lit (.int .i64 0), .lit (.int .i64 0), .nil]], [], places) :=
  ⟨[], by kernel_rfl⟩

set_option maxRecDepth 100000 in
theorem lifted (os : Os) (started : os.Started) (H : Type) (enc : TypeId × Value → H) (F : Stop.Interp) :
    ReturnsInHanded {} Tryd.checked os 8 .any ((OpenSpec.ofChange Rows.replySizesSpec).preRow enc Tryd.prog Tryd.f8 Rows.replySizesRow.domain false Rows.replySizesRow.laid) (((OpenSpec.ofChange Rows.replySizesSpec).at F).post enc Tryd.prog Tryd.f8 false true false false) := by
  obtain ⟨places, hx⟩ := reads os enc
  refine returnsInHanded_of_row (C := Tryd.checked) (s := OpenSpec.ofChange Rows.replySizesSpec) own started (by kernel_rfl) Tryd.func8
    (witness_row_atRef (enc := enc) (C := Tryd.checked) false (laidWorld os) #[.agg #[.int .i64 0, .string ByteArray.empty, .int .i64 0, .int .i64 0, .slice none 0 0]] rfl (by kernel_rfl) (by kernel_rfl) (by kernel_rfl)
      (OpenSpec.preRow_of_cond 8 hx (by kernel_rfl) (fun k hk => by cases hk) (by kernel_rfl) (laid_met os _))) ?_
  intro W base args ds gs before hval hW _ _ hsz hL _ _
  exact contract H enc W base args ds gs before hval hW hsz (laid_of hL (.tail _ (.head _)))

theorem said : Rows.ReplySizesSaid :=
  OpenClaim.holds_of_cond 8 Tryd.f8 rfl rfl rfl rfl rfl rfl rfl ⟨rfl, rfl, rfl, rfl, rfl⟩ rfl rfl rfl rfl rfl (by kernel_rfl) Tryd.func8 (by kernel_rfl)
    (of_decide_eq_true (by kernel_rfl)) (by unfold Func.isWrapper; rw [if_neg (of_decide_eq_false (by kernel_rfl))]; exact ⟨rfl, rfl⟩)
    (fun os started H enc _ F => by rw [OpenClaim.pre_eq_preRow]; exact lifted os started H enc F)

theorem plain (f : FuncId) (fn : Func) (hf : Tryd.pinned.checked.prog.funcNamed "escutcheon/escutcheonlaw10.ReplySizes" = some f) (hfn : Tryd.pinned.checked.prog.funcs[f]? = some fn) :
    false = Tryd.pinned.checked.prog.looks [] ∧ ∀ (j : Nat) t, fn.params[j]? = some t → Tryd.pinned.checked.prog.wantsStandIn t = false := by
  obtain rfl : f = 8 := Option.some.inj ((show Tryd.prog.funcNamed "escutcheon/escutcheonlaw10.ReplySizes" = some 8 by kernel_rfl).symm.trans hf) |>.symm
  obtain rfl : fn = Tryd.f8 := (Option.some.inj (Tryd.func8.symm.trans hfn)).symm
  refine ⟨by kernel_rfl, fun j t ht => ?_⟩
  rw [Tryd.params8] at ht
  have hm := Array.mem_of_getElem? ht
  have hc : t = 40 := by simpa using hm
  rcases hc with rfl
  exact (show Tryd.prog.wantsStandIn 40 = false by kernel_rfl)

/-- The card. -/
theorem card : Rows.ReplySizesCardSaid :=
  Claim7.holds_tied_plain_at .later [] _ _ _ _ said (fun _ h => by cases h) (by kernel_rfl) (fun _ h => by cases h) replySizes_row_tie rfl ⟨rfl, rfl⟩ (by kernel_rfl) rfl plain (by kernel_rfl)
end Go.Proofs.YtbfdaclekjgkfaaDoor.replySizes
