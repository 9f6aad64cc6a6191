/- CommandSizes: the walk, out of the printed function. -/
import Derived.Test.YtbfdaclekjgkfaaDoorWrap2
import Derived.Test.YtbfdaclekjgkfaaDoorPl3
namespace Go.Proofs.YtbfdaclekjgkfaaDoor
open Go.RowKit Go.Proofs.YtbfdaclekjgkfaaDoorW.PrintWords Go.Proofs.YtbfdaclekjgkfaaDoorW.PrintLast Go.Proofs.YtbfdaclekjgkfaaDoorW.PrintMore

theorem bt_put {op : Int} {k v : ByteArray} {a b : Int} (h : RightP op k.size v.size a b) : bt (putS op k v a b) 0 = op % 256 := by
  have h' := h
  obtain ⟨h1, h2, -⟩ := h'
  rw [putS_yes h]
  refine (bt_bs _ 0 (by rw [putL_length]; omega)).trans ?_
  show ((UInt8.ofNat (op % 256).toNat).toNat : Int) = op % 256
  rw [ofNat_toNat_mod op (by omega) (by omega)]
  omega
theorem sizes_f (op : Int) (k v : ByteArray) (a b : Int) : Pl.escutcheonlaw10_CommandSizes.f 1 op k v a b = some true := by
  have hj : ∀ x, Pl.escutcheonlaw10_CommandSizes.j0 (0 + 1) true op k v a b = some x → x = true := by
    intro x h
    simp only [Pl.escutcheonlaw10_CommandSizes.j0, escutcheonlaw10_alive.f, Option.bind_some, if_true] at h
    exact (Option.some.inj h).symm
  have hjt : Pl.escutcheonlaw10_CommandSizes.j0 (0 + 1) true op k v a b = some true := rfl
  unfold Pl.escutcheonlaw10_CommandSizes.f
  by_cases h1 : (k.size : Int) > 100
  · rw [if_pos h1]; exact hjt
  by_cases h2 : (v.size : Int) > 600
  · rw [if_neg h1, if_pos h2]; exact hjt
  rw [if_neg h1, if_neg h2]
  unfold escutcheonlaw10_alive.f
  simp only [Option.bind_some, Bool.not_true]
  show Pl.escutcheonlaw10_CommandSizes.j0 (0 + 1) false op k v a b = some true
  rw [Pl.escutcheonlaw10_CommandSizes.j0, if_neg (by decide)]
  unfold command_Put.f command_Right.f
  simp only [Option.bind_some]
  cases hr : rightB op k.size v.size a b with
  | true =>
    have hR := of_decide_eq_true hr
    have hz := putS_size hR
    rw [if_pos rfl, hz, if_pos (by unfold wrap64; omega), if_pos (by omega), bt_put hR]
    simp
  | false =>
    rw [if_neg (by decide)]
    have : putS op k v a b = ⟨#[]⟩ := by unfold putS; rw [hr]; rfl
    rw [this, if_pos (by decide +kernel)]
    rfl
theorem sizes_walk (op : Int) (k v : ByteArray) (a b : Int) (w : World) (hL : Laid w) (_hz : k.size ≤ 9223372036854775807 ∧ v.size ≤ 9223372036854775807) :
    Calls Tryd.prog 6 #[.agg #[.int .i64 op, .string k, .string v, .int .i64 a, .int .i64 b]] w fun e w' => e = .returned (.bool true) ∧ Below w.heap.size w w' :=
  Pl.escutcheonlaw10_CommandSizes.calls 1 op k v a b true w (sizes_f op k v a b) hL
end Go.Proofs.YtbfdaclekjgkfaaDoor
