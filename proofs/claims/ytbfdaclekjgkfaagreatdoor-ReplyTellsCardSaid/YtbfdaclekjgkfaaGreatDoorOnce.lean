/- An operation's name: the list of names is made by a sync.Once of the call's own; the walk of that. -/
import Derived.Test.YtbfdaclekjgkfaaGreatDoorShelf
import Derived.WalkKit
import Derived.WalkSpells
import Derived.WalkLawsBesides
import Derived.Defers
import Derived.Laws.LoneSync
import Derived.RegionTactic
import Derived.RegionCalls
import Derived.Deep.RegionLawGrows
import Derived.Deep.CutBlock
namespace Go.Proofs.YtbfdaclekjgkfaaGreatDoor
open Go.RowKit

theorem disable (w : World) : (callFunc 100 #[]).run Tryz.prog w = .ok (.value (.tuple #[])) w := run_call_mark0 Tryz.func100 (by kernel_rfl) (by kernel_rfl) (by kernel_rfl) .disable (by kernel_rfl) w
theorem enable (w : World) : (callFunc 102 #[]).run Tryz.prog w = .ok (.value (.tuple #[])) w := run_call_mark0 Tryz.func102 (by kernel_rfl) (by kernel_rfl) (by kernel_rfl) .enable (by kernel_rfl) w
theorem acquire (a : Addr) (w : World) : (callFunc 103 #[.pointer (some a)]).run Tryz.prog w = .ok (.value (.tuple #[])) w := run_call_marked Tryz.func103 (by kernel_rfl) (by kernel_rfl) (by kernel_rfl) .acquire (by kernel_rfl) a w
theorem releaseMerge (a : Addr) (w : World) : (callFunc 105 #[.pointer (some a)]).run Tryz.prog w = .ok (.value (.tuple #[])) w := run_call_marked Tryz.func105 (by kernel_rfl) (by kernel_rfl) (by kernel_rfl) .releaseMerge (by kernel_rfl) a w

theorem store_deferred (a : Addr) (x : Value) (u : FrameMode) (w : World) (hc : w.cell? a = some x) (hz : w.frozen? a = false) :
    CallsD Tryz.prog 92 #[.pointer (some a), .bool true] u w fun e u' w' => u' = u ∧ (e = .returned (.tuple #[]) ∧ w' = w.drew.setCell a (.int .u32 1)) := by
  have hc' : w.drew.cell? a = some x := by go_simp
  have hz' : w.drew.frozen? a = false := by go_simp
  have hst := run_call_store (P := Tryz.prog) Tryz.func96 (by kernel_rfl) (by kernel_rfl) (by kernel_rfl) (by kernel_rfl) (k := .u32) (y := 1) hc' hz'
  go_enter_d Tryz.func92, Tryz.ntmps92
  go_wp2
  go_region_calls
  all_goals (go_end0; exact ⟨rfl, rfl⟩)

set_option maxRecDepth 100000 in
theorem unlock_deferred (a : Addr) (u : FrameMode) (w : World) (hc : w.cell? a = some (.int .i32 1)) (hz : w.frozen? a = false) :
    CallsD Tryz.prog 91 #[.pointer (some a)] u w fun e u' w' => u' = u ∧ (e = .returned (.tuple #[]) ∧ w' = w.setCell a (.int .i32 0)) := by
  have hd := disable
  have he := enable
  have hr := releaseMerge
  have hadd := run_call_add (P := Tryz.prog) Tryz.func106 (by kernel_rfl) (by kernel_rfl) (by kernel_rfl) .i32 (by kernel_rfl) (y := -1) (s := 0) hc hz (by simp [go_sem]; rfl)
  have hcv := run_convert_to_unsafe (P := Tryz.prog) (src := 163) (dst := 133) Tryz.underlying163 Tryz.underlying133 (by kernel_rfl) hc
  go_enter_d Tryz.func91, Tryz.ntmps91
  go_wp2
  go_end0
  go_wp2
  go_end0
  exact ⟨rfl, rfl⟩

set_option maxRecDepth 100000 in
theorem lock_free (a : Addr) (w : World) (hc : w.cell? a = some (.int .i32 0)) (hz : w.frozen? a = false) :
    Calls Tryz.prog 90 #[.pointer (some a)] w fun e w' => e = .returned (.tuple #[]) ∧ w' = w.setCell a (.int .i32 1) := by
  have hd := disable
  have he := enable
  have ha := acquire
  have hcas := run_call_cas_hit (P := Tryz.prog) Tryz.func101 (by kernel_rfl) (by kernel_rfl) (by kernel_rfl) .i32 (by kernel_rfl) (y := 1) hc hz
  have hc' : (w.setCell a (.int .i32 1)).cell? a = some (.int .i32 1) := World.cell?_setCell_same w a _ hc
  have hcv := run_convert_to_unsafe (P := Tryz.prog) (src := 163) (dst := 133) Tryz.underlying163 Tryz.underlying133 (by kernel_rfl) hc'
  go_enter Tryz.func90, Tryz.ntmps90
  go_wp2
  first | go_end0 | (simp only [Exit.inBlock, Exit.then]; refine bodyPost_ret (results_none rfl _ _ _) rfl ?_) | refine bodyPost_ret (results_none rfl _ _ _) rfl ?_
  go_wp2
  go_end0
  exact ⟨rfl, rfl⟩

set_option maxRecDepth 100000 in
set_option maxHeartbeats 800000 in
theorem slow_first (F : Nat) (b off : Nat) (caps : Array Value) (w : World) (R : World → Prop)
    (h0 : w.cell? ⟨b, off, none⟩ = some (.int .u32 0)) (h1 : w.cell? ⟨b, off + 1, none⟩ = some (.int .i32 0))
    (f1 : w.frozen? ⟨b, off + 1, none⟩ = false)
    (hcl : Calls Tryz.prog F caps (w.setCell ⟨b, off + 1, none⟩ (.int .i32 1)) fun e W' => e = .returned (.tuple #[]) ∧ R W')
    (hR : ∀ W', R W' → W'.cell? ⟨b, off, none⟩ = some (.int .u32 0) ∧ W'.cell? ⟨b, off + 1, none⟩ = some (.int .i32 1) ∧ W'.frozen? ⟨b, off, none⟩ = false ∧ W'.frozen? ⟨b, off + 1, none⟩ = false)
    (hen : ∀ args w, (callFunc F args).run Tryz.prog w = .ok (.enter F args) w) :
    Calls Tryz.prog 86 #[.pointer (some ⟨b, off, none⟩), .func (.func F) #[] caps] w fun e w' => e = .returned (.tuple #[]) ∧
      ∃ W', R W' ∧ w' = (W'.drew.setCell ⟨b, off, none⟩ (.int .u32 1)).setCell ⟨b, off + 1, none⟩ (.int .i32 0) := by
  have hl := run_call_load (P := Tryz.prog) Tryz.func89 (by kernel_rfl) (by kernel_rfl) (by kernel_rfl) .u32 (by kernel_rfl) (w := w.setCell ⟨b, off + 1, none⟩ (.int .i32 1)) (a := ⟨b, off, none⟩) (x := 0) ((World.cell?_setCell_other _ ⟨b, off + 1, none⟩ ⟨b, off, none⟩ _ (by simp)).trans h0)
  have hnot : ∀ (x : Bool) (w : World), (Op.unary .not (.bool x)).run Tryz.prog w = .ok (.bool (!x)) w := fun _ _ => rfl
  go_enter_defers Tryz.func86, Tryz.ntmps86
  go_wp2_with (go_at_call 90; refine (lock_free ⟨b, off + 1, none⟩ _ (by go_simp) (by go_simp)).mono ?_; rintro e w' ⟨rfl, rfl⟩)
  go_wp2_with (first | (go_at_call 85; go_in) | fail)
  clear hl
  refine hcl.mono ?_
  rintro e W' ⟨rfl, hr⟩
  obtain ⟨r0, r1, z0, z1⟩ := hR _ hr
  go_wp2
  refine leaves_cons (f := 92) (args := #[.pointer (some ⟨b, off, none⟩), .bool true]) (by simp) (by simp [go_sem]) ?_
  refine (store_deferred ⟨b, off, none⟩ (.int .u32 0) .returning _ r0 z0).mono ?_
  rintro e u' w'' ⟨rfl, rfl, rfl⟩
  refine leaves_cons (f := 91) (args := #[.pointer (some ⟨b, off + 1, none⟩)]) (by simp [settle]) (by simp [go_sem]) ?_
  refine (unlock_deferred ⟨b, off + 1, none⟩ _ _ ?_ (by simp [z1])).mono ?_
  · refine (World.cell?_setCell_other _ ⟨b, off, none⟩ ⟨b, off + 1, none⟩ _ (by simp)).trans ?_
    rw [World.cell?_drew]
    exact r1
  rintro e u' w'' ⟨rfl, rfl, rfl⟩
  exact ⟨_, results_none rfl _ _ _, rfl, W', hr, rfl⟩

set_option maxRecDepth 100000 in
set_option maxHeartbeats 800000 in
/-- '(*sync.Once).Do' of a Once that was not done yet, its lock free; what the function does is told by R. -/
theorem once_first (F : Nat) (b off : Nat) (caps : Array Value) (w : World) (R : World → Prop)
    (h0 : w.cell? ⟨b, off, none⟩ = some (.int .u32 0)) (h1 : w.cell? ⟨b, off + 1, none⟩ = some (.int .i32 0))
    (f1 : w.frozen? ⟨b, off + 1, none⟩ = false)
    (hcl : Calls Tryz.prog F caps (w.setCell ⟨b, off + 1, none⟩ (.int .i32 1)) fun e W' => e = .returned (.tuple #[]) ∧ R W')
    (hR : ∀ W', R W' → W'.cell? ⟨b, off, none⟩ = some (.int .u32 0) ∧ W'.cell? ⟨b, off + 1, none⟩ = some (.int .i32 1) ∧ W'.frozen? ⟨b, off, none⟩ = false ∧ W'.frozen? ⟨b, off + 1, none⟩ = false)
    (hen : ∀ args w, (callFunc F args).run Tryz.prog w = .ok (.enter F args) w) :
    Calls Tryz.prog 79 #[.pointer (some ⟨b, off, none⟩), .func (.func F) #[] caps] w fun e w' => e = .returned (.tuple #[]) ∧
      ∃ W', R W' ∧ w' = (W'.drew.setCell ⟨b, off, none⟩ (.int .u32 1)).setCell ⟨b, off + 1, none⟩ (.int .i32 0) := by
  have hl := run_call_load (P := Tryz.prog) Tryz.func89 (by kernel_rfl) (by kernel_rfl) (by kernel_rfl) .u32 (by kernel_rfl) h0
  have hnot : ∀ (x : Bool) (w : World), (Op.unary .not (.bool x)).run Tryz.prog w = .ok (.bool (!x)) w := fun _ _ => rfl
  go_enter Tryz.func79, Tryz.ntmps79
  go_wp2_with (first | (go_at_call 86; refine (slow_first F b off caps _ R h0 h1 f1 hcl hR hen).mono ?_; rintro e w' ⟨rfl, W', hr, rfl⟩) | (go_at_call 85; go_in))
  go_end0
  exact ⟨rfl, W', hr, rfl⟩
end Go.Proofs.YtbfdaclekjgkfaaGreatDoor
