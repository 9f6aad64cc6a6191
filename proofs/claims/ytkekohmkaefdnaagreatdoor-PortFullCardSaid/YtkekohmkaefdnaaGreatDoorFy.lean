import Derived.Test.YtkekohmkaefdnaaGreatDoorNw
import Derived.Test.YtkekohmkaefdnaaGreatDoorPt
import Derived.Test.YtkekohmkaefdnaaGreatDoorPo
import Derived.Test.YtkekohmkaefdnaaGreatDoorPy

/- The server does the first set. -/
set_option linter.unusedVariables false
namespace Go.Proofs.YtkekohmkaefdnaaGreatDoor
open Go.RowKit Go.Maps Go.Shelf Go.Proofs.YtkekohmkaefdnaaGreatDoorW.PrintWords Go.Proofs.YtkekohmkaefdnaaGreatDoorW.PrintLast Go.Proofs.YtkekohmkaefdnaaGreatDoor.Pa
attribute [local go_sem ↓] Go.wp_at_zero Go.wp_at_succ

def userA : ByteArray := ⟨#[97, 110, 110]⟩
/-- What the first set needs: a server that is new. -/
structure ReadyAt (w : World) (p mb cb tb rb : Nat) (u : Value) (A : Option Addr) (c : Nat) (ids : Int) : Prop where
  port : At w p (portV u (.slice A 1 c) (.pointer (some ⟨cb, 0, none⟩)) (.pointer (some ⟨rb, 0, none⟩)) ids 0 mb) TPort
  cap : 1 ≤ c
  rules : Kd.C k145 w A 1 [ruleAnn]
  cache : At w cb (cacheV 100 tb (.slice none 0 0) 0 0 0) TCache
  table : At w tb (tableV false (.slice none 0 0) 0) TTable
  ring_ : At w rb (ringV 2 (.slice none 0 0) 0) TRing

theorem C_tch {w w1 : World} {A : Option Addr} (h : Kd.C k145 w A 1 [ruleAnn]) (t : Tch (fun _ => False) w w1) : Kd.C k145 w1 A 1 [ruleAnn] :=
  Kd.C_below h ⟨t.os, t.tape, t.output, t.size, fun k hk => t.block k hk (fun h => h)⟩

set_option maxHeartbeats 4000000 in
set_option maxRecDepth 100000 in
theorem do_set (p mb cb tb rb : Nat) (u : Value) (A : Option Addr) (c : Nat) (ids : Int) (w : World) (h : ReadyAt w p mb cb tb rb u A c ids) :
    Calls Tryz.prog 39 #[.pointer (some ⟨p, 0, none⟩), .string userA, cmdA] w fun e w' => e = .returned (.tuple #[repV 1, .bool true]) ∧ LaidOne (fun k => k = cb ∨ k = tb ∨ k = rb) w cb tb 100 valX 1 0 18 1 0 w' := by
  obtain ⟨hp, hcap, hru, hc, ht, hr⟩ := h
  have hpl := hp.lt
  have hcl := hc.lt
  have htl := ht.lt
  have hrl := hr.lt
  have hpr : p ≠ rb := at_ne2 hp hr (by decide)
  have hcr : cb ≠ rb := at_ne2 hc hr (by decide)
  have htr : tb ≠ rb := at_ne2 ht hr (by decide)
  have hpc : p ≠ cb := at_ne2 hp hc (by decide)
  have hpt : p ≠ tb := at_ne2 hp ht (by decide)
  have t0 : Tch (fun _ => False) w ((w.alloc (.cells #[.int .i64 2, .string keyA, .string valX, .int .i64 0, .int .i64 0] TCmd)).alloc (.cells #[.int .i64 0, .string ⟨#[]⟩, .int .i64 0, .int .i64 0, .slice none 0 0] TReply)) := ((Tch.refl _ w).talloc).talloc
  have ca : At ((w.alloc (.cells #[.int .i64 2, .string keyA, .string valX, .int .i64 0, .int .i64 0] TCmd)).alloc (.cells #[.int .i64 0, .string ⟨#[]⟩, .int .i64 0, .int .i64 0, .slice none 0 0] TReply)) w.heap.size cmdL TCmd := (At.new w _ _).alloc _
  have cr : At ((w.alloc (.cells #[.int .i64 2, .string keyA, .string valX, .int .i64 0, .int .i64 0] TCmd)).alloc (.cells #[.int .i64 0, .string ⟨#[]⟩, .int .i64 0, .int .i64 0, .slice none 0 0] TReply)) (w.heap.size + 1) repL0 TReply := at_new' _ _ _ _ (by simp)
  obtain ⟨W0, hW0⟩ : ∃ W0, ((w.alloc (.cells #[.int .i64 2, .string keyA, .string valX, .int .i64 0, .int .i64 0] TCmd)).alloc (.cells #[.int .i64 0, .string ⟨#[]⟩, .int .i64 0, .int .i64 0, .slice none 0 0] TReply)) = W0 := ⟨_, rfl⟩
  rw [hW0] at t0 ca cr
  have hp0 := hp.tch t0 (fun h => h)
  have hru0 := C_tch hru t0
  have hcl2 := fun W => Pb.command_Class.calls 60 2 2 W class_set
  have hde := fun W (t : Tch (fun _ => False) W0 W) => Pa.acl_Decide.calls 60 A c [ruleAnn] userA 2 keyA true 0 W (C_tch hru0 t) hcap decide_ann
  have mk : ∀ W' : World, Tch (fun _ => False) W0 W' → (W'.cell? ⟨p, 1, none⟩ = some (.slice A 1 c) ∧ W'.cell? ⟨w.heap.size, 0, none⟩ = some (.int .i64 2) ∧ W'.cell? ⟨w.heap.size, 1, none⟩ = some (.string keyA) ∧ Tch (fun _ => False) W0 W') := fun W' t => ⟨(hp0.tch t (fun h => h)).cell 1 rfl, (ca.tch t (fun h => h)).cell 0 rfl, (ca.tch t (fun h => h)).cell 1 rfl, t⟩
  have HP := Lib.hid hp
  have HC := Lib.hid hc
  have HT := Lib.hid ht
  have HR := Lib.hid hr
  have CA := Lib.hid ca
  have CR := Lib.hid cr
  have T0 := Lib.hid t0
  clear hp hc ht hr ca cr t0 hp0 hru hru0
  go_enter Tryz.func39, Tryz.ntmps39
  go_wp2
  clear hW0
  generalize hga : w.heap.size = ga at *
  go_region_held3 (fun W' => W'.cell? ⟨p, 1, none⟩ = some (.slice A 1 c) ∧ W'.cell? ⟨ga, 0, none⟩ = some (.int .i64 2) ∧ W'.cell? ⟨ga, 1, none⟩ = some (.string keyA) ∧ Tch (fun _ => False) W0 W')
    ((go_split_ands; refine mk _ ?h1; (case h1 => (repeat (first | (with_reducible assumption) | (with_reducible exact Tch.refl _ _) | (with_reducible refine Tch.tdrew ?_) | (with_reducible refine Tch.tdrewN ?_) | (with_reducible refine Tch.talloc ?_) | (with_reducible refine Tch.tset ?_ ?_) | (with_reducible refine Tch.tbelow ?_ (by with_reducible assumption)) | (with_reducible refine Tch.ttch ?_ (by with_reducible assumption) ?_))))))
    (first | ((go_at_call 79; refine (hcl2 _).mono ?_; rintro e w3 ⟨rfl, n3, rfl⟩)) | ((go_at_call 82; refine (hde _ ?_).mono ?_; (repeat (first | (with_reducible assumption) | (with_reducible exact Tch.refl _ _) | (with_reducible refine Tch.tdrew ?_) | (with_reducible refine Tch.tdrewN ?_) | (with_reducible refine Tch.talloc ?_) | (with_reducible refine Tch.tset ?_ ?_) | (with_reducible refine Tch.tbelow ?_ (by with_reducible assumption)) | (with_reducible refine Tch.ttch ?_ (by with_reducible assumption) ?_))); rintro e w4 ⟨rfl, hb4⟩)))
  all_goals
    rename_i hH
    obtain ⟨-, -, -, t4⟩ := hH
    clear mk hde hcl2
    have t04 := T0.out.trans t4 (fun _ _ h => h)
    have hp4 := HP.out.tch t04 (fun h => h)
    have hr4 := HR.out.tch t04 (fun h => h)
    have ca4 := CA.out.tch t4 (fun h => h)
    have T04 := Lib.hid t04
    have T4 := Lib.hid t4
    have hadd := fun W (t : Tch (fun _ => False) w4 W) => ring_add rb userA 2 keyA true W (hr4.tch t (fun h => h))
    have hgr : ga ≠ rb := by omega
    have mk : ∀ W' : World, Tch (fun k => k = rb) w4 W' → (W'.cell? ⟨p, 3, none⟩ = some (.pointer (some ⟨rb, 0, none⟩)) ∧ W'.cell? ⟨ga, 0, none⟩ = some (.int .i64 2) ∧ W'.cell? ⟨ga, 1, none⟩ = some (.string keyA) ∧ Tch (fun k => k = rb) w4 W') := fun W' t => ⟨(hp4.tch t hpr).cell 3 rfl, (ca4.tch t hgr).cell 0 rfl, (ca4.tch t hgr).cell 1 rfl, t⟩
    clear t4 t04 hb4
    go_wp2
    go_region_held3 (fun W' => W'.cell? ⟨p, 3, none⟩ = some (.pointer (some ⟨rb, 0, none⟩)) ∧ W'.cell? ⟨ga, 0, none⟩ = some (.int .i64 2) ∧ W'.cell? ⟨ga, 1, none⟩ = some (.string keyA) ∧ Tch (fun k => k = rb) w4 W')
      ((go_split_ands; refine mk _ ?h1; (case h1 => ((repeat (first | (with_reducible assumption) | (with_reducible exact Tch.refl _ _) | (with_reducible refine Tch.tdrew ?_) | (with_reducible refine Tch.tdrewN ?_) | (with_reducible refine Tch.talloc ?_) | (with_reducible refine Tch.tset ?_ ?_) | (with_reducible refine Tch.tbelow ?_ (by with_reducible assumption)) | (with_reducible refine Tch.ttch ?_ (by with_reducible assumption) ?_))); all_goals exact fun _ _ h => h))))
      ((go_at_call 83; refine (hadd _ ?_).mono ?_; (repeat (first | (with_reducible assumption) | (with_reducible exact Tch.refl _ _) | (with_reducible refine Tch.tdrew ?_) | (with_reducible refine Tch.tdrewN ?_) | (with_reducible refine Tch.talloc ?_) | (with_reducible refine Tch.tset ?_ ?_) | (with_reducible refine Tch.tbelow ?_ (by with_reducible assumption)) | (with_reducible refine Tch.ttch ?_ (by with_reducible assumption) ?_))); rintro e w5 ⟨rfl, tt5⟩))
    all_goals
      rename_i hH
      obtain ⟨-, -, -, t5⟩ := hH
      clear mk hadd
      have t05 : Tch (fun k => k = rb) w w5 := (T04.out.mono (fun _ _ h => h.elim)).trans t5 (fun _ _ h => h)
      have hp5 := HP.out.tch t05 hpr
      have hc5 := HC.out.tch t05 hcr
      have ht5 := HT.out.tch t05 htr
      have ca5 := (CA.out.tch T4.out (fun h => h)).tch t5 hgr
      have cr5 := (CR.out.tch T4.out (fun h => h)).tch t5 (by omega)
      have T05 := Lib.hid t05
      have CR5 := Lib.hid cr5
      clear t5 t05 tt5
      have hdo := fun W (t : Tch (fun _ => False) w5 W) => do_any cb tb 100 0 0 0 W (by decide) (by decide) (by decide) (by decide) (by decide) (hc5.tch t (fun h => h)) (ht5.tch t (fun h => h))
      have hgc : ga ≠ cb := by omega
      have hgt : ga ≠ tb := by omega
      have npp : ¬ (p = cb ∨ p = tb ∨ p = ga + 1) := by omega
      have nga : ¬ (ga = cb ∨ ga = tb ∨ ga = ga + 1) := by omega
      have mk : ∀ W' : World, Tch (fun k => k = cb ∨ k = tb ∨ k = ga + 1) w5 W' → (W'.cell? ⟨p, 2, none⟩ = some (.pointer (some ⟨cb, 0, none⟩)) ∧ W'.cell? ⟨p, 5, none⟩ = some (.int .i64 0) ∧ W'.cell? ⟨ga, 0, none⟩ = some (.int .i64 2) ∧ W'.cell? ⟨ga, 1, none⟩ = some (.string keyA) ∧ W'.cell? ⟨ga, 2, none⟩ = some (.string valX) ∧ W'.cell? ⟨ga, 3, none⟩ = some (.int .i64 0) ∧ W'.cell? ⟨ga, 4, none⟩ = some (.int .i64 0) ∧ Tch (fun k => k = cb ∨ k = tb ∨ k = ga + 1) w5 W') := fun W' t => ⟨(hp5.tch t npp).cell 2 rfl, (hp5.tch t npp).cell 5 rfl, (ca5.tch t nga).cell 0 rfl, (ca5.tch t nga).cell 1 rfl, (ca5.tch t nga).cell 2 rfl, (ca5.tch t nga).cell 3 rfl, (ca5.tch t nga).cell 4 rfl, t⟩
      clear hc5 ht5
      go_wp2
      go_region_held3 (fun W' => W'.cell? ⟨p, 2, none⟩ = some (.pointer (some ⟨cb, 0, none⟩)) ∧ W'.cell? ⟨p, 5, none⟩ = some (.int .i64 0) ∧ W'.cell? ⟨ga, 0, none⟩ = some (.int .i64 2) ∧ W'.cell? ⟨ga, 1, none⟩ = some (.string keyA) ∧ W'.cell? ⟨ga, 2, none⟩ = some (.string valX) ∧ W'.cell? ⟨ga, 3, none⟩ = some (.int .i64 0) ∧ W'.cell? ⟨ga, 4, none⟩ = some (.int .i64 0) ∧ Tch (fun k => k = cb ∨ k = tb ∨ k = ga + 1) w5 W')
        ((go_split_ands; refine mk _ ?h1; (case h1 => ((repeat (first | (with_reducible assumption) | (with_reducible exact Tch.refl _ _) | (with_reducible refine Tch.tdrew ?_) | (with_reducible refine Tch.tdrewN ?_) | (with_reducible refine Tch.talloc ?_) | (with_reducible refine Tch.tset ?_ ?_) | (with_reducible refine Tch.tbelow ?_ (by with_reducible assumption)) | (with_reducible refine Tch.ttch ?_ (by with_reducible assumption) ?_))); all_goals (first | exact fun _ => .inr (.inr rfl) | exact fun _ _ h => h.elim .inl (fun h => .inr (.inl h)))))))
        (first | ((go_at_call 24; refine (now_cell p 0 _ ?_ (by decide) (by decide)).mono ?_; (simp [*]); rintro e wn ⟨rfl, rfl⟩)) | ((go_at_call 84; refine (hdo _ ?_).mono ?_; (repeat (first | (with_reducible assumption) | (with_reducible exact Tch.refl _ _) | (with_reducible refine Tch.tdrew ?_) | (with_reducible refine Tch.tdrewN ?_) | (with_reducible refine Tch.talloc ?_) | (with_reducible refine Tch.tset ?_ ?_) | (with_reducible refine Tch.tbelow ?_ (by with_reducible assumption)) | (with_reducible refine Tch.ttch ?_ (by with_reducible assumption) ?_))); rintro e w6 ⟨rfl, hl6⟩; have tt6 := hl6.2.2; have hr6 := (CR5.out.drew).tch tt6 (by omega); have r0 := hr6.cell 0 rfl; have r1 := hr6.cell 1 rfl; have r2 := hr6.cell 2 rfl; have r3 := hr6.cell 3 rfl; have r4 := hr6.cell 4 rfl; have z0 := hr6.frozen 0; have z1 := hr6.frozen 1; have z2 := hr6.frozen 2; have z3 := hr6.frozen 3; have z4 := hr6.frozen 4)))
      all_goals
        have hl6' : LaidOne (fun k => k = cb ∨ k = tb) w5.drew cb tb 100 valX 1 0 18 1 0 w6 := hl6
        have hl7 := hl6'.pre (w := w) (S2 := fun k => k = cb ∨ k = tb ∨ k = rb) (T05.out.tdrew) (fun k _ h => .inr (.inr h)) (fun k _ h => h.elim .inl (fun h => .inr (.inl h)))
        have t9 := tch_set5 w6 (ga + 1) (.int .i64 0) (.string ⟨#[]⟩) (.int .i64 0) (.int .i64 1) (.slice none 0 0)
        have a9 := at_set5 hr6 (.int .i64 0) (.string ⟨#[]⟩) (.int .i64 0) (.int .i64 1) (.slice none 0 0)
        have hl9 := hl7.after t9 (fun k h => by omega) (by omega) (by omega) (fun k cs h => at_ne2 h hr6 (by decide)) (fun k cs h => at_ne2 h hr6 (by decide))
        obtain ⟨W9, hW9⟩ : ∃ W9, (((((w6.setCell ⟨ga + 1, 0, none⟩ (.int .i64 0)).setCell ⟨ga + 1, 1, none⟩ (.string ⟨#[]⟩)).setCell ⟨ga + 1, 2, none⟩ (.int .i64 0)).setCell ⟨ga + 1, 3, none⟩ (.int .i64 1)).setCell ⟨ga + 1, 4, none⟩ (.slice none 0 0)) = W9 := ⟨_, rfl⟩
        rw [hW9] at a9 hl9 ⊢
        have d0 := a9.cell 0 rfl
        have d1 := a9.cell 1 rfl
        have d2 := a9.cell 2 rfl
        have d3 := a9.cell 3 rfl
        have d4 := a9.cell 4 rfl
        have HL9 := Lib.hid hl9
        clear hl9 hl7 hl6 hl6' tt6 hr6 t9 a9 hW9 r0 r1 r2 r3 r4 z0 z1 z2 z3 z4 mk hdo
        go_wp2
        refine bodyPost_ret (v := .tuple #[repV 1, .bool true]) (by simp [results, Tryz.results39, go_sem, d0, d1, d2, d3, d4]) rfl ⟨rfl, HL9.out⟩

set_option maxHeartbeats 4000000 in
set_option maxRecDepth 100000 in
theorem plain_set (p mb cb tb rb : Nat) (u : Value) (A : Option Addr) (c : Nat) (ids : Int) (w : World) (h : ReadyAt w p mb cb tb rb u A c ids) :
    Calls Tryz.prog 11 #[.pointer (some ⟨p, 0, none⟩), .string userA, cmdA] w fun e w' => e = .returned (repV 1) ∧ LaidOne (fun k => k = cb ∨ k = tb ∨ k = rb) w cb tb 100 valX 1 0 18 1 0 w' := by
  have hcl := h.cache.lt
  have htl := h.table.lt
  have hpl := h.port.lt
  have hrl := h.ring_.lt
  have t0 : Tch (fun _ => False) w ((w.alloc (.cells #[.int .i64 2, .string keyA, .string valX, .int .i64 0, .int .i64 0] TCmd)).alloc (.cells #[.int .i64 0, .string ⟨#[]⟩, .int .i64 0, .int .i64 0, .slice none 0 0] TReply)) := ((Tch.refl _ w).talloc).talloc
  have ca : At ((w.alloc (.cells #[.int .i64 2, .string keyA, .string valX, .int .i64 0, .int .i64 0] TCmd)).alloc (.cells #[.int .i64 0, .string ⟨#[]⟩, .int .i64 0, .int .i64 0, .slice none 0 0] TReply)) w.heap.size cmdL TCmd := (At.new w _ _).alloc _
  have cr : At ((w.alloc (.cells #[.int .i64 2, .string keyA, .string valX, .int .i64 0, .int .i64 0] TCmd)).alloc (.cells #[.int .i64 0, .string ⟨#[]⟩, .int .i64 0, .int .i64 0, .slice none 0 0] TReply)) (w.heap.size + 1) repL0 TReply := at_new' _ _ _ _ (by simp)
  obtain ⟨W0, hW0⟩ : ∃ W0, ((w.alloc (.cells #[.int .i64 2, .string keyA, .string valX, .int .i64 0, .int .i64 0] TCmd)).alloc (.cells #[.int .i64 0, .string ⟨#[]⟩, .int .i64 0, .int .i64 0, .slice none 0 0] TReply)) = W0 := ⟨_, rfl⟩
  rw [hW0] at t0 ca cr
  have hready : ∀ W, Tch (fun _ => False) w W → ReadyAt W p mb cb tb rb u A c ids := fun W t => ⟨h.port.tch t (fun h => h), h.cap, C_tch h.rules t, h.cache.tch t (fun h => h), h.table.tch t (fun h => h), h.ring_.tch t (fun h => h)⟩
  have hri := Pb.command_Right.calls 60 2 keyA valX 0 0 true W0 right_set
  have u0 := ca.cell 0 rfl
  have u1 := ca.cell 1 rfl
  have u2 := ca.cell 2 rfl
  have u3 := ca.cell 3 rfl
  have u4 := ca.cell 4 rfl
  have CA := Lib.hid ca
  have CR := Lib.hid cr
  have T0 := Lib.hid t0
  have HRd := Lib.hid hready
  clear h ca cr t0 hready
  go_enter Tryz.func11, Tryz.ntmps11
  go_wp2_with fail
  refine hri.mono ?_
  rintro e w1 ⟨rfl, hb1⟩
  have ca1 := CA.out.abelow hb1
  have cr1 := CR.out.abelow hb1
  have t1 := T0.out.tbelow hb1
  have u0 := ca1.cell 0 rfl
  have u1 := ca1.cell 1 rfl
  have u2 := ca1.cell 2 rfl
  have u3 := ca1.cell 3 rfl
  have u4 := ca1.cell 4 rfl
  have hdo : Calls Tryz.prog 39 #[.pointer (some ⟨p, 0, none⟩), .string userA, cmdA] w1 fun e w' => e = .returned (.tuple #[.agg #[.int .i64 0, .string ⟨#[]⟩, .int .i64 0, .int .i64 1, .slice none 0 0], .bool true]) ∧ LaidOne (fun k => k = cb ∨ k = tb ∨ k = rb) w1 cb tb 100 valX 1 0 18 1 0 w' := do_set p mb cb tb rb u A c ids w1 (HRd.out w1 t1)
  have CR1 := Lib.hid cr1
  have T1 := Lib.hid t1
  generalize hga : w.heap.size = ga at *
  have hgl := cr1.lt
  clear ca1 cr1 t1 hb1 hri hW0
  go_wp2_with fail
  refine hdo.mono ?_
  rintro e w2 ⟨rfl, hl2⟩
  clear hdo
  have hrep : At (w2.alloc (.cells #[.int .i64 0, .string ⟨#[]⟩, .int .i64 0, .int .i64 1, .slice none 0 0] TReply)) w2.heap.size repL1 TReply := At.new w2 _ _
  have hr2 := CR1.out.tch hl2.2.2 (by omega)
  have hq1 := T1.out.size
  have hq2 := hl2.2.2.size
  have hl3 := hl2.after (Tch.alloc (fun _ => False) w2 (.cells #[.int .i64 0, .string ⟨#[]⟩, .int .i64 0, .int .i64 1, .slice none 0 0] TReply)) (fun _ h => h.elim) (by omega) (by omega) (fun _ _ _ h => h) (fun _ _ _ h => h)
  have hr3 := hr2.alloc (.cells #[.int .i64 0, .string ⟨#[]⟩, .int .i64 0, .int .i64 1, .slice none 0 0] TReply)
  have s0 := hrep.cell 0 rfl
  have s1 := hrep.cell 1 rfl
  have s2 := hrep.cell 2 rfl
  have s3 := hrep.cell 3 rfl
  have s4 := hrep.cell 4 rfl
  have hto : Calls Tryz.prog 40 #[.agg #[.int .i64 0, .string ⟨#[]⟩, .int .i64 0, .int .i64 1, .slice none 0 0]] (w2.alloc (.cells #[.int .i64 0, .string ⟨#[]⟩, .int .i64 0, .int .i64 1, .slice none 0 0] TReply)) fun e w' => e = .returned (.agg #[.int .i64 0, .string ⟨#[]⟩, .int .i64 0, .int .i64 1, .slice none 0 0]) ∧ Below (w2.alloc (.cells #[.int .i64 0, .string ⟨#[]⟩, .int .i64 0, .int .i64 1, .slice none 0 0] TReply)).heap.size (w2.alloc (.cells #[.int .i64 0, .string ⟨#[]⟩, .int .i64 0, .int .i64 1, .slice none 0 0] TReply)) w' := told_any (w2.alloc (.cells #[.int .i64 0, .string ⟨#[]⟩, .int .i64 0, .int .i64 1, .slice none 0 0] TReply))
  have HR3 := Lib.hid hr3
  have HL3 := Lib.hid hl3
  clear hrep hr2 hr3 hl2 hl3 u0 u1 u2 u3 u4
  go_wp2_with fail
  refine hto.mono ?_
  rintro e W4 ⟨rfl, hb4⟩
  have hr4 := HR3.out.abelow hb4
  have hl4 := HL3.out.after (Tch.of_below (fun _ => False) hb4) (fun _ h => h.elim) (by omega) (by omega) (fun _ _ _ h => h) (fun _ _ _ h => h)
  have r0 := hr4.cell 0 rfl
  have r1 := hr4.cell 1 rfl
  have r2 := hr4.cell 2 rfl
  have r3 := hr4.cell 3 rfl
  have r4 := hr4.cell 4 rfl
  have z0 := hr4.frozen 0
  have z1 := hr4.frozen 1
  have z2 := hr4.frozen 2
  have z3 := hr4.frozen 3
  have z4 := hr4.frozen 4
  have hl7 := hl4.pre (w := w) (S2 := fun k => k = cb ∨ k = tb ∨ k = rb) T1.out (fun _ _ h => h.elim) (fun k _ h => h)
  have t9 := tch_set5 W4 (ga + 1) (.int .i64 0) (.string ⟨#[]⟩) (.int .i64 0) (.int .i64 1) (.slice none 0 0)
  have a9 := at_set5 hr4 (.int .i64 0) (.string ⟨#[]⟩) (.int .i64 0) (.int .i64 1) (.slice none 0 0)
  have hl9 := hl7.after t9 (fun k h => by omega) (by omega) (by omega) (fun k cs h => at_ne2 h hr4 (by decide)) (fun k cs h => at_ne2 h hr4 (by decide))
  obtain ⟨W9, hW9⟩ : ∃ W9, (((((W4.setCell ⟨ga + 1, 0, none⟩ (.int .i64 0)).setCell ⟨ga + 1, 1, none⟩ (.string ⟨#[]⟩)).setCell ⟨ga + 1, 2, none⟩ (.int .i64 0)).setCell ⟨ga + 1, 3, none⟩ (.int .i64 1)).setCell ⟨ga + 1, 4, none⟩ (.slice none 0 0)) = W9 := ⟨_, rfl⟩
  rw [hW9] at a9 hl9
  have d0 := a9.cell 0 rfl
  have d1 := a9.cell 1 rfl
  have d2 := a9.cell 2 rfl
  have d3 := a9.cell 3 rfl
  have d4 := a9.cell 4 rfl
  have HL9 := Lib.hid hl9
  clear hl9 hl7 hl4 hr4 t9 a9 hb4 hto s0 s1 s2 s3 s4
  go_wp2
  refine bodyPost_ret (v := repV 1) (by simp [results, Tryz.results11, go_sem, d0, d1, d2, d3, d4]) rfl ⟨rfl, HL9.out⟩
end Go.Proofs.YtkekohmkaefdnaaGreatDoor

/- The keys and items of a table that holds one item. -/
set_option linter.unusedVariables false
namespace Go.Proofs.YtkekohmkaefdnaaGreatDoor
open Go.RowKit Go.Maps Go.Shelf Go.Sort Go.Lib
attribute [local go_sem ↓] Go.wp_at_zero Go.wp_at_succ

theorem sort_one (g c : Nat) (s : ByteArray) (w : World) (hc : w.cell? ⟨g, 0, none⟩ = some (.string s)) (hz : w.frozen? ⟨g, 0, none⟩ = false) :
    Calls Tryz.prog 121 #[.slice (some ⟨g, 0, none⟩) 1 c] w fun e w' => e = .returned (.tuple #[]) ∧ w'.cell? ⟨g, 0, none⟩ = some (.string s) ∧ Tch (fun k => k = g) w w' := by
  have hg : g < w.heap.size := World.block_lt_of_cell? w _ hc
  have hs : encStr s.data.toList = .string s := by simp [encStr]
  have hH : Holds encStr w g 0 [s.data.toList].toArray := by
    intro j hj
    have : j = 0 := by simp at hj; omega
    subst this
    exact ⟨by rw [show (0 : Nat) + 0 = 0 from rfl]; exact hc.trans (by rw [← hs]; rfl), hz⟩
  have h := AnyM.slices_Sort_string Tryz.sortS g 0 c [s.data.toList] w hH hg (by simp)
  change Calls Tryz.prog 121 _ _ _ at h
  refine h.mono ?_
  rintro e w' ⟨rfl, n, os, rfl⟩
  have hm : [s.data.toList].mergeSort (fun x y => decide (x ≤ y)) = [s.data.toList] := by simp
  rw [hm]
  have t1 : Tch (fun k => k = g) w (putRow encStr (Sort.ahead w n) g 0 [s.data.toList].toArray) := (tch_ahead _ w n).trans (tch_putRow _ _ g 0 _) (fun _ _ h => h)
  have h2 := holds_putRow encStr (Sort.ahead w n) g 0 [s.data.toList].toArray [s.data.toList].toArray (holds_ahead _ w n g 0 _ hH) (by simp)
  generalize putRow encStr (Sort.ahead w n) g 0 [s.data.toList].toArray = W1 at t1 h2
  have tg : Tch (fun _ => False) W1 (grow W1 os) := ⟨rfl, rfl, rfl, by simp [grow], fun k hk _ => by simp [grow, Array.getElem?_append_left hk]⟩
  refine ⟨rfl, ?_, t1.trans tg (fun _ _ h => h.elim)⟩
  rw [tg.cell (p := ⟨g, 0, none⟩) (t1.lt hg) (fun h => h)]
  refine ((h2 0 (by simp)).1).trans ?_
  rw [show ([s.data.toList].toArray)[0]! = s.data.toList from rfl, hs]

def KoR (w : World) (j : Nat) (out : Value) (wr : World) : Prop :=
  (j ≤ 4 ∧ out = .slice none 0 0 ∧ Tch (fun _ => False) w wr) ∨ (5 ≤ j ∧ j ≤ 8 ∧ Tch (fun _ => False) w wr ∧ ∃ g c, out = .slice (some ⟨g, 0, none⟩) 1 c ∧ w.heap.size ≤ g ∧ wr.cell? ⟨g, 0, none⟩ = some (.string keyA) ∧ wr.frozen? ⟨g, 0, none⟩ = false)

set_option maxHeartbeats 4000000 in
set_option maxRecDepth 100000 in
theorem keys_one (tb sb b c : Nat) (n : Int) (v : ByteArray) (iv unt : Int) (zs : List Value) (w : World) (ht : At w tb (tableV true (.slice (some ⟨sb, 0, none⟩) 8 8) n) TTable) (hs : At w sb (oneA b c) TItems) (hb : At w b (itemL keyA v iv unt ++ zs) TItem) :
    Calls Tryz.prog 86 #[.pointer (some ⟨tb, 0, none⟩)] w fun e w' => ∃ g c', e = .returned (.slice (some ⟨g, 0, none⟩) 1 c') ∧ w'.cell? ⟨g, 0, none⟩ = some (.string keyA) ∧ Tch (fun _ => False) w w' := by
  have c4 := ht.cell 4 rfl
  have HS := Lib.hid hs
  have HB := Lib.hid hb
  clear ht hs hb
  go_enter Tryz.func86, Tryz.ntmps86
  go_wp2
  go_loopg [3, 15] 8 (fun gg s3 s15 wr => ∃ j : Nat, s15 = .int .i64 j ∧ 8 - j ≤ gg ∧ KoR w j s3 wr)
  case atStart => exact ⟨0, rfl, by omega, .inl ⟨by omega, rfl, Tch.refl _ _⟩⟩
  case round =>
    obtain ⟨j, rfl, hgg, hK⟩ := hrel
    rcases hK with ⟨hj, rfl, ht⟩ | ⟨hj5, hj8, ht, g, cc, rfl, hg, hcg, hfg⟩
    · have hs := HS.out.tch ht (fun h => h)
      have hj' : j = 0 ∨ j = 1 ∨ j = 2 ∨ j = 3 ∨ j = 4 := by omega
      rcases hj' with rfl | rfl | rfl | rfl | rfl
      · have q := hs.cell 0 rfl
        have HT := Lib.hid ht
        clear hs ht
        go_wp2
        go_loopg [3, 21] 0 (fun gg s3 s21 wr2 => s3 = .slice none 0 0 ∧ s21 = .int .i64 0 ∧ wr2 = wr)
        case atStart => exact ⟨rfl, rfl, rfl⟩
        case round =>
          obtain ⟨rfl, rfl, rfl⟩ := hrel
          go_wp2
          go_roundg (8 - 1)
          case measure => omega
          case rel => exact ⟨1, rfl, by omega, .inl ⟨by omega, rfl, HT.out⟩⟩
      · have q := hs.cell 1 rfl
        have HT := Lib.hid ht
        clear hs ht
        go_wp2
        go_loopg [3, 21] 0 (fun gg s3 s21 wr2 => s3 = .slice none 0 0 ∧ s21 = .int .i64 0 ∧ wr2 = wr)
        case atStart => exact ⟨rfl, rfl, rfl⟩
        case round =>
          obtain ⟨rfl, rfl, rfl⟩ := hrel
          go_wp2
          go_roundg (8 - 2)
          case measure => omega
          case rel => exact ⟨2, rfl, by omega, .inl ⟨by omega, rfl, HT.out⟩⟩
      · have q := hs.cell 2 rfl
        have HT := Lib.hid ht
        clear hs ht
        go_wp2
        go_loopg [3, 21] 0 (fun gg s3 s21 wr2 => s3 = .slice none 0 0 ∧ s21 = .int .i64 0 ∧ wr2 = wr)
        case atStart => exact ⟨rfl, rfl, rfl⟩
        case round =>
          obtain ⟨rfl, rfl, rfl⟩ := hrel
          go_wp2
          go_roundg (8 - 3)
          case measure => omega
          case rel => exact ⟨3, rfl, by omega, .inl ⟨by omega, rfl, HT.out⟩⟩
      · have q := hs.cell 3 rfl
        have HT := Lib.hid ht
        clear hs ht
        go_wp2
        go_loopg [3, 21] 0 (fun gg s3 s21 wr2 => s3 = .slice none 0 0 ∧ s21 = .int .i64 0 ∧ wr2 = wr)
        case atStart => exact ⟨rfl, rfl, rfl⟩
        case round =>
          obtain ⟨rfl, rfl, rfl⟩ := hrel
          go_wp2
          go_roundg (8 - 4)
          case measure => omega
          case rel => exact ⟨4, rfl, by omega, .inl ⟨by omega, rfl, HT.out⟩⟩
      · have q := hs.cell 4 rfl
        have hb := HB.out.tch ht (fun h => h)
        have b0 := hb.cell 0 rfl
        have b1 := hb.cell 1 rfl
        have b2 := hb.cell 2 rfl
        have b3 := hb.cell 3 rfl
        have HT := Lib.hid ht
        have hsz := ht.size
        obtain ⟨i0, hi, hz0', hz1, hz2⟩ := info_parts info_str
        clear hs ht hb
        go_wp2
        go_loopg [3, 21] 1 (fun gg s3 s21 wr2 => (gg = 1 ∧ s3 = .slice none 0 0 ∧ s21 = .int .i64 0 ∧ wr2 = wr) ∨ (s21 = .int .i64 1 ∧ KoR w 5 s3 wr2))
        case atStart => exact .inl ⟨rfl, rfl, rfl, rfl⟩
        case round =>
          rcases hrel with ⟨rfl, rfl, rfl, rfl⟩ | ⟨rfl, hk⟩
          · go_wp2
            have hnew := at_app ((wr.alloc (.cells #[.string keyA, .string v, .int .i64 iv, .int .i64 unt] TItem)).alloc (.cells #[.string keyA] 9)) #[.string keyA] (Builtin.zeroCells #[.string ⟨#[]⟩] ((Question.appendCap 1 0 9).cut (wr.tape wr.drawn (Question.appendCap 1 0 9)) - 1)) 9 (wr.heap.size + 1 + 1) (by simp)
            go_roundg 0
            case measure => omega
            case rel => exact .inr ⟨rfl, .inr ⟨by omega, by omega, (((HT.out.talloc).talloc).talloc).tdrew, _, _, rfl, by omega, hnew.drew.cell 0 rfl, hnew.drew.frozen 0⟩⟩
          · rcases hk with ⟨h5, _⟩ | ⟨_, _, ht, g, cc, rfl, hg, hcg, hfg⟩
            · omega
            · have HT := Lib.hid ht
              clear ht
              go_wp2
              go_roundg (8 - 5)
              case measure => omega
              case rel => exact ⟨5, rfl, by omega, .inr ⟨by omega, by omega, HT.out, g, cc, rfl, hg, hcg, hfg⟩⟩
    · have hs := HS.out.tch ht (fun h => h)
      have hj' : j = 5 ∨ j = 6 ∨ j = 7 ∨ j = 8 := by omega
      rcases hj' with rfl | rfl | rfl | rfl
      · have q := hs.cell 5 rfl
        have HT := Lib.hid ht
        clear hs ht
        go_wp2
        go_loopg [3, 21] 0 (fun gg s3 s21 wr2 => s3 = .slice (some ⟨g, 0, none⟩) 1 cc ∧ s21 = .int .i64 0 ∧ wr2 = wr)
        case atStart => exact ⟨rfl, rfl, rfl⟩
        case round =>
          obtain ⟨rfl, rfl, rfl⟩ := hrel
          go_wp2
          go_roundg (8 - 6)
          case measure => omega
          case rel => exact ⟨6, rfl, by omega, .inr ⟨by omega, by omega, HT.out, g, cc, rfl, hg, hcg, hfg⟩⟩
      · have q := hs.cell 6 rfl
        have HT := Lib.hid ht
        clear hs ht
        go_wp2
        go_loopg [3, 21] 0 (fun gg s3 s21 wr2 => s3 = .slice (some ⟨g, 0, none⟩) 1 cc ∧ s21 = .int .i64 0 ∧ wr2 = wr)
        case atStart => exact ⟨rfl, rfl, rfl⟩
        case round =>
          obtain ⟨rfl, rfl, rfl⟩ := hrel
          go_wp2
          go_roundg (8 - 7)
          case measure => omega
          case rel => exact ⟨7, rfl, by omega, .inr ⟨by omega, by omega, HT.out, g, cc, rfl, hg, hcg, hfg⟩⟩
      · have q := hs.cell 7 rfl
        have HT := Lib.hid ht
        clear hs ht
        go_wp2
        go_loopg [3, 21] 0 (fun gg s3 s21 wr2 => s3 = .slice (some ⟨g, 0, none⟩) 1 cc ∧ s21 = .int .i64 0 ∧ wr2 = wr)
        case atStart => exact ⟨rfl, rfl, rfl⟩
        case round =>
          obtain ⟨rfl, rfl, rfl⟩ := hrel
          go_wp2
          go_roundg (8 - 8)
          case measure => omega
          case rel => exact ⟨8, rfl, by omega, .inr ⟨by omega, by omega, HT.out, g, cc, rfl, hg, hcg, hfg⟩⟩
      · have hso := sort_one g cc keyA wr hcg hfg
        have HT := Lib.hid ht
        clear hs ht
        go_wp2_with fail
        refine hso.mono ?_
        rintro e w2 ⟨rfl, hc2, t2⟩
        clear hso
        go_wp2
        go_ret
        exact ⟨g, cc, rfl, hc2, HT.out.trans t2 (fun k hk h => by omega)⟩
end Go.Proofs.YtkekohmkaefdnaaGreatDoor

/- The items of a cache that holds one. -/
set_option linter.unusedVariables false
namespace Go.Proofs.YtkekohmkaefdnaaGreatDoor
open Go.RowKit Go.Maps Go.Shelf Go.Sort Go.Lib
attribute [local go_sem ↓] Go.wp_at_zero Go.wp_at_succ

set_option maxHeartbeats 4000000 in
set_option maxRecDepth 100000 in
theorem items_one (cb tb sb b c : Nat) (budget used ver gone n : Int) (order : Value) (v : ByteArray) (iv unt : Int) (zs : List Value) (w : World) (hc : At w cb (cacheV budget tb order used ver gone) TCache) (ht : At w tb (tableV true (.slice (some ⟨sb, 0, none⟩) 8 8) n) TTable) (hs : At w sb (oneA b c) TItems) (hb : At w b (itemL keyA v iv unt ++ zs) TItem) :
    Calls Tryz.prog 53 #[.pointer (some ⟨cb, 0, none⟩)] w fun e w' => ∃ g c', e = .returned (.slice (some ⟨g, 0, none⟩) 1 c') ∧ Tch (fun k => k = tb) w w' := by
  have c1 := hc.cell 1 rfl
  have hct : cb ≠ tb := at_ne2 hc ht (by decide)
  have hbt : b ≠ tb := at_ne2 hb ht (by decide)
  have hk := keys_one tb sb b c n v iv unt zs w ht hs hb
  have HC := Lib.hid hc
  have HT := Lib.hid ht
  have HS := Lib.hid hs
  have HB := Lib.hid hb
  clear hc ht hs hb
  go_enter Tryz.func53, Tryz.ntmps53
  go_wp2_with fail
  refine hk.mono ?_
  rintro e w1 ⟨g, cg, rfl, hcg, t1⟩
  have hc1 := HC.out.tch t1 (fun h => h)
  have ht1 := HT.out.tch t1 (fun h => h)
  have hs1 := HS.out.tch t1 (fun h => h)
  have hb1 := HB.out.tch t1 (fun h => h)
  have c1 := hc1.cell 1 rfl
  have hget := get_one (fun k => k = sb) tb b c n iv unt v zs w1 (PlaceC.one (MadeC.again ht1 hs1) ht1.lt hb1 hbt) ht1.lt hb1 hbt
  have T1 := Lib.hid t1
  obtain ⟨i0, hi, hz0', hz1, hz2⟩ := info_parts info_item
  clear hk hc1 ht1 hs1 hb1 t1
  go_wp2
  go_loopg [3, 16] 1 (fun gg s3 s16 wr => (gg = 1 ∧ s3 = .slice none 0 0 ∧ s16 = .int .i64 0 ∧ wr = w1) ∨ (s16 = .int .i64 1 ∧ Tch (fun k => k = tb) w wr ∧ ∃ g c', s3 = .slice (some ⟨g, 0, none⟩) 1 c'))
  case atStart => exact .inl ⟨rfl, rfl, rfl, rfl⟩
  case round =>
    rcases hrel with ⟨rfl, rfl, rfl, rfl⟩ | ⟨rfl, ht, g, c', rfl⟩
    · go_wp2_with fail
      refine hget.mono ?_
      rintro e w2 ⟨rfl, _, _, t2⟩
      have T2 := Lib.hid ((T1.out.mono (fun _ _ h => h.elim)).trans t2 (fun _ _ h => h))
      clear t2 hget
      go_wp2
      go_roundg 0
      case measure => omega
      case rel => exact .inr ⟨rfl, (((T2.out.talloc).talloc).talloc).tdrew, _, _, rfl⟩
    · have HTT := Lib.hid ht
      clear ht hget
      go_wp2
      go_ret
      exact ⟨_, _, rfl, HTT.out⟩

set_option maxRecDepth 100000 in
theorem port_items (p mb cb tb sb b c : Nat) (u rl r : Value) (ids now : Int) (budget used ver gone n : Int) (order : Value) (v : ByteArray) (iv unt : Int) (zs : List Value) (w : World) (hp : At w p (portV u rl (.pointer (some ⟨cb, 0, none⟩)) r ids now mb) TPort) (hc : At w cb (cacheV budget tb order used ver gone) TCache) (ht : At w tb (tableV true (.slice (some ⟨sb, 0, none⟩) 8 8) n) TTable) (hs : At w sb (oneA b c) TItems) (hb : At w b (itemL keyA v iv unt ++ zs) TItem) :
    Calls Tryz.prog 17 #[.pointer (some ⟨p, 0, none⟩)] w fun e w' => ∃ g c', e = .returned (.slice (some ⟨g, 0, none⟩) 1 c') ∧ Tch (fun k => k = tb) w w' := by
  have c2 := hp.cell 2 rfl
  have hi := items_one cb tb sb b c budget used ver gone n order v iv unt zs w hc ht hs hb
  clear hp hc ht hs hb
  go_enter Tryz.func17, Tryz.ntmps17
  go_wp2_with fail
  refine hi.mono ?_
  rintro e w1 ⟨g, cg, rfl, t1⟩
  clear hi
  go_wp2
  go_ret
  exact ⟨g, cg, rfl, t1⟩
end Go.Proofs.YtkekohmkaefdnaaGreatDoor

/- The setup of two users. -/
set_option linter.unusedVariables false
namespace Go.Proofs.YtkekohmkaefdnaaGreatDoor
open Go.RowKit Go.Maps Go.Shelf Go.Proofs.YtkekohmkaefdnaaGreatDoorW.PrintWords Go.Proofs.YtkekohmkaefdnaaGreatDoorW.PrintLast Go.Proofs.YtkekohmkaefdnaaGreatDoor.Pa

theorem below_drewN_ {B : Nat} {w W : World} {n : Nat} (h : Below B w W) : Below B w (W.drewN n) := ⟨h.os, h.tape, h.output, h.size, h.block⟩
def annB : ByteArray := ⟨#[97, 110, 110]⟩
def bobB : ByteArray := ⟨#[98, 111, 98]⟩
def usersTwo : List (ByteArray × ByteArray) := [(annB, fillS), (bobB, fillT)]
def usersOne : List (ByteArray × ByteArray) := [(annB, fillS)]
theorem usersTwo_ok : UsersOk usersTwo := ⟨by decide, by decide +kernel, by decide +kernel⟩
theorem usersOne_ok : UsersOk usersOne := ⟨by decide, by decide +kernel, by decide +kernel⟩

def TwoE (w : World) (e : Ending) (w' : World) : Prop := ∃ lb, e = .returned (.agg #[.slice (some ⟨lb, 0, none⟩) 2 2, .string textTwo, .int .i64 5000, .int .i64 20]) ∧ At w' lb (userCells usersTwo) 62 ∧ Below w.heap.size w w'

set_option maxRecDepth 100000 in
set_option maxHeartbeats 1000000 in
theorem two_any (w : World) : Calls Tryz.prog 8 #[] w (TwoE w) := by
  have f1 := fun W => Pb.escutcheonlaw5_Fill.calls 60 ⟨#[115]⟩ 32 fillS W fill_s
  have f2 := fun W => Pb.escutcheonlaw5_Fill.calls 60 ⟨#[116]⟩ 32 fillT W fill_t
  go_enter Tryz.func8, Tryz.ntmps8
  go_wp2_with fail
  refine (f1 _).mono ?_
  rintro e W1 ⟨rfl, n1, rfl⟩
  go_wp2_with fail
  refine (f2 _).mono ?_
  rintro e W2 ⟨rfl, n2, rfl⟩
  clear f1 f2
  go_wp2
  refine bodyPost_ret (v := .agg #[.slice (some ⟨w.heap.size + 1, 0, none⟩) 2 2, .string textTwo, .int .i64 5000, .int .i64 20]) (by simp [results, Tryz.results8, go_sem, textTwo]) rfl ⟨_, rfl, at_new' _ _ _ _ (by simp), ?_⟩
  refine Below.alloc (Below.setCell (Below.setCell (Below.setCell (Below.setCell ?_ ?_ _) ?_ _) ?_ _) ?_ _) ?_ _
  · exact below_drewN_ ((Below.refl _ w).alloc (Nat.le_refl _) _)
  all_goals simp
end Go.Proofs.YtkekohmkaefdnaaGreatDoor

/- The host takes a hello: a challenge. -/
set_option linter.unusedVariables false
namespace Go.Proofs.YtkekohmkaefdnaaGreatDoor
open Go.RowKit Go.Maps Go.Shelf Go.Proofs.YtkekohmkaefdnaaGreatDoorW.PrintWords Go.Proofs.YtkekohmkaefdnaaGreatDoorW.PrintLast Go.Proofs.YtkekohmkaefdnaaGreatDoor.Pa
attribute [local go_sem ↓] Go.wp_at_zero Go.wp_at_succ

set_option maxHeartbeats 4000000 in
set_option maxRecDepth 100000 in
theorem greeted_any (h ub : Nat) (w : World) (hh : At w h (hostV ub nonceH 1 false ⟨#[]⟩ ⟨#[]⟩) THost) : Calls Tryz.prog 135 #[.pointer (some ⟨h, 0, none⟩), .string helloAnn] w fun e w' => e = .returned (.tuple #[.string chall, .int .i64 0]) ∧ At w' h (hostV ub nonceH 1 false annB (helloAnn ++ chall)) THost ∧ Tch (fun k => k = h) w w' := by
  have hgh := Pb.hello_GetHello.calls 60 helloAnn annB nonceG true w gethello_ann
  have hpc := fun W => Pb.hello_PutChallenge.calls nonceH chall true W putchall
  have hpp := fun W => Pb.shake_Papers.calls helloAnn chall (helloAnn ++ chall) W papers_ann
  have HH := Lib.hid hh
  have hhl := hh.lt
  clear hh
  go_enter Tryz.func135, Tryz.ntmps135
  go_wp2_with fail
  refine hgh.mono ?_
  rintro e w1 ⟨rfl, hb1⟩
  have hh1 := HH.out.below hb1 hhl
  have HB1 := Lib.hid hb1
  have z1 := hb1.size
  have HH1 := Lib.hid hh1
  have c1 := hh1.cell 1 rfl
  have hl1 := hh1.lt
  clear hgh hb1 hh1
  go_wp2_with fail
  refine (hpc _).mono ?_
  rintro e w2 ⟨rfl, hb2⟩
  have hx2 : At w2 w1.heap.size [.string annB, .string nonceG] 75 := (At.new w1 _ _).below hb2 (by simp)
  have hh2 := (HH1.out.alloc (.cells #[.string annB, .string nonceG] 75)).below hb2 (by simp; omega)
  have t2 : Tch (fun _ => False) w w2 := ((Tch.of_below (fun _ => False) HB1.out).trans (Tch.alloc (fun _ => False) w1 _) (fun _ _ h => h)).trans (Tch.of_below (fun _ => False) hb2) (fun _ _ h => h)
  have x0 := hx2.cell 0 rfl
  have d4 := hh2.cell 4 rfl
  have d5 := hh2.cell 5 rfl
  have g4 := hh2.frozen 4
  have g5 := hh2.frozen 5
  have n1 : h ≠ w1.heap.size := by omega
  have n2 : w1.heap.size ≠ h := by omega
  have HH2 := Lib.hid hh2
  have HT2 := Lib.hid t2
  clear hb2 hx2 hh2 t2 hpc
  dsimp only
  go_wp2
  go_region_held3 (fun w' => w'.cell? ⟨w1.heap.size, 0, none⟩ = some (.string annB)) (go_keep)
    ((go_at_call 196; refine (hpp _).mono ?_; rintro e w3 ⟨rfl, n3, rfl⟩))
  go_wp2
  go_ret2
  refine ⟨rfl, ((HH2.out.drewN _).set 4 (.string annB)).set 5 (.string (helloAnn ++ chall)), ?_⟩
  exact (((HT2.out.mono (fun _ _ h => h.elim)).trans (Tch.drewN (fun _ => False) _ _) (fun _ _ h => h.elim)).trans (Tch.set _ ⟨h, 4, none⟩ _) (fun _ _ h => h)).trans (Tch.set _ ⟨h, 5, none⟩ _) (fun _ _ h => h)

set_option maxRecDepth 100000 in
theorem done_any (h ub : Nat) (nonce : ByteArray) (got : Int) (user papers : ByteArray) (w : World) (hh : At w h (hostV ub nonce got false user papers) THost) : Calls Tryz.prog 64 #[.pointer (some ⟨h, 0, none⟩)] w fun e w' => e = .returned (.bool false) ∧ w = w' := by
  have c9 := hh.cell 9 rfl
  clear hh
  go_enter Tryz.func64, Tryz.ntmps64
  go_wp2
  go_ret
  exact ⟨rfl, rfl⟩

set_option maxHeartbeats 4000000 in
set_option maxRecDepth 100000 in
theorem got_any (h ub : Nat) (now : Int) (w : World) (hh : At w h (hostV ub nonceH 0 false ⟨#[]⟩ ⟨#[]⟩) THost) : Calls Tryz.prog 103 #[.pointer (some ⟨h, 0, none⟩), .string helloAnn, .int .i64 now] w fun e w' => e = .returned (.tuple #[.string chall, .int .i64 0]) ∧ At w' h (hostV ub nonceH 1 false annB (helloAnn ++ chall)) THost ∧ Tch (fun k => k = h) w w' := by
  have c0 := hh.cell 0 rfl
  have c2 := hh.cell 2 rfl
  have c3 := hh.cell 3 rfl
  have c9 := hh.cell 9 rfl
  have f2 := hh.frozen 2
  have hh1 : At (w.setCell ⟨h, 2, none⟩ (.int .i64 1)) h (hostV ub nonceH 1 false ⟨#[]⟩ ⟨#[]⟩) THost := hh.set 2 (.int .i64 1)
  have hg := greeted_any h ub _ hh1
  clear hh hh1
  go_enter Tryz.func103, Tryz.ntmps103
  go_wp2_with fail
  refine hg.mono ?_
  rintro e w1 ⟨rfl, hh1, ht1⟩
  have c3 := hh1.cell 3 rfl
  have f3 := hh1.frozen 3
  have HH := Lib.hid hh1
  have HT := Lib.hid ((Tch.set w ⟨h, 2, none⟩ (.int .i64 1)).trans ht1 (fun _ _ h => h))
  clear hg hh1 ht1
  go_wp2
  go_ret2
  exact ⟨rfl, HH.out.set 3 (.bool false), HT.out.trans (Tch.set _ ⟨h, 3, none⟩ _) (fun _ _ h => h)⟩
end Go.Proofs.YtkekohmkaefdnaaGreatDoor

/- The server takes a connection's first frame. -/
set_option linter.unusedVariables false
namespace Go.Proofs.YtkekohmkaefdnaaGreatDoor
open Go.RowKit Go.Maps Go.Shelf Go.Proofs.YtkekohmkaefdnaaGreatDoorW.PrintWords Go.Proofs.YtkekohmkaefdnaaGreatDoorW.PrintLast Go.Proofs.YtkekohmkaefdnaaGreatDoor.Pa
attribute [local go_sem ↓] Go.wp_at_zero Go.wp_at_succ

def replyB : ByteArray := ⟨#[0, 17, 2, 102, 101, 100, 99, 98, 97, 57, 56, 55, 54, 53, 52, 51, 50, 49, 48]⟩
def head17 : ByteArray := ⟨#[0, 17]⟩
theorem reply_cat : head17 ++ chall = replyB := by decide +kernel
theorem frame_cat2 : head21 ++ helloAnn = frameB := by decide +kernel
theorem chall_size : chall.size = 17 := rfl
theorem at_ne {w : World} {a b : Nat} {cs cs' : List Value} {t t' : Nat} (h : At w a cs t) (k : At w b cs' t') (ht : t ≠ t') : a ≠ b := by
  rintro rfl
  unfold At at h k
  rw [h] at k
  injection k with k
  injection k with _ k
  exact ht k

set_option maxRecDepth 100000 in
theorem put_chall (w : World) : Calls Tryz.prog 107 #[.string chall] w fun e w' => e = .returned (.tuple #[.string replyB, .bool true]) ∧ Below w.heap.size w w' := by
  have hs := chall_size
  have hc := reply_cat
  have hz : head17.size = 2 := rfl
  have hr := Pb.frame_right.calls 17 true w (by decide +kernel)
  have hp := fun W => octet_PutBig.calls 17 2 head17 W putbig17
  go_enter Tryz.func107, Tryz.ntmps107
  go_wp2_with (first | (go_at_call 129; refine hr.mono ?_; rintro e w1 ⟨rfl, n, rfl⟩) | (go_at_call 137; refine (hp _).mono ?_; rintro e w2 ⟨rfl, hb⟩))
  go_ret2
  exact ⟨rfl, hb.os, hb.tape, hb.output, hb.size, hb.block⟩

set_option maxRecDepth 100000 in
theorem ref_frame (w : World) : Calls Tryz.prog 32 #[.string helloAnn] w fun e w' => e = .returned (.tuple #[.string frameB, .bool true]) ∧ Below w.heap.size w w' := by
  have hs := helloAnn_size
  have hc := frame_cat2
  have hz := head21_size
  have hp := fun W => Pb.escutcheonref1_PutBig.calls 60 21 2 head21 W putbig21
  go_enter Tryz.func32, Tryz.ntmps32
  go_wp2_with (go_at_call 72; refine (hp _).mono ?_; rintro e w2 ⟨rfl, hb⟩)
  go_ret2
  exact ⟨rfl, hb⟩

set_option maxHeartbeats 4000000 in
set_option maxRecDepth 100000 in
theorem letter_any (p mb b h ub : Nat) (u rl c r : Value) (ids now : Int) (x1 x2 x3 x4 x5 x10 : Value) (w : World) (hp : At w p (portV u rl c r ids now mb) TPort) (hb : At w b (connV (.pointer (some ⟨h, 0, none⟩)) x1 x2 x3 x4 x5 x10 false) TConn) (hh : At w h (hostV ub nonceH 0 false ⟨#[]⟩ ⟨#[]⟩) THost) (h0 : 0 ≤ now) (h1 : now ≤ 1000000000000) :
    Calls Tryz.prog 74 #[.pointer (some ⟨p, 0, none⟩), .pointer (some ⟨b, 0, none⟩), .string helloAnn] w fun e w' => e = .returned (.tuple #[.string replyB, .int .i64 0]) ∧ Tch (fun k => k = h) w w' := by
  have hd := done_any h ub nonceH 0 _ _ w hh
  have HH := Lib.hid hh
  have HP := Lib.hid hp
  have hbh : b ≠ h := at_ne hb hh (by decide)
  have hph : p ≠ h := at_ne hp hh (by decide)
  have b0 := hb.cell 0 rfl
  have p5 := hp.cell 5 rfl
  have HB := Lib.hid hb
  have hbl := hb.lt
  have hpl := hp.lt
  clear hp hb hh
  go_enter Tryz.func74, Tryz.ntmps74
  go_wp2_with fail
  refine hd.mono ?_
  rintro e w' ⟨rfl, rfl⟩
  clear hd
  go_wp2
  go_region_held3 (fun w' => w'.cell? ⟨b, 0, none⟩ = some (.pointer (some ⟨h, 0, none⟩)) ∧ w'.cell? ⟨p, 5, none⟩ = some (.int .i64 now)) ((go_split_ands; refine ⟨by (first | assumption | go_keep | (rw [ht.cell (by first | assumption | exact hbl) (by first | assumption | exact hbh)]; first | assumption | go_keep)), by (first | assumption | go_keep | (rw [ht.cell (by first | assumption | exact hpl) (by first | assumption | exact hph)]; first | assumption | go_keep))⟩))
    (first | ((go_at_call 24; refine (now_cell p now _ ?_ h0 (by omega)).mono ?_; (simp [*]); rintro e w1 ⟨rfl, rfl⟩)) | ((go_at_call 103; refine (got_any h ub now _ ?_).mono ?_; (first | exact HH.out | exact HH.out.drew | exact HH.out.drewN _); rintro e w2 ⟨rfl, hh2, ht⟩)))
  all_goals
    have hd2 := fun W hW => done_any h ub nonceH 1 annB (helloAnn ++ chall) W hW
    have b2 := ht.cell (p := ⟨b, 0, none⟩) hbl hbh
    have b3 := b2.trans b0
    have HH2 := Lib.hid hh2
    have HT := Lib.hid ht
    clear hh2 ht b2
    go_wp2_with (first | (go_at_call 64; refine (hd2 _ HH2.out).mono ?_; rintro e w3 ⟨rfl, rfl⟩) | (go_at_call 107; refine (put_chall _).mono ?_; rintro e w4 ⟨rfl, hb4⟩))
    go_ret2
    have hz := HT.out.trans (Tch.of_below (fun _ => False) hb4) (fun _ _ h => h.elim)
    first
    | exact ⟨rfl, hz⟩
    | exact ⟨rfl, (Tch.drew (fun _ => False) w).trans hz (fun _ _ h => h) |>.mono (fun _ _ h => h)⟩
    | exact ⟨rfl, (Tch.drew (fun k => k = h) w).trans hz (fun _ _ h => h)⟩
end Go.Proofs.YtkekohmkaefdnaaGreatDoor

/- The server is fed a connection's first frame. -/
set_option linter.unusedVariables false
namespace Go.Proofs.YtkekohmkaefdnaaGreatDoor
open Go.RowKit Go.Maps Go.Shelf Go.Proofs.YtkekohmkaefdnaaGreatDoorW.PrintWords Go.Proofs.YtkekohmkaefdnaaGreatDoorW.PrintLast Go.Proofs.YtkekohmkaefdnaaGreatDoor.Pa
attribute [local go_sem ↓] Go.wp_at_zero Go.wp_at_succ

theorem empty_cat : ByteArray.empty ++ replyB = replyB := by decide +kernel
theorem openAt_one (b : Nat) : openAt [b] [false] 1 = some b := rfl

def FpR (w : World) (p b h rd : Nat) (gg : Nat) (out i : Value) (wr : World) : Prop :=
  (1 ≤ gg ∧ i = .int .i64 0 ∧ out = .string ByteArray.empty ∧ wr = w) ∨ (i = .int .i64 1 ∧ out = .string replyB ∧ Tch (fun k => k = b ∨ k = h ∨ k = rd) w wr)

set_option maxHeartbeats 4000000 in
set_option maxRecDepth 100000 in
theorem port_feed (p mb b h rd ub : Nat) (u rl c r : Value) (ids now : Int) (x2 x3 x4 x5 x10 : Value) (w : World) (hp : At w p (portV u rl c r ids now mb) TPort) (hC : Conns w mb [b] [false]) (hb : At w b (connV (.pointer (some ⟨h, 0, none⟩)) (.pointer (some ⟨rd, 0, none⟩)) x2 x3 x4 x5 x10 false) TConn) (hh : At w h (hostV ub nonceH 0 false ⟨#[]⟩ ⟨#[]⟩) THost) (hr : At w rd (readV ⟨#[]⟩ false 0) TReader) (h0 : 0 ≤ now) (h1 : now ≤ 1000000000000) :
    Calls Tryz.prog 33 #[.pointer (some ⟨p, 0, none⟩), .int .i64 1, .string frameB] w fun e w' => e = .returned (.tuple #[.string replyB, .int .i64 0]) ∧ Tch (fun k => k = b ∨ k = h ∨ k = rd) w w' := by
  have ho := of_any p mb u rl c r ids now [b] [false] 1 w hp hC (by decide)
  rw [openAt_one] at ho
  change Calls _ _ _ _ (fun e w' => e = .returned (.pointer (some ⟨b, 0, none⟩)) ∧ w = w') at ho
  have hbh : b ≠ h := at_ne hb hh (by decide)
  have hbr : b ≠ rd := at_ne hb hr (by decide)
  have hhr : h ≠ rd := at_ne hh hr (by decide)
  have hpb : p ≠ b := at_ne hp hb (by decide)
  have hph : p ≠ h := at_ne hp hh (by decide)
  have hpr : p ≠ rd := at_ne hp hr (by decide)
  have hpl := hp.lt
  have hbl := hb.lt
  have f5 := hb.frozen 5
  have hnow := now_cell p now w (hp.cell 5 rfl) h0 (by omega)
  have hb1 : At (w.setCell ⟨b, 5, none⟩ (.int .i64 now)) b (connV (.pointer (some ⟨h, 0, none⟩)) (.pointer (some ⟨rd, 0, none⟩)) x2 x3 x4 (.int .i64 now) x10 false) TConn := hb.set 5 (.int .i64 now)
  have hh1 : At (w.setCell ⟨b, 5, none⟩ (.int .i64 now)) h (hostV ub nonceH 0 false ⟨#[]⟩ ⟨#[]⟩) THost := hh.other ⟨b, 5, none⟩ (.int .i64 now) (Ne.symm hbh)
  have hr1 : At (w.setCell ⟨b, 5, none⟩ (.int .i64 now)) rd (readV ⟨#[]⟩ false 0) TReader := hr.other ⟨b, 5, none⟩ (.int .i64 now) (Ne.symm hbr)
  have hp1 : At (w.setCell ⟨b, 5, none⟩ (.int .i64 now)) p (portV u rl c r ids now mb) TPort := hp.other ⟨b, 5, none⟩ (.int .i64 now) hpb
  have t1 : Tch (fun k => k = b ∨ k = h ∨ k = rd) w (w.setCell ⟨b, 5, none⟩ (.int .i64 now)) := (Tch.set w ⟨b, 5, none⟩ (.int .i64 now)).mono (fun _ _ h => .inl h)
  have b11 := hb1.cell 1 rfl
  have hf := feed_one rd _ hr1
  have hfz : frameB.size = 23 := frameB_size
  have hrz : replyB.size = 19 := rfl
  have hrc := empty_cat
  have hne : (!frameB.toList.isEmpty) = true := by decide +kernel
  have c5 := hb.cell 5 rfl
  generalize hW1 : w.setCell ⟨b, 5, none⟩ (.int .i64 now) = W1 at hb1 hh1 hr1 hp1 t1 b11 hf
  have HB := Lib.hid hb1
  have HH := Lib.hid hh1
  have HP := Lib.hid hp1
  have HT := Lib.hid t1
  clear hp hC hb hh hr hb1 hh1 hp1 hr1 t1
  go_enter Tryz.func33, Tryz.ntmps33
  go_wp2_with (first | (go_at_call 62; refine ho.mono ?_; rintro e w1 ⟨rfl, rfl⟩) | (go_at_call 24; refine hnow.mono ?_; rintro e w1 ⟨rfl, rfl⟩))
  refine hf.mono ?_
  rintro e w2 ⟨v, rfl, ⟨g, cp, rfl, hB, hg, hc0⟩, _, ht2⟩
  have hh2 := HH.out.tch ht2 hhr
  have hp2 := HP.out.tch ht2 hpr
  have hb2 := HB.out.tch ht2 hbr
  have hlet := letter_any p mb b h ub u rl c r ids now _ x2 x3 x4 _ x10 w2 hp2 hb2 hh2 h0 h1
  have HT2 := Lib.hid ((HT.out.trans ht2 (fun _ _ h => .inr (.inr h))))
  clear hh2 hp2 hb2 ht2 hf ho hnow
  obtain ⟨i0, hi, hz0', hz1, hz2⟩ := info_parts info_str
  go_wp2
  go_loopg [11, 41] 1 (fun gg s11 s41 wr => FpR w2 p b h rd gg s11 s41 wr)
  case atStart => exact .inl ⟨Nat.le_refl _, rfl, rfl, rfl⟩
  case round =>
    rcases hrel with ⟨hgg, rfl, rfl, rfl⟩ | ⟨rfl, rfl, ht⟩
    · go_wp2_with fail
      refine hlet.mono ?_
      rintro e w3 ⟨rfl, ht3⟩
      have HT3 := Lib.hid ht3
      clear ht3 hlet
      go_wp2
      go_roundg 0
      case measure => omega
      case rel =>
        have ht3 := HT3.out
        refine .inr ⟨rfl, rfl, ?_⟩
        exact ht3.mono (fun _ _ h => .inr (.inl h))
    · have HT3 := Lib.hid ht
      clear ht hlet
      go_wp2
      go_ret2
      refine ⟨rfl, ?_⟩
      first
      | exact HT2.out.trans HT3.out (fun _ _ h => h)
      | exact (HT2.out.trans HT3.out (fun _ _ h => h)).trans (Tch.drewN (fun _ => False) _ _) (fun _ _ h => h.elim)
      | exact (HT2.out.trans HT3.out (fun _ _ h => h)).trans (Tch.drew (fun _ => False) _) (fun _ _ h => h.elim)
end Go.Proofs.YtkekohmkaefdnaaGreatDoor

/- The law's own first call: true. -/
set_option linter.unusedVariables false
namespace Go.Proofs.YtkekohmkaefdnaaGreatDoor
open Go.RowKit Go.Maps Go.Shelf Go.Proofs.YtkekohmkaefdnaaGreatDoorW.PrintWords Go.Proofs.YtkekohmkaefdnaaGreatDoorW.PrintLast Go.Proofs.YtkekohmkaefdnaaGreatDoor.Pa
attribute [local go_sem ↓] Go.wp_at_zero Go.wp_at_succ

theorem rules_keep {w w1 : World} {A : Option Addr} {S : Nat → Prop} (h : Kd.C k145 w A 1 [ruleAnn]) (hty : ∀ ad, A = some ad → ∃ cells, At w ad.block cells 145) (t : Tch S w w1) (hS : ∀ k cells, At w k cells 145 → ¬ S k) : Kd.C k145 w1 A 1 [ruleAnn] ∧ ∀ ad, A = some ad → ∃ cells, At w1 ad.block cells 145 := by
  refine ⟨⟨h.1, h.2.1, fun hn => ?_⟩, fun ad ha => ?_⟩
  · obtain ⟨ad, he, hc⟩ := h.2.2 hn
    refine ⟨ad, he, fun j p hj => ?_⟩
    obtain ⟨cs, h1, h2, h3⟩ := hc j p hj
    obtain ⟨cells, hcl⟩ := hty ad he
    refine ⟨cs, h1, h2, fun i u hu => ?_⟩
    have hb : ∀ m, (ad.add m).block = ad.block := fun m => by unfold Addr.add; split <;> rfl
    rw [t.cell (by rw [hb]; exact hcl.lt) (by rw [hb]; exact hS _ _ hcl)]
    exact h3 i u hu
  · obtain ⟨cells, hc⟩ := hty ad ha
    exact ⟨cells, hc.tch t (hS _ _ hc)⟩

abbrev setupV (lb : Nat) : Value := .agg #[.slice (some ⟨lb, 0, none⟩) 1 1, .string textAnn, .int .i64 100, .int .i64 2]

set_option maxHeartbeats 4000000 in
set_option maxRecDepth 100000 in
theorem alive_any (w : World) (hLd : Laid w) : Calls Tryz.prog 7 #[] w fun e w' => e = .returned (.bool true) ∧ Below w.heap.size w w' := by
  have f1 := fun W => Pb.escutcheonlaw5_Fill.calls 60 ⟨#[115]⟩ 32 fillS W fill_s
  have HLd := Lib.hid hLd
  clear hLd
  go_enter Tryz.func7, Tryz.ntmps7
  go_wp2_with fail
  refine (f1 _).mono ?_
  rintro e W1 ⟨rfl, n1, rfl⟩
  clear f1
  go_wp2_with fail
  have tw : Below w.heap.size w (((w.drewN n1).alloc (.cells #[.string annB, .string fillS] 62)).alloc (.cells #[.slice (some ⟨w.heap.size, 0, none⟩) 1 1, .string textAnn, .int .i64 100, .int .i64 2] 26)) := ((below_drewN_ (Below.refl _ w)).alloc (by simp) _).alloc (by simp) _
  have hl : At (((w.drewN n1).alloc (.cells #[.string annB, .string fillS] 62)).alloc (.cells #[.slice (some ⟨w.heap.size, 0, none⟩) 1 1, .string textAnn, .int .i64 100, .int .i64 2] 26)) w.heap.size (userCells usersOne) 62 := (at_new' _ _ _ _ (by simp)).alloc _
  have hnew := port_new usersOne w.heap.size 1 60 textAnn [ruleAnn] 0 100 2 _ hl usersOne_ok parse_ann (HLd.out.below rfl tw) (by decide) (by decide) (by decide) (by decide)
  have TW := Lib.hid tw
  clear hl tw
  refine hnew.mono ?_
  rintro e w2 ⟨p, mb, ub, cb, tb, rb, rv, rfl, ⟨hport, hconns, ⟨A, c, rfl, hcap, hC, hty⟩, hcache, htable, hring⟩, hb2, hg⟩
  have tb2 := TW.out.trans (hb2.mono TW.out.size)
  have hz2 := tb2.size
  have hzz := TW.out.size
  clear hnew hb2
  have hac : Calls Tryz.prog 20 #[.pointer (some ⟨p, 0, none⟩), .string nonceH] w2 fun e w' => ∃ b h rd, e = .returned (.tuple #[.int .i64 1, .int .i64 0]) ∧ At w' p (portV (.pointer (some ⟨ub, 0, none⟩)) (.slice A 1 c) (.pointer (some ⟨cb, 0, none⟩)) (.pointer (some ⟨rb, 0, none⟩)) 1 0 mb) TPort ∧ Conns w' mb [b] [false] ∧
    w2.heap.size ≤ b ∧ Tch (fun k => k = p ∨ k = mb) w2 w' ∧ At w' b (connV (.pointer (some ⟨h, 0, none⟩)) (.pointer (some ⟨rd, 0, none⟩)) (.pointer none) (.pointer none) (.int .i64 0) (.int .i64 0) (.slice none 0 0) false) TConn ∧
    At w' h (hostV ub nonceH 0 false ⟨#[]⟩ ⟨#[]⟩) THost ∧ At w' rd (readV ⟨#[]⟩ false 0) TReader ∧ w2.heap.size ≤ h ∧ w2.heap.size ≤ rd := accept_ok p mb ub _ _ _ 0 [] [] nonceH w2 rfl (by decide) (by decide) (by decide) (by decide) hport hconns
  have hcm : cb ≠ mb := hconns.pnm hcache
  have htm : tb ≠ mb := hconns.pnm htable
  have hrm : rb ≠ mb := hconns.pnm hring
  have hcp : cb ≠ p := at_ne2 hcache hport (by decide)
  have htp : tb ≠ p := at_ne2 htable hport (by decide)
  have hrp : rb ≠ p := at_ne2 hring hport (by decide)
  have hre : ∀ k cells, At w2 k cells 145 → ¬ (k = p ∨ k = mb) := fun k cells hk h => h.elim (at_ne2 hk hport (by decide)) (hconns.pnm hk)
  have HCO := Lib.hid hconns
  have HPO := Lib.hid hport
  have HCA := Lib.hid hcache
  have HTA := Lib.hid htable
  have HRI := Lib.hid hring
  have HRU := Lib.hid (And.intro hC hty)
  have HB2 := Lib.hid tb2
  clear hport hconns hC hty hcache htable hring tb2
  go_wp2_with fail
  refine hac.mono ?_
  rintro e w3 ⟨b, h, rd, rfl, hp3, hco3, hlb, t3, hb3, hh3, hr3, hlh, hlr⟩
  have hBg : w.heap.size ≤ p ∧ w.heap.size ≤ mb ∧ w.heap.size ≤ cb ∧ w.heap.size ≤ tb ∧ w.heap.size ≤ rb := by
    obtain ⟨g1, g2, g3, g4, g5⟩ := hg
    exact ⟨Nat.le_trans hzz g1, Nat.le_trans hzz g2, Nat.le_trans hzz g3, Nat.le_trans hzz g4, Nat.le_trans hzz g5⟩
  clear hg hzz hac
  obtain ⟨gp, gm, gc, gt, gr⟩ := hBg
  have t03 : Tch (fun k => w.heap.size ≤ k) w w3 := (Tch.of_below _ HB2.out).trans t3 (fun k _ h => by rcases h with rfl | rfl <;> omega)
  have hca3 := HCA.out.tch t3 (fun h => h.elim hcp hcm)
  have hta3 := HTA.out.tch t3 (fun h => h.elim htp htm)
  have hri3 := HRI.out.tch t3 (fun h => h.elim hrp hrm)
  have hru3 := rules_keep HRU.out.1 HRU.out.2 t3 hre
  have hhe := fun W => Pb.escutcheonref14_Hello.calls annB nonceG helloAnn true W hello_ann
  have hfr := fun W => ref_frame W
  have T03 := Lib.hid t03
  have P3 := Lib.hid hp3
  have CO3 := Lib.hid hco3
  have B3 := Lib.hid hb3
  have H3 := Lib.hid hh3
  have R3 := Lib.hid hr3
  have CA3 := Lib.hid hca3
  have TA3 := Lib.hid hta3
  have RI3 := Lib.hid hri3
  have RU3 := Lib.hid hru3
  clear t03 t3 hp3 hco3 hb3 hh3 hr3 hca3 hta3 hri3 hru3 HRU HRI HTA HCA HPO HCO TW
  go_wp2_with (first | (go_at_call 31; refine (hhe _).mono ?_; rintro e w4 ⟨rfl, hb4⟩) | (go_at_call 32; refine (hfr _).mono ?_; rintro e w5 ⟨rfl, hb5⟩))
  have t35 : Tch (fun _ => False) w3 w5 := (Tch.of_below (fun _ => False) hb4).tbelow hb5
  have hp5 := P3.out.tch t35 (fun h => h)
  have hco5 := CO3.out.tch t35 (fun h => h) (fun _ _ h => h)
  have hb5' := B3.out.tch t35 (fun h => h)
  have hh5 := H3.out.tch t35 (fun h => h)
  have hr5 := R3.out.tch t35 (fun h => h)
  have hca5 := CA3.out.tch t35 (fun h => h)
  have hta5 := TA3.out.tch t35 (fun h => h)
  have hri5 := RI3.out.tch t35 (fun h => h)
  have hru5 := rules_keep RU3.out.1 RU3.out.2 t35 (fun _ _ _ h => h)
  have hfeed := port_feed p mb b h rd ub _ _ _ _ 1 0 _ _ _ _ _ w5 hp5 hco5 hb5' hh5 hr5 (by decide) (by decide)
  have np : ¬ (p = b ∨ p = h ∨ p = rd) := fun e => e.elim (at_ne2 hp5 hb5' (by decide)) (fun e => e.elim (at_ne2 hp5 hh5 (by decide)) (at_ne2 hp5 hr5 (by decide)))
  have nc : ¬ (cb = b ∨ cb = h ∨ cb = rd) := fun e => e.elim (at_ne2 hca5 hb5' (by decide)) (fun e => e.elim (at_ne2 hca5 hh5 (by decide)) (at_ne2 hca5 hr5 (by decide)))
  have nt : ¬ (tb = b ∨ tb = h ∨ tb = rd) := fun e => e.elim (at_ne2 hta5 hb5' (by decide)) (fun e => e.elim (at_ne2 hta5 hh5 (by decide)) (at_ne2 hta5 hr5 (by decide)))
  have nr : ¬ (rb = b ∨ rb = h ∨ rb = rd) := fun e => e.elim (at_ne2 hri5 hb5' (by decide)) (fun e => e.elim (at_ne2 hri5 hh5 (by decide)) (at_ne2 hri5 hr5 (by decide)))
  have nu : ∀ k cells, At w5 k cells 145 → ¬ (k = b ∨ k = h ∨ k = rd) := fun k cells hk e => e.elim (at_ne2 hk hb5' (by decide)) (fun e => e.elim (at_ne2 hk hh5 (by decide)) (at_ne2 hk hr5 (by decide)))
  have t05 := T03.out.ttch t35 (fun _ _ h => h.elim)
  have T05 := Lib.hid t05
  have P5 := Lib.hid hp5
  have CA5 := Lib.hid hca5
  have TA5 := Lib.hid hta5
  have RI5 := Lib.hid hri5
  have RU5 := Lib.hid hru5
  clear t05 hp5 hco5 hb5' hh5 hr5 hca5 hta5 hri5 hru5 t35 hb4 hb5 hhe hfr P3 CO3 B3 H3 R3 CA3 TA3 RI3 RU3
  refine hfeed.mono ?_
  rintro e w6 ⟨rfl, t6⟩
  have hr6 : ReadyAt w6 p mb cb tb rb (.pointer (some ⟨ub, 0, none⟩)) A c 1 := ⟨P5.out.tch t6 np, hcap, (rules_keep RU5.out.1 RU5.out.2 t6 nu).1, CA5.out.tch t6 nc, TA5.out.tch t6 nt, RI5.out.tch t6 nr⟩
  have t06 := T05.out.ttch t6 (fun k hk h => by rcases h with rfl | rfl | rfl <;> omega)
  have hpl := plain_set p mb cb tb rb _ A c 1 w6 hr6
  have P6 := Lib.hid hr6.port
  have npl : ¬ (p = cb ∨ p = tb ∨ p = rb) := fun e => e.elim (fun e => hcp e.symm) (fun e => e.elim (fun e => htp e.symm) (fun e => hrp e.symm))
  have T06 := Lib.hid t06
  clear hfeed t6 hr6 t06 np nc nt nr nu P5 CA5 TA5 RI5 RU5 T05 T03
  have hpl2 : Calls Tryz.prog 11 #[.pointer (some ⟨p, 0, none⟩), .string ⟨#[97, 110, 110]⟩, .agg #[.int .i64 2, .string ⟨#[97]⟩, .string ⟨#[120]⟩, .int .i64 0, .int .i64 0]] w6 fun e w' => e = .returned (.agg #[.int .i64 0, .string ⟨#[]⟩, .int .i64 0, .int .i64 1, .slice none 0 0]) ∧ LaidOne (fun k => k = cb ∨ k = tb ∨ k = rb) w6 cb tb 100 valX 1 0 18 1 0 w' := hpl
  go_wp2_with fail
  refine hpl2.mono ?_
  rintro e w7 ⟨rfl, ⟨b', c', zs, sb, i1, i2, i3, i4⟩, ⟨o, i5⟩, t7⟩
  have hp7 := P6.out.tch t7 npl
  have t07 := T06.out.ttch t7 (fun k hk h => by rcases h with rfl | rfl | rfl <;> omega)
  have hrep : At (w7.alloc (.cells #[.int .i64 0, .string ⟨#[]⟩, .int .i64 0, .int .i64 1, .slice none 0 0] TReply)) w7.heap.size repL1 TReply := At.new w7 _ _
  have hit := port_items p mb cb tb sb b' c' _ _ _ 1 0 100 18 1 0 1 o valX 1 0 zs (w7.alloc (.cells #[.int .i64 0, .string ⟨#[]⟩, .int .i64 0, .int .i64 1, .slice none 0 0] TReply)) (hp7.alloc _) (i5.alloc _) (i2.alloc _) (i3.alloc _) (i1.alloc _)
  have s0 := hrep.cell 0 rfl
  have s3 := hrep.cell 3 rfl
  have T07 := Lib.hid (t07.talloc (o := (.cells #[.int .i64 0, .string ⟨#[]⟩, .int .i64 0, .int .i64 1, .slice none 0 0] TReply)))
  have hrq : (replyB.toList == [0, 17, 2, 102, 101, 100, 99, 98, 97, 57, 56, 55, 54, 53, 52, 51, 50, 49, 48]) = true := by decide +kernel
  clear hpl hpl2 i1 i2 i3 i4 i5 t7 t07 hp7 hrep T06 P6
  go_wp2_with (go_at_call 17; refine hit.mono ?_; rintro e w9 ⟨g9, c9, rfl, t9⟩)
  go_ret
  have h9 := T07.out.ttch t9 (fun k hk h => by omega)
  exact ⟨rfl, h9.os, h9.tape, h9.output, h9.size, fun k hk => h9.block k hk (Nat.not_le.2 hk)⟩
end Go.Proofs.YtkekohmkaefdnaaGreatDoor

/- Accept where there is no room, or with a nonce that may not be. -/
set_option linter.unusedVariables false
namespace Go.Proofs.YtkekohmkaefdnaaGreatDoor
open Go.RowKit Go.Maps Go.Shelf

set_option maxRecDepth 100000 in
theorem accept_full (p mb : Nat) (u rl c r : Value) (ids now : Int) (bs : List Nat) (sh : List Bool) (nonce : ByteArray) (w : World) (hnz : nonce.size = 16) (hn : 8 ≤ (openIds sh).length) (hb : bs.length ≤ 1000) (hp : At w p (portV u rl c r ids now mb) TPort) (hC : Conns w mb bs sh) :
    Calls Tryz.prog 20 #[.pointer (some ⟨p, 0, none⟩), .string nonce] w fun e w' => e = .returned (.tuple #[.int .i64 0, .int .i64 14]) ∧ Below w.heap.size w w' := by
  have ho := open_any p mb u rl c r ids now bs sh w (by omega) hp hC
  have e1 : ((nonce.size : Int) != 16) = false := by rw [hnz]; rfl
  clear hC hp hnz
  go_enter Tryz.func20, Tryz.ntmps20
  go_wp2_with (go_at_call 21; refine ho.mono ?_; rintro e W ⟨v, rfl, ⟨A, cc, rfl, q1, q2⟩, hbel⟩; clear q1 q2)
  go_ret2
  exact ⟨rfl, hbel⟩

set_option maxRecDepth 100000 in
theorem accept_arg (p : Nat) (nonce : ByteArray) (w : World) (hnz : ((nonce.size : Int) != 16) = true) :
    Calls Tryz.prog 20 #[.pointer (some ⟨p, 0, none⟩), .string nonce] w fun e w' => e = .returned (.tuple #[.int .i64 0, .int .i64 1]) ∧ w' = w := by
  go_enter Tryz.func20, Tryz.ntmps20
  go_wp2
  go_ret2
  exact ⟨rfl, rfl⟩
end Go.Proofs.YtkekohmkaefdnaaGreatDoor

/- PortFull: the walk, where the first call answers true. -/
set_option linter.unusedVariables false
namespace Go.Proofs.YtkekohmkaefdnaaGreatDoor
open Go.RowKit Go.Maps Go.Shelf Go.Proofs.YtkekohmkaefdnaaGreatDoorW.PrintWords Go.Proofs.YtkekohmkaefdnaaGreatDoorW.PrintLast Go.Proofs.YtkekohmkaefdnaaGreatDoor.Pa

theorem open_rep : ∀ m, m < 9 → (openIds (List.replicate m false)) = (List.range m).map fun (k : Nat) => (k : Int) + 1 := by decide
theorem open_set : ∀ m, m < 9 → ∀ q, q < m → (openIds ((List.replicate m false).set q true)).length = m - 1 := by decide
theorem open_rep_len {m : Nat} (h : m < 9) : (openIds (List.replicate m false)).length = m := by rw [open_rep m h]; simp
theorem rep_snoc (m : Nat) : List.replicate m false ++ [false] = List.replicate (m + 1) false := by rw [List.replicate_succ']

/-- The server of the law, m connections open. -/
def FullAt (B : Nat) (w : World) (p mb ub : Nat) (rl c r : Value) (m : Nat) : Prop := At w p (portV (.pointer (some ⟨ub, 0, none⟩)) rl c r m 0 mb) TPort ∧ ∃ bs, bs.length = m ∧ Conns w mb bs (List.replicate m false) ∧ ∀ b ∈ bs, B ≤ b

theorem nonceH_size : nonceH.size = 16 := rfl
theorem accept_some {w : World} {p mb ub : Nat} {rl c r : Value} {m : Nat} {B : Nat} (h : FullAt B w p mb ub rl c r m) (hm : m < 8) {w0 : World} (hb : Below B w0 w) (hp : B ≤ p) (hmb : B ≤ mb) (hB : B ≤ w.heap.size) :
    Calls Tryz.prog 20 #[.pointer (some ⟨p, 0, none⟩), .string nonceH] w fun e w' => e = .returned (.tuple #[.int .i64 ((m : Int) + 1), .int .i64 0]) ∧ FullAt B w' p mb ub rl c r (m + 1) ∧ Below B w0 w' := by
  obtain ⟨h1, bs, hl, hC, hbB⟩ := h
  rw [← hl] at h1
  refine (accept_ok p mb ub rl c r 0 bs _ nonceH w nonceH_size (by rw [open_rep_len (by omega)]; exact hm) (by omega) (by omega) (by omega) h1 hC).mono ?_
  rintro e w' ⟨b, h, rd, rfl, h2, h3, h5, h4, _⟩
  rw [hl] at h2
  refine ⟨by rw [hl], ⟨by simpa using h2, bs ++ [b], by simp [hl], by rw [← rep_snoc]; exact h3, fun x hx => by rcases List.mem_append.1 hx with hx | hx; exact hbB x hx; (obtain rfl := List.mem_singleton.1 hx; omega)⟩, h4.below hb hB (fun k hk => by rcases hk with rfl | rfl <;> assumption)⟩

theorem accept_none {w : World} {p mb ub : Nat} {rl c r : Value} {B : Nat} (h : FullAt B w p mb ub rl c r 8) {w0 : World} (hb : Below B w0 w) (hB : B ≤ w.heap.size) :
    Calls Tryz.prog 20 #[.pointer (some ⟨p, 0, none⟩), .string nonceH] w fun e w' => e = .returned (.tuple #[.int .i64 0, .int .i64 14]) ∧ FullAt B w' p mb ub rl c r 8 ∧ Below B w0 w' := by
  obtain ⟨h1, bs, hl, hC, hbB⟩ := h
  refine (accept_full p mb _ rl c r _ 0 bs _ nonceH w nonceH_size (by rw [open_rep_len (by omega)]; omega) (by omega) h1 hC).mono ?_
  rintro e w' ⟨rfl, h2⟩
  exact ⟨rfl, ⟨h1.below h2 h1.lt, bs, hl, hC.tch (Tch.of_below (fun _ => False) h2) (fun h => h) (fun _ _ h => h), hbB⟩, hb.trans (h2.mono hB)⟩

theorem pick_idx (shut : Int) (m : Nat) (h : 1 ≤ m) (h9 : m < 9) : ∃ q : Nat, q < m ∧ (wrap64 (shut.tmod (m : Int) + (m : Int))).tmod (m : Int) = (q : Int) := by
  have hm : (0 : Int) < (m : Int) := by omega
  have h1 : shut.tmod (m : Int) < (m : Int) := Int.tmod_lt_of_pos _ hm
  have h2 : -(m : Int) < shut.tmod (m : Int) := by
    have := Int.tmod_lt_of_pos (-shut) hm
    rw [Int.neg_tmod] at this
    omega
  generalize shut.tmod (m : Int) = a at h1 h2
  have hw : wrap64 (a + (m : Int)) = a + (m : Int) := by unfold wrap64; omega
  rw [hw, Int.tmod_eq_emod_of_nonneg (by omega)]
  have h3 := Int.emod_nonneg (a + (m : Int)) (show (m : Int) ≠ 0 by omega)
  have h4 := Int.emod_lt_of_pos (a + (m : Int)) hm
  exact ⟨((a + (m : Int)) % (m : Int)).toNat, by omega, by omega⟩

theorem rep_get (m q : Nat) (h : q < m) : (List.replicate m false)[q]? = some false := by simp [h]
theorem openAt_rep {bs : List Nat} {m q : Nat} (hl : bs.length = m) (hq : q < m) : ∃ b, openAt bs (List.replicate m false) ((q : Int) + 1) = some b := by
  unfold openAt
  rw [show (((q : Int) + 1) - 1).toNat = q from by omega, if_pos ⟨by omega, rep_get m q hq⟩]
  exact ⟨_, List.getElem?_eq_getElem (by omega)⟩
theorem openAt_shut {bs : List Nat} {m q : Nat} (hq : q < m) : openAt bs ((List.replicate m false).set q true) ((q : Int) + 1) = none := by
  unfold openAt
  rw [show (((q : Int) + 1) - 1).toNat = q from by omega, if_neg]
  rw [List.getElem?_set_self (by simpa using hq)]
  simp

def OpenL (M : Nat) (w : World) (e : Ending) (w' : World) : Prop := ∃ A cc, e = .returned (.slice A M cc) ∧ Below w.heap.size w w'
def shortB : ByteArray := ⟨#[115, 104, 111, 114, 116]⟩
/-- Open's answer of that server. -/
def OpenF (B p mb ub : Nat) (rl c r : Value) (m : Nat) (w : World) (e : Ending) (w' : World) : Prop :=
  ∃ A cc, e = .returned (.slice A m cc) ∧ (∀ j : Nat, j < m → ∃ g, A = some ⟨g, 0, none⟩ ∧ w.heap.size ≤ g ∧ g < w'.heap.size ∧ w'.cell? ⟨g, j, none⟩ = some (.int .i64 ((j : Int) + 1))) ∧ FullAt B w' p mb ub rl c r m ∧ Below w.heap.size w w'
theorem open_full {B : Nat} {w : World} {p mb ub : Nat} {rl c r : Value} {m : Nat} (h : FullAt B w p mb ub rl c r m) (hm : m < 9) : Calls Tryz.prog 21 #[.pointer (some ⟨p, 0, none⟩)] w (OpenF B p mb ub rl c r m w) := by
  obtain ⟨h1, bs, hl, hC, hbB⟩ := h
  refine (open_any p mb _ rl c r _ 0 bs _ w (by omega) h1 hC).mono ?_
  rintro e w' ⟨v, rfl, ⟨A, cc, rfl, h2, h3⟩, hb⟩
  rw [open_rep_len hm] at h2 ⊢
  refine ⟨A, cc, rfl, fun j hj => h3 j _ ?_, ⟨h1.below hb h1.lt, bs, hl, hC.tch (Tch.of_below (fun _ => False) hb) (fun h => h) (fun _ _ h => h), hbB⟩, hb⟩
  rw [open_rep m hm, List.getElem?_map, List.getElem?_range hj]
  rfl

set_option maxRecDepth 100000 in
set_option maxHeartbeats 4000000 in
theorem full_rest (n shut : Int) (w : World) (hL : Laid w) (h1 : 0 ≤ n) (h2 : n ≤ 20) (hs1 : -9223372036854775808 ≤ shut) (hs2 : shut ≤ 9223372036854775807)
    (halive : ∀ W, Laid W → Calls Tryz.prog 7 #[] W fun e w' => e = .returned (.bool true) ∧ Below W.heap.size W w') :
    Calls Tryz.prog 4 #[.int .i64 n, .int .i64 shut] w fun e w' => e = .returned (.bool true) ∧ Below w.heap.size w w' := by
  have ha := halive w hL
  have HL := Lib.hid hL
  obtain ⟨N, rfl⟩ := Int.eq_ofNat_of_zero_le h1
  have h2' : N ≤ 20 := by omega
  clear halive hL h1
  go_enter Tryz.func4, Tryz.ntmps4
  go_wp2_with fail
  refine ha.mono ?_
  rintro e W1 ⟨rfl, hb1⟩
  have HB1 := Lib.hid hb1
  have z1 := hb1.size
  clear ha hb1
  go_wp2_with fail
  refine (two_any _).mono ?_
  rintro e W2 ⟨lb, rfl, hlb, hb2⟩
  have hpn := port_new usersTwo lb 2 80 textTwo [ruleDeny, ruleBob, ruleAnn] 0 5000 20 W2 hlb usersTwo_ok parse_two ((HL.out.below rfl HB1.out).below rfl hb2) (by omega) (by omega) (by omega) (by omega)
  have HB2 := Lib.hid hb2
  have z2 := hb2.size
  clear hb2 hlb
  change Calls _ _ #[.agg #[.slice (some ⟨lb, 0, none⟩) 2 2, _, _, _]] _ _ at hpn
  go_wp2_with fail
  refine hpn.mono ?_
  rintro e W3 ⟨p, mb, ub, cb, tb, rb, rv, rfl, hN, hb3, g1, g2, g3, g4, g5⟩
  have hBW : Below w.heap.size w W3 := (HB1.out.trans (HB2.out.mono z1)).trans (hb3.mono (by omega))
  have hFA : FullAt w.heap.size W3 p mb ub rv (.pointer (some ⟨cb, 0, none⟩)) (.pointer (some ⟨rb, 0, none⟩)) 0 := ⟨hN.port, [], rfl, hN.conns, fun b hb => by simp at hb⟩
  have z3 := hb3.size
  have gp : w.heap.size ≤ p := by omega
  have gm : w.heap.size ≤ mb := by omega
  clear hN hb3 hpn g1 g2 g3 g4 g5
  dsimp only
  go_wp2_with fail
  go_loopw [7] (fun i wr => ∃ j : Nat, j ≤ N ∧ i = .int .i64 ((j : Int) + 1) ∧ Aside (FullAt w.heap.size wr p mb ub (rv) (.pointer (some ⟨cb, 0, none⟩)) (.pointer (some ⟨rb, 0, none⟩)) (min j 8)) ∧ Aside (Below w.heap.size w wr)) (fun i _ => N + 1 - (intOf i).toNat)
  case atStart => exact ⟨0, Nat.zero_le _, rfl, hFA, hBW⟩
  case round =>
    clear hFA hBW
    obtain ⟨j, hj, rfl, hF, hB⟩ := hrel
    by_cases hlt : j < N
    · have hlt' : (j : Int) + 1 ≤ (N : Int) := by omega
      by_cases h8 : j < 8
      · have hm : min j 8 = j := by omega
        rw [hm] at hF
        have hac := accept_some hF.out h8 hB.out gp gm hB.out.size
        have hk8 : (j : Int) + 1 ≤ 8 := by omega
        clear hF hB hm
        go_wp2_with fail
        refine hac.mono ?_
        rintro e wn ⟨rfl, hF, hB⟩
        have HF := Lib.hid hF
        have HB := Lib.hid hB
        clear hac hF hB
        go_wp2
        go_roundw
        case rel => exact ⟨j + 1, by omega, by go_num, by rw [show min (j + 1) 8 = j + 1 from by omega]; exact HF.out, HB.out⟩
        case measure => simp [intOf]; omega
      · have hm : min j 8 = 8 := by omega
        rw [hm] at hF
        have hac := accept_none hF.out hB.out hB.out.size
        have hk8 : (8 : Int) < (j : Int) + 1 := by omega
        have hk9 : ¬ (j : Int) + 1 ≤ 8 := by omega
        clear hF hB hm
        go_wp2_with fail
        refine hac.mono ?_
        rintro e wn ⟨rfl, hF, hB⟩
        have HF := Lib.hid hF
        have HB := Lib.hid hB
        clear hac hF hB
        go_wp2
        go_roundw
        case rel => exact ⟨j + 1, by omega, by go_num, by rw [show min (j + 1) 8 = 8 from by omega]; exact HF.out, HB.out⟩
        case measure => simp [intOf]; omega
    · obtain rfl : j = N := by omega
      obtain ⟨m, hm⟩ : ∃ m, m = min j 8 := ⟨_, rfl⟩
      rw [← hm] at hF
      have hm8 : m < 9 := by omega
      have hmi : min (j : Int) 8 = (m : Int) := by omega
      clear hm
      have hop := open_full hF.out hm8
      have hlt' : ¬ (j : Int) + 1 ≤ (j : Int) := by omega
      have HB := Lib.hid hB.out
      have z4 := hB.out.size
      clear hF hB hj
      go_wp2_with fail
      refine hop.mono ?_
      rintro e w5 ⟨A, cc, rfl, hrow, hF5, hb5⟩
      have z5 := hb5.size
      have HB5 := Lib.hid (HB.out.trans (hb5.mono z4))
      have HR5 := Lib.hid hrow
      have HF5 := Lib.hid hF5
      clear hop hrow hF5 hb5
      by_cases hm0 : m = 0
      · subst hm0
        obtain ⟨q1, bs, q2, q3, _⟩ := HF5.out
        have hs := shut_none p mb _ _ _ _ _ 0 bs _ 1 w5 q1 q3 (WalkArith.wf_i64 (by omega)) (by unfold openAt; rw [if_neg (by simp)])
        clear q1 q2 q3
        go_wp2_with fail
        refine hs.mono ?_
        rintro e w6 ⟨rfl, hb6⟩
        have HB6 := Lib.hid hb6
        clear hs hb6
        go_wp2
        go_ret
        exact ⟨rfl, HB5.out.trans (HB6.out.mono (by omega))⟩
      · have hm1 : 1 ≤ m := by omega
        clear hm0
        obtain ⟨q, hq, heq⟩ := pick_idx shut m hm1 hm8
        go_wp2_with fail

        clear heq
        obtain ⟨g, rfl, hg1, hg2, hcell⟩ := HR5.out q hq
        have hq0 : (0 : Int) ≤ (q : Int) := by omega
        have hq1 : (q : Int) < (m : Int) := by omega
        have hqw : (Lit.int .i64 ((q : Int) + 1)).wf = true := WalkArith.wf_i64 (by omega)
        obtain ⟨q1, bs, hbl, q3, hbB⟩ := HF5.out
        obtain ⟨b, hob⟩ := openAt_rep hbl hq
        have hs1 := shut_some p mb _ _ _ _ _ 0 bs _ ((q : Int) + 1) b w5 q1 q3 hqw hob
        have Hb : Hid (p ≠ b) := Lib.hid (q3.pne q1 (by decide) (List.mem_of_getElem? (openAt_some hob).2.2))
        have HBB : Hid (w.heap.size ≤ b) := Lib.hid (hbB b (List.mem_of_getElem? (openAt_some hob).2.2))
        have HQ1 := Lib.hid q1
        have HBL := Lib.hid hbl
        have HQW := Lib.hid hqw
        clear q1 q3 hob hbl hqw hbB
        rw [show (((q : Int) + 1) - 1).toNat = q from by omega] at hs1
        have hia : (Instr.indexAt 53 (.slice (some ⟨g, 0, none⟩) m cc) (.int .i64 (q : Int))).run Tryz.prog w5 = .ok (.pointer (some ⟨g, q, none⟩)) w5 := by go_simp
        rw [hia]
        clear hia
        go_wp2_with fail
        refine hs1.mono ?_
        rintro e w6 ⟨rfl, hC6, ht6⟩
        have hp6 := HQ1.out.tch ht6 Hb.out
        have hB6 : Below w.heap.size w w6 := ht6.below HB5.out (by omega) (fun k hk => by rw [hk]; exact HBB.out)
        have hs2 := shut_none p mb _ _ _ _ _ 0 bs _ ((q : Int) + 1) w6 hp6 hC6 HQW.out (openAt_shut hq)
        have HC6 := Lib.hid hC6
        have HP6 := Lib.hid hp6
        have HB6 := Lib.hid hB6
        have z6 := hB6.size
        clear hs1 hC6 ht6 hp6 hB6
        go_wp2_with fail
        refine hs2.mono ?_
        rintro e w7 ⟨rfl, hb7⟩
        have hp7 := HP6.out.below hb7 HP6.out.lt
        have hC7 := HC6.out.tch (Tch.of_below (fun _ => False) hb7) (fun h => h) (fun _ _ h => h)
        have hB7 : Below w.heap.size w w7 := HB6.out.trans (hb7.mono z6)
        obtain ⟨M, rfl⟩ : ∃ M, m = M + 1 := ⟨m - 1, by omega⟩
        have hol : (openIds ((List.replicate (M + 1) false).set q true)).length = M := open_set (M + 1) hm8 q hq
        have hop : Calls Tryz.prog 21 #[.pointer (some ⟨p, 0, none⟩)] w7 (OpenL M w7) := (open_any p mb _ _ _ _ _ 0 bs _ w7 (by have := HBL.out; omega) hp7 hC7).mono fun e w' h => by
          obtain ⟨v, rfl, ⟨A, cc, rfl, _⟩, hb⟩ := h
          rw [hol]
          exact ⟨A, cc, rfl, hb⟩
        have HC7 := Lib.hid hC7
        have HP7 := Lib.hid hp7
        have HB7 := Lib.hid hB7
        have z7 := hB7.size
        have HOL := Lib.hid hol
        clear hs2 hb7 hp7 hC7 hB7 hol
        go_wp2_with fail
        refine hop.mono ?_
        rintro e w8 ⟨A8, cc8, rfl, hb8⟩
        have hp8 := HP7.out.below hb8 HP7.out.lt
        have hC8 := HC7.out.tch (Tch.of_below (fun _ => False) hb8) (fun h => h) (fun _ _ h => h)
        have hB8 : Below w.heap.size w w8 := HB7.out.trans (hb8.mono z7)
        have z8 := hB8.size
        have hacc : Calls Tryz.prog 20 #[.pointer (some ⟨p, 0, none⟩), .string nonceH] w8 fun e w' => e = .returned (.tuple #[.int .i64 ((M : Int) + 1 + 1), .int .i64 0]) ∧ Below w.heap.size w w' := by
          have e1 : ((M + 1 : Nat) : Int) = (bs.length : Int) := by rw [HBL.out]
          rw [e1] at hp8
          refine (accept_ok p mb ub _ _ _ 0 bs _ nonceH w8 nonceH_size (by rw [HOL.out]; omega) (by have := HBL.out; omega) (by omega) (by omega) hp8 hC8).mono ?_
          rintro e w' ⟨b', h', rd', rfl, _, _, _, h4, _⟩
          refine ⟨by rw [HBL.out]; rfl, h4.below hB8 z8 (fun k hk => by rcases hk with rfl | rfl <;> omega)⟩
        clear hop hb8 hp8 hC8 hB8
        go_wp2_with fail
        refine hacc.mono ?_
        rintro e w9 ⟨rfl, hB9⟩
        have HB9 := Lib.hid hB9
        clear hacc hB9
        have hsh := accept_arg p shortB w9 (by decide)
        go_wp2_with fail
        refine hsh.mono ?_
        rintro e w10 ⟨rfl, rfl⟩
        clear hsh
        go_wp2
        go_ret
        exact ⟨rfl, HB9.out⟩
end Go.Proofs.YtkekohmkaefdnaaGreatDoor

/- PortFull, whatever it is asked. -/
set_option linter.unusedVariables false
namespace Go.Proofs.YtkekohmkaefdnaaGreatDoor
open Go.RowKit Go.Maps Go.Shelf

set_option maxRecDepth 100000 in
theorem full_any (n shut : Int) (w : World) (hL : Laid w) (b0 : -9223372036854775808 ≤ n ∧ n ≤ 9223372036854775807) (b1 : -9223372036854775808 ≤ shut ∧ shut ≤ 9223372036854775807) :
    Calls Tryz.prog 4 #[.int .i64 n, .int .i64 shut] w fun e w' => e = .returned (.bool true) ∧ Below w.heap.size w w' := by
  by_cases hin : 0 ≤ n ∧ n ≤ 20
  · exact full_rest n shut w hL hin.1 hin.2 b1.1 b1.2 alive_any
  · have ha := alive_any w hL
    clear hL b0 b1
    by_cases h0 : n < 0
    · clear hin
      go_enter Tryz.func4, Tryz.ntmps4
      go_wp2_with (go_at_call 7; refine ha.mono ?_; rintro e w1 ⟨rfl, hb⟩)
      go_ret
      exact ⟨rfl, hb⟩
    · have h20 : 20 < n := by omega
      have h0' : 0 ≤ n := by omega
      clear hin
      go_enter Tryz.func4, Tryz.ntmps4
      go_wp2_with (go_at_call 7; refine ha.mono ?_; rintro e w1 ⟨rfl, hb⟩)
      go_ret
      exact ⟨rfl, hb⟩
end Go.Proofs.YtkekohmkaefdnaaGreatDoor
