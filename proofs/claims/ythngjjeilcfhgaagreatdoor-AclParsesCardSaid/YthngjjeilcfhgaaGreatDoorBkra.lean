import Derived.Test.YthngjjeilcfhgaaGreatDoorBkq
import Derived.Test.YthngjjeilcfhgaaGreatDoorPl
import Derived.Deep.QuietTactic
import Derived.BigQuiet
import Derived.StillTailTactics
import Derived.Test.YthngjjeilcfhgaaGreatDoorInv
import Derived.Test.YthngjjeilcfhgaaGreatDoorProg
import Derived.Tactics
import Derived.WalkKit
import Derived.LoopN
import Derived.RowKit
import Derived.RowKit3
import Derived.KernelRfl
import Derived.Below

/- The book's lists of rules: are they as they were? -/
set_option linter.unusedVariables false
namespace Go.Proofs.YthngjjeilcfhgaaGreatDoor.Bk
open Go.RowKit Go.Proofs.YthngjjeilcfhgaaGreatDoorW.PrintWords Go.Proofs.YthngjjeilcfhgaaGreatDoor.Pa

theorem flat45 : Flat k45 := fun w w1 x cs h => by
  rw [k45_open h]
  exact k45_mk w1 x

set_option maxHeartbeats 1600000 in
theorem stillRules_any (g : Nat) (v u : Value) (vs us : List OneV) (ls : List (List S45)) (w : World) (hv : w.cell? ⟨g, 4, none⟩ = some v) (hu : w.cell? ⟨g, 5, none⟩ = some u)
    (h1 : Has k45 45 33 w v vs ls) (h2 : Has k45 45 33 w u us ls) (hn : ls.length ≤ 250) (hsame : ∀ l ∈ ls, ∃ k, Pl.escutcheonbook_SameRules.f k l l = some true) :
    Calls Tryz.prog 20 #[.pointer (some ⟨g, 0, none⟩)] w fun e w' => e = .returned (.bool true) ∧ Drawn0 w w' := by
  obtain ⟨A1, c1, rfl, hc1⟩ := h1.form
  obtain ⟨A2, c2, rfl, hc2⟩ := h2.form
  have HS := Lib.hid hsame
  clear hsame
  go_enter Tryz.func20, Tryz.ntmps20
  go_wp2
  go_loopw [3] (fun i W => ∃ k : Nat, i = .int .i64 k ∧ k ≤ ls.length ∧ Drawn0 w W) (fun i _ => ls.length - (intOf i).toNat)
  case atStart => exact ⟨0, rfl, Nat.zero_le _, Drawn0.refl w⟩
  case round =>
    obtain ⟨k, rfl, hk, hd⟩ := hrel
    have hv' := (drawn_cell hd ⟨g, 4, none⟩).trans hv
    have hu' := (drawn_cell hd ⟨g, 5, none⟩).trans hu
    have h1' := h1.below flat45 hd.below
    have h2' := h2.below flat45 hd.below
    clear hv hu h1 h2
    by_cases hlt : k < ls.length
    · obtain ⟨l, hl⟩ := lt_some hlt
      obtain ⟨ad1, B1, d1, rfl, q1, e1, C1⟩ := h1'.at k l hl
      obtain ⟨ad2, B2, d2, rfl, q2, e2, C2⟩ := h2'.at k l hl
      obtain ⟨kk, hkk⟩ := HS.out l (List.mem_of_getElem? hl)
      have HK := Lib.hid hkk
      have HC1 := Lib.hid C1
      have HC2 := Lib.hid C2
      have HD := Lib.hid hd
      clear hkk C1 C2 hl h1' h2' hd
      go_wp2
      go_quiet ((go_at_call 8; exact Calls.quiet_of ((Pl.escutcheonbook_SameRules.calls kk B1 d1 l B2 d2 l true _ (Kd.C_drewN HC1.out _) e1 (Kd.C_drewN HC2.out _) e2 HK.out).mono fun _ _ hh => ⟨hh.1, hh.2.out⟩)))
      go_wp2
      go_roundw
      case rel => exact ⟨k + 1, by go_num, by omega, HD.out.step _⟩
      case measure => simp [intOf]; omega
    · have HD := Lib.hid hd
      clear hd
      go_wp2
      go_ret
      exact ⟨rfl, HD.out⟩
end Go.Proofs.YthngjjeilcfhgaaGreatDoor.Bk

/- The book's lists of rules are marked. -/
set_option linter.unusedVariables false
namespace Go.Proofs.YthngjjeilcfhgaaGreatDoor.Bk
open Go.RowKit Go.Proofs.YthngjjeilcfhgaaGreatDoorW.PrintWords Go.Proofs.YthngjjeilcfhgaaGreatDoor.Pa

def mkR (i k : Nat) : S45 := ⟨false, (⟨#[]⟩ : ByteArray), wrap64 ((wrap64 ((wrap64 ((-1000) * (i : Int))) - (k : Int))) - 1), (⟨#[]⟩ : ByteArray)⟩
abbrev eR : Nat := 45
abbrev sR : Nat := 33

set_option maxHeartbeats 3200000 in
set_option maxRecDepth 100000 in
theorem putRules_any (g B N : Nat) (v : Value) (vs : List OneV) (ls : List (List S45)) (w : World) (hv : w.cell? ⟨g, 4, none⟩ = some v) (hg : ∀ k, In vs k → k ≠ g)
    (h1 : Lists k45 45 33 w B v vs ls) (hn : ls.length ≤ 250) (hN : Small N ls) (hNN : N ≤ 10000)
    (hmk : ∀ i n : Nat, i ≤ 250 → n ≤ 10000 → ∃ k, Pl.escutcheonbook_markRules.f k (i : Int) 0 (n : Int) = some (mkOf mkR i 0 n)) :
    Calls Tryz.prog 28 #[.pointer (some ⟨g, 0, none⟩)] w fun e w' => e = .returned (.tuple #[]) ∧ PutI mkR k45 45 33 w B v vs ls.length N ls.length w' := by
  obtain ⟨A1, c1, rfl, hc1⟩ := h1.has.form
  have HM := Lib.hid hmk
  have H0 := Lib.hid (PutI.start (f := mkR) h1 rfl hN)
  clear hmk
  have hlv := h1.len
  have HV := Lib.hid hv
  have HG := Lib.hid hg
  have HLV := Lib.hid hlv
  have hin : ∀ k, In vs k → k < w.heap.size := fun k ⟨j, u, hu, hk⟩ => by
    obtain ⟨l, hl⟩ := lt_some (show j < ls.length by have := some_lt hu; omega)
    exact (Rd.of_R (h1.each j u l hu hl)).lt k hk
  have HIN := Lib.hid hin
  clear hin
  have hgl : g < w.heap.size := World.block_lt_of_cell? w _ hv
  clear hv hlv hg
  clear h1
  go_enter Tryz.func28, Tryz.ntmps28
  go_wp2
  go_loopw [2] (fun i W => ∃ k : Nat, i = .int .i64 k ∧ k ≤ ls.length ∧ PutI mkR k45 45 33 w B (.slice A1 ls.length c1) vs ls.length N k W) (fun i _ => ls.length - (intOf i).toNat)
  case atStart => exact ⟨0, rfl, Nat.zero_le _, H0.out⟩
  case round =>
    obtain ⟨i, rfl, hi, hP⟩ := hrel
    have hv' := (hP.tch.cell (p := ⟨g, 4, none⟩) hgl (fun x => HG.out _ x rfl)).trans HV.out
    by_cases hlt : i < ls.length
    · obtain ⟨cur, hcn, hcm, hcs, hL⟩ := hP.ex
      obtain ⟨l, hl⟩ := lt_some (show i < cur.length by omega)
      have hcs' : l.length ≤ N := hcs l (List.mem_of_getElem? hl)
      have hLh := hL.has
      rw [← hcn] at hLh
      obtain ⟨ad1, B1, d1, rfl, q1, e1, C1⟩ := hLh.at i l hl
      obtain ⟨kk, hkk⟩ := HM.out i l.length (by omega) (by omega)
      have HK := Lib.hid hkk
      have HP := Lib.hid hP
      have HL := Lib.hid hL
      have HCN := Lib.hid hcn
      have HCM := Lib.hid hcm
      have HCS := Lib.hid hcs
      have Hl := Lib.hid hl
      clear hkk hP hL hLh hcn hcm hcs hl C1
      go_wp2_with fail
      refine (Pl.escutcheonbook_markRules.calls kk i 0 l.length _ _ HK.out).mono ?_
      rintro x w2 ⟨mv, rfl, hr, hb⟩
      have hk0 := HP.out.inner flat45 rfl HCN.out HCM.out HCS.out HL.out Hl.out hr hb
      obtain ⟨Am, cm, rfl, hcm, _⟩ := (Rd.of_R hr).ex
      rw [mkOf_len]
      rw [mkOf_len] at hcm hk0
      have HK0 := Lib.hid hk0
      clear hk0
      clear hr hb
      go_wp2
      go_loopw [4] (fun j W => ∃ k : Nat, j = .int .i64 k ∧ k ≤ l.length ∧ PutK mkR k45 45 33 w B (.slice (some ad1) ls.length c1) vs ls.length N i l.length (.slice Am l.length cm) k W) (fun j _ => l.length - (intOf j).toNat)
      case atStart => exact ⟨0, rfl, Nat.zero_le _, HK0.out⟩
      case round =>
        clear HK0 hv' q1
        obtain ⟨k, rfl, hk, hPK⟩ := hrel
        by_cases hkl : k < l.length
        · have hv'' := (hPK.tch.cell (p := ⟨g, 4, none⟩) hgl (fun x => HG.out _ x rfl)).trans HV.out
          obtain ⟨cur2, l2, u, ad2, g2, cap2, c2, hall, hu, hug, hcap, e2, q2, hR2, hc2, hcc2, hin2⟩ := hPK.meets hkl
          obtain rfl := Option.some.inj e2
          have hCm : Kd.C k45 wr Am l.length (mkOf mkR i 0 l.length) := by
            obtain ⟨A9, c9, e9, _, hC9⟩ := hPK.rd.ex
            injection e9 with e9 _ _
            subst e9
            rw [mkOf_len] at hC9
            exact hC9
          obtain ⟨am, rfl, m0, m1, m2, m3⟩ := at_T45 hCm k (by omega) (by omega)
          have hrd : rd_T45 (mkOf mkR i 0 l.length) (k : Int) = mkR i k := by
            unfold rd_T45
            rw [List.getD_eq_getElem?_getD, Int.toNat_natCast, mkOf_get _ _ _ _ _ hkl, Nat.zero_add]
            rfl
          rw [hrd] at m0 m1 m2 m3
          rw [Int.toNat_natCast] at m0 m1 m2 m3
          have HPK := Lib.hid hPK
          have HALL := Lib.hid hall
          have HU := Lib.hid hu
          have HUG := Lib.hid hug
          have HR2 := Lib.hid hR2
          have HC2 := Lib.hid hc2
          have HCC2 := Lib.hid hcc2
          have HIN2 := Lib.hid hin2
          clear hPK hall hu hug hR2 hc2 hcc2 hin2 hCm hrd
          go_wp2
          go_still_tail 12, (by kernel_rfl)
          have hb3 : Below B wr wr.drew := (Below.refl B wr).drew
          have hR3 : Kd.R k45 45 wr.drew B (fun _ => True) (.slice (some ⟨g2, 0, none⟩) l.length cap2) l2 := Kd.R_drew HR2.out
          have hcc3 : ∀ j u, c2[j]? = some u → wr.drew.cell? ⟨g2, (k : Int).toNat * 4 + j, none⟩ = some u := HCC2.out
          have H3 := Lib.hid (And.intro hb3 (And.intro hR3 hcc3))
          clear hb3 hR3 hcc3
          change wpList _ _ _ _ _ wr.drew
          have hgrow : ∀ w1, wr.drew.grownBy w1 (some g2) → wr.grownBy w1 (some g2) := fun w1 h => ⟨h.os, h.tape, h.output, h.size, h.block⟩
          have HGR := Lib.hid hgrow
          clear hgrow
          generalize wr.drew = w3 at H3 HGR ⊢
          go_wp2_with ((with_reducible refine gate_ (.store 45 (.tmp 42) (.tmp 41)) rfl ?_); refine halt_ ?_)
          change wpList _ _ _ _ _ _
          refine Kd.R_store k45 (w0 := wr) B rfl rfl 45 (.tmp 42) (.tmp 41) rfl 45 (k : Int) 0 l2 (mkR i k) _ [.bool (mkR i k).f0, .string (mkR i k).f1, .int .i64 (mkR i k).f2, .string (mkR i k).f3] c2 (fun _ => True) (fun _ => False) rfl ?aO rfl rfl (by kernel_rfl) ?a1 H3.out.2.1 (by omega) (by omega) HC2.out H3.out.2.2 (show 0 + 4 ≤ 4 from Nat.le_refl _) ?aM (fun _ h => h.elim) H3.out.1 ?_
          case aO => show k * 4 = (k : Int).toNat * 4 + 0; omega
          case a1 =>
            intro q hq
            simp only [List.mem_cons, List.not_mem_nil, or_false] at hq
            rcases hq with rfl | rfl | rfl | rfl <;> rfl
          case aM =>
            have hcl : c2.length = 4 := HC2.out
            rw [List.take_zero, List.nil_append, List.drop_eq_nil_of_le (by show c2.length ≤ 0 + 4; omega), List.append_nil]
            exact k45_mkM _ _ _ _
          intro w4 hR4 hB4 hG4
          rw [Int.toNat_natCast] at hR4
          obtain ⟨a1, a2, a3, a4, a5, a6, a7⟩ := HALL.out
          have HN := Lib.hid (HPK.out.step flat45 rfl (by decide) hkl HIN.out a1 a2 a3 a4 a5 a6 a7 HU.out (by rw [HUG.out]; rfl) (HGR.out _ hG4) (by rw [HUG.out]; exact hR4))
          clear hR4 hB4 hG4 a1 a2 a3 a4 a5 a6 a7
          go_wp2
          go_roundw
          case rel => exact ⟨k + 1, by go_num, by omega, HN.out⟩
          case measure => simp [intOf]; omega
        · obtain rfl : k = l.length := by omega
          have HPK := Lib.hid hPK
          clear hPK
          go_wp2
          go_roundw
          case rel => exact ⟨i + 1, by go_num, by omega, HPK.out.done⟩
          case measure => simp [intOf]; omega
    · obtain rfl : i = ls.length := by omega
      have HP := Lib.hid hP
      clear hP
      go_wp2
      go_end0
      exact ⟨rfl, HP.out⟩
end Go.Proofs.YthngjjeilcfhgaaGreatDoor.Bk

/- The book's lists of rules are grown. -/
set_option linter.unusedVariables false
namespace Go.Proofs.YthngjjeilcfhgaaGreatDoor.Bk
open Go.RowKit Go.Proofs.YthngjjeilcfhgaaGreatDoorW.PrintWords Go.Proofs.YthngjjeilcfhgaaGreatDoor.Pa

theorem info_o : (Tryz.prog.info? 33).map (fun i => (i.zero, i.size, i.bytes)) = some (some (.slice none 0 0), 1, 24) := by kernel_rfl
theorem info_r : (Tryz.prog.info? 45).map (fun i => (i.zero, i.size, i.bytes)) = some (some (.agg #[(.bool false), (.string ⟨#[]⟩), (.int .i64 0), (.string ⟨#[]⟩)]), 4, 48) := by kernel_rfl

set_option maxHeartbeats 3200000 in
set_option maxRecDepth 100000 in
theorem growRules_any (g B N : Nat) (v : Value) (vs : List OneV) (ls : List (List S45)) (w : World) (hv : w.cell? ⟨g, 4, none⟩ = some v) (hg : ∀ k, In vs k → k ≠ g)
    (h1 : Lists k45 45 33 w B v vs ls) (hB : B ≤ w.heap.size) (hn : ls.length ≤ 250) (hN : Small N ls) (hNN : N ≤ 10000) (hm : Marked mkR ls ls.length)
    (hmk : ∀ i a n : Nat, i ≤ 250 → a ≤ 20000 → n ≤ 10000 → ∃ k, Pl.escutcheonbook_markRules.f k (i : Int) (a : Int) (n : Int) = some (mkOf mkR i a n)) :
    Calls Tryz.prog 34 #[.pointer (some ⟨g, 0, none⟩)] w fun e w' => ∃ ov, e = .returned ov ∧ GrowI mkR k45 45 33 w B v vs ls (N + 72) ls.length ov w' := by
  obtain ⟨A1, c1, rfl, hc1⟩ := h1.has.form
  have HM := Lib.hid hmk
  have H0 := Lib.hid (GrowI.start (f := mkR) (N := N + 72) h1)
  have hlv := h1.len
  have HV := Lib.hid hv
  have HG := Lib.hid hg
  have HMK := Lib.hid hm
  have HS := Lib.hid hN
  have HDIS := Lib.hid h1.dis
  have HLV := Lib.hid hlv
  have hgl : g < w.heap.size := World.block_lt_of_cell? w _ hv
  clear hmk hv hlv hg h1 hm hN
  go_enter Tryz.func34, Tryz.ntmps34
  go_wp2
  go_loopw [3, 4] (fun o i W => ∃ k : Nat, i = .int .i64 k ∧ k ≤ ls.length ∧ GrowI mkR k45 45 33 w B (.slice A1 ls.length c1) vs ls (N + 72) k o W) (fun _ i _ => ls.length - (intOf i).toNat)
  case atStart => exact ⟨0, rfl, Nat.zero_le _, H0.out⟩
  case round =>
    obtain ⟨i, rfl, hi, hP⟩ := hrel
    have hv' := (hP.tch.cell (p := ⟨g, 4, none⟩) hgl (fun x => HG.out _ x rfl)).trans HV.out
    have hs' := hP.tch.size
    by_cases hlt : i < ls.length
    · obtain ⟨l, hl⟩ := lt_some hlt
      obtain ⟨u, hu⟩ := lt_some (show i < vs.length by have := HLV.out; omega)
      have hll : l.length ≤ N := HS.out l (List.mem_of_getElem? hl)
      have hK := hP.inner hu hl (HMK.out i l hlt hl)
      obtain ⟨A0, c0, he, hc0, hC0⟩ := hP.outer.ex
      injection he with e1 e2 e3
      subst e1
      obtain ⟨ad1, rfl, q1⟩ := kv_cell hC0 i u hu
      have HP := Lib.hid hP
      have HK := Lib.hid hK
      have HU := Lib.hid hu
      have Hl := Lib.hid hl
      have HQ := Lib.hid q1
      obtain ⟨x1, hx1⟩ : ∃ x, x = u.1 := ⟨_, rfl⟩
      rw [← hx1] at q1
      have HX1 := Lib.hid hx1
      clear hP hK hu hl hC0 e2 e3 hx1 hc0
      go_wp2
      obtain ⟨wi, hwi⟩ : ∃ wi, wi = wr := ⟨_, rfl⟩
      have hwz : w.heap.size ≤ wi.heap.size := by rw [hwi]; exact hs'
      have HWI := Lib.hid hwi
      clear hwi
      go_loopw [5, 6] (fun lv n W => ∃ k : Nat, n = .int .i64 k ∧ k ≤ 12 ∧ GrowK mkR k45 45 B i wi u.1 l lv k W) (fun _ n _ => 12 - (intOf n).toNat)
      case atStart => exact ⟨0, rfl, Nat.zero_le _, by rw [HX1.out, HWI.out]; exact HK.out⟩
      case round =>
        clear hv' q1
        obtain ⟨k, rfl, hk, hGK⟩ := hrel
        obtain ⟨Ak, ck, rfl, hck, _⟩ := (Rd.of_R hGK.R).ex
        rw [mkOf_len] at hck hGK ⊢
        have hsz := hGK.tch.size
        obtain ⟨M, hM⟩ : ∃ M, M = l.length + k := ⟨_, rfl⟩
        rw [← hM] at hck hGK ⊢
        have HGK := Lib.hid hGK
        have hM12 : M ≤ l.length + 12 := by omega
        have HMM := Lib.hid hM
        clear hGK hM
        by_cases hk12 : k < 12
        · obtain ⟨kk, hkk⟩ := HM.out i M 1 (by omega) (by omega) (by omega)
          have HKK := Lib.hid hkk
          clear hkk
          go_wp2_with fail
          refine (Pl.escutcheonbook_markRules.calls kk i M 1 _ _ HKK.out).mono ?_
          rintro x w3 ⟨mv, rfl, hr, hb⟩
          have hG3 := HGK.out.below rfl flat45 hb
          have hs3 := hG3.tch.size
          obtain ⟨Am, cm, rfl, hcm, hCm⟩ := (Rd.of_R hr).ex
          rw [mkOf_len] at hcm hCm ⊢
          have HG3 := Lib.hid hG3
          have HCM := Lib.hid hCm
          clear hr hb hG3 hCm
          go_wp2_with ((with_reducible refine gate_builtin (b := .append) (xs := #[.tmp 27, .tmp 31]) rfl ?_); at_builtin; refine halt_ ?_)
          change wpList _ _ _ _ _ _
          refine R_append_old k45 (w0 := w3) B rfl (.tmp 27) (.tmp 31) 33 45 _ 48 rfl (by kernel_rfl) info_r rfl (by decide) (by omega) (.slice Ak M ck) (mkOf mkR i 0 (l.length + k)) (mkOf mkR i M 1) Am 1 cm (fun _ => True) (fun _ => False) rfl rfl HG3.out.R HCM.out (fun _ _ h => h) (fun _ h => h.elim) (fun _ _ => trivial) (Below.refl _ _) (by omega) (by rw [mkOf_len]; omega) ?_
          intro v1 w4 hR4 _ hg4 hat4 hk4
          have hN4 := HG3.out.step rfl flat45 (HMK.out i l hlt Hl.out) (by rw [HMM.out] at hR4; exact hR4) hg4 hat4 hk4
          have HN := Lib.hid hN4
          clear hR4 hg4 hat4 hk4 hN4
          go_wp2
          go_roundw
          case rel => exact ⟨k + 1, by go_num, by omega, HN.out⟩
          case measure => simp [intOf]; omega
        · obtain rfl : k = 12 := by omega
          obtain ⟨kk, hkk⟩ := HM.out i M 60 (by omega) (by omega) (by omega)
          have HKK := Lib.hid hkk
          clear hkk
          go_wp2_with fail
          refine (Pl.escutcheonbook_markRules.calls kk i M 60 _ _ HKK.out).mono ?_
          rintro x w3 ⟨mv, rfl, hr, hb⟩
          have hG3 := HGK.out.below rfl flat45 hb
          have hs3 := hG3.tch.size
          obtain ⟨Am, cm, rfl, hcm, hCm⟩ := (Rd.of_R hr).ex
          rw [mkOf_len] at hcm hCm ⊢
          have HG3 := Lib.hid hG3
          have HCM := Lib.hid hCm
          clear hr hb hG3 hCm
          go_wp2_with ((with_reducible refine gate_builtin (b := .append) (xs := #[.tmp 34, .tmp 38]) rfl ?_); at_builtin; refine halt_ ?_)
          change wpList _ _ _ _ _ _
          refine R_append_old k45 (w0 := w3) B rfl (.tmp 34) (.tmp 38) 33 45 _ 48 rfl (by kernel_rfl) info_r rfl (by decide) (by omega) (.slice Ak M ck) (mkOf mkR i 0 (l.length + 12)) (mkOf mkR i M 60) Am 60 cm (fun _ => True) (fun _ => False) rfl rfl HG3.out.R HCM.out (fun _ _ h => h) (fun _ h => h.elim) (fun _ _ => trivial) (Below.refl _ _) (by omega) (by rw [mkOf_len]; omega) ?_
          intro v1 w4 hR4 _ hg4 hat4 hk4
          have hN4 : GrowK mkR k45 45 B i wi u.1 l v1 72 w4 := HG3.out.step rfl flat45 (HMK.out i l hlt Hl.out) (by rw [HMM.out] at hR4; exact hR4) hg4 hat4 hk4
          obtain ⟨A4, c4, rfl, hc4, _⟩ := (Rd.of_R hN4.R).ex
          have hs4 := hN4.tch.size
          have hPi := HP.out
          have hKi := HK.out
          rw [← HWI.out] at hPi hKi
          obtain ⟨gs, ms, g1, g2, g3, g4, g5, g6, g7⟩ := hPi.ex
          have hov := R_tch (S := fun k' => u.1.ownBlock = some k') rfl g5 hN4.tch (fun k' a b => (Rd.of_R g5).apart (Rd.of_R hKi.R) (by decide) k' a (by rw [← b]))
          have hst := fun (W' : World) (ov' : Value) (hR' : kv.R 33 W' w.heap.size (fun _ => True) ov' (gs ++ [⟨.slice A4 (mkOf mkR i 0 (l.length + 72)).length c4, rfl⟩])) (hg' : w4.grownBy W' u3.ownBlock) => hPi.step rfl flat45 (by decide) HDIS.out HLV.out HU.out Hl.out hN4 (by omega) rfl g1 g2 g3 g4 g5 g6 g7 hR' hg'
          have HST := Lib.hid hst
          have HOV := Lib.hid hov
          have HG1 := Lib.hid g1
          clear hR4 hg4 hat4 hk4 hN4 g1 g2 g3 g4 g5 g6 g7 hst hov hPi hKi
          go_wp2_with ((with_reducible refine gate_builtin (b := .append) (xs := #[.tmp 33, .tmp 40]) rfl ?_); at_builtin; refine halt_ ?_)
          change wpList _ _ _ _ _ _
          refine Kd.R_append kv (w0 := w4) w.heap.size rfl (.tmp 33) (.tmp 40) 26 33 (.slice none 0 0) 24 rfl (by kernel_rfl) info_o rfl (by decide) (by omega) u3 gs ⟨.slice A4 (mkOf mkR i 0 (l.length + 72)).length c4, rfl⟩ [.slice A4 (mkOf mkR i 0 (l.length + 72)).length c4] (fun _ => True) (fun _ => False) rfl rfl rfl (fun _ h => h.elim) (fun _ _ => trivial) HOV.out (Below.refl _ _) (by omega) (by rw [HG1.out]; omega) ?_
          intro v5 w5 hR5 _ hg5 _
          have HN := Lib.hid (HST.out w5 v5 hR5 hg5)
          clear hR5 hg5
          go_wp2
          go_roundw
          case rel => exact ⟨i + 1, by go_num, by omega, HN.out⟩
          case measure => simp [intOf]; omega
    · obtain rfl : i = ls.length := by omega
      have HP := Lib.hid hP
      clear hP
      go_wp2
      go_ret
      exact ⟨_, rfl, HP.out⟩
end Go.Proofs.YthngjjeilcfhgaaGreatDoor.Bk

/- The region of markedRules that draws its order. -/
set_option linter.unusedVariables false
namespace Go.Proofs.YthngjjeilcfhgaaGreatDoor.Bk
open Go.RowKit Go.Proofs.YthngjjeilcfhgaaGreatDoorW.PrintWords Go.Proofs.YthngjjeilcfhgaaGreatDoorW.PrintLast Go.Proofs.YthngjjeilcfhgaaGreatDoor.Pa
def ImR (ad : Addr) (n c q M : Nat) (B1 : Option Addr) (d1 : Nat) (w : World) (p1 p2 p4 p5 p6 p7 p8 p9 : Value) (L : Nat → Bool) (a : Act) (W : World) : Prop :=
  ∃ x10 x11 x12 x13 x14 x15 x16 x17 x18 x19 x20 x21 x22 : Value, a = ⟨#[(.slice (some ad) n c), p1, p2, (.int .i64 (q : Int)), p4, p5, p6, p7, p8, p9, x10, x11, x12, x13, x14, x15, x16, x17, x18, x19, x20, x21, x22], []⟩ ∧ (L 0 = true → x10 = .slice (some ad) n c) ∧ (L 1 = true → x11 = .int .i64 (q : Int)) ∧ (L 2 = true → x12 = .pointer (some (ad.add q))) ∧ (L 3 = true → x13 = .slice B1 M d1) ∧ (L 4 = true → x14 = .int .i64 (q : Int)) ∧ (L 5 = true → x15 = .slice (some ad) n c) ∧ (L 6 = true → x16 = .int .i64 (q : Int)) ∧ (L 7 = true → x17 = .pointer (some (ad.add q))) ∧ (L 8 = true → x18 = .slice B1 M d1) ∧ (L 9 = true → x19 = .int .i64 (M : Int)) ∧ (L 10 = true → ∃ Am cm, x20 = .slice Am M cm ∧ M ≤ cm ∧ Kd.C k45 W Am M (mkOf mkR q 0 M)) ∧ (L 11 = true → x21 = .bool true) ∧ (L 12 = true → x22 = .bool false) ∧ (Below w.heap.size w W)
set_option maxHeartbeats 1600000 in
set_option maxRecDepth 100000 in
theorem ImR.step (ad : Addr) (n c q M : Nat) (B1 : Option Addr) (d1 : Nat) (w : World) (p1 p2 p4 p5 p6 p7 p8 p9 : Value) (hc : w.cell? (ad.add q) = some (.slice B1 M d1)) (hbl : (ad.add q).block < w.heap.size) (hi : q < n) (hnc : n ≤ c) (hMd : M ≤ d1) (hC : Kd.C k45 w B1 M (mkOf mkR q 0 M)) (kk k2 : Nat) (hk : Pl.escutcheonbook_markRules.f kk (q : Int) 0 (M : Int) = some (mkOf mkR q 0 M)) (hs : Pl.escutcheonbook_SameRules.f k2 (mkOf mkR q 0 M) (mkOf mkR q 0 M) = some true) {Q : Exit → Act → World → Prop} : ∀ i o L a W, (opsOf Tryz.f41 4)[i]? = some o → L i = false → o.after.all (fun e => !Region.binds .any e || L e.on) = true → ClosedL (opsOf Tryz.f41 4) L → ImR ad n c q M B1 d1 w p1 p2 p4 p5 p6 p7 p8 p9 L a W →
    if Region.wanted o (yielded (opsOf Tryz.f41 4) a.tmps) = true then Oper.wp Tryz.prog o a W (fun a' w' => ImR ad n c q M B1 d1 w p1 p2 p4 p5 p6 p7 p8 p9 (fun j => j == i || L j) a' w') Q else ImR ad n c q M B1 d1 w p1 p2 p4 p5 p6 p7 p8 p9 (fun j => j == i || L j) (a.put o.dst undef) W := by
  intro i o L a W ho hLi haft hcl hI
  obtain ⟨x10, x11, x12, x13, x14, x15, x16, x17, x18, x19, x20, x21, x22, rfl, h0, h1, h2, h3, h4, h5, h6, h7, h8, h9, h10, h11, h12, kb⟩ := hI
  rcases i with _|_|_|_|_|_|_|_|_|_|_|_|_|_
  · obtain rfl : ({ dst := some 10, op := Go.Op.move (Go.Operand.tmp 0), type := 26, pos := "book.go:224", after := #[], guard := none } : Oper) = o := Option.some.inj ho   -- 0
    refine value_ (v := .slice (some ad) n c) (w1 := W) (by rfl) rfl ?_ ?_
    · go_simp; try rfl
    exact ⟨.slice (some ad) n c, x11, x12, x13, x14, x15, x16, x17, x18, x19, x20, x21, x22, rfl, fun _ => rfl, h1, h2, h3, h4, h5, h6, h7, h8, h9, h10, h11, h12, kb⟩
  · obtain rfl : ({ dst := some 11, op := Go.Op.move (Go.Operand.tmp 3), type := 3, pos := "book.go:224", after := #[], guard := none } : Oper) = o := Option.some.inj ho   -- 1
    refine value_ (v := .int .i64 (q : Int)) (w1 := W) (by rfl) rfl ?_ ?_
    · go_simp; try rfl
    exact ⟨x10, .int .i64 (q : Int), x12, x13, x14, x15, x16, x17, x18, x19, x20, x21, x22, rfl, h0, fun _ => rfl, h2, h3, h4, h5, h6, h7, h8, h9, h10, h11, h12, kb⟩
  · obtain rfl : ({ dst := some 12, op := Go.Op.indexAddr 26 (Go.Operand.tmp 10) (Go.Operand.tmp 11), type := 0, pos := "book.go:224", after := #[{ on := 0, ground := Go.Ground.data }, { on := 1, ground := Go.Ground.data }], guard := none } : Oper) = o := Option.some.inj ho   -- 2
    obtain rfl := h0 (dep_ haft 0 rfl)
    obtain rfl := h1 (dep_ haft 1 rfl)
    refine value_ (v := .pointer (some (ad.add q))) (w1 := W) (by rfl) rfl ?_ ?_
    · go_simp; try rfl
    exact ⟨.slice (some ad) n c, .int .i64 (q : Int), .pointer (some (ad.add q)), x13, x14, x15, x16, x17, x18, x19, x20, x21, x22, rfl, fun _ => rfl, fun _ => rfl, fun _ => rfl, h3, h4, h5, h6, h7, h8, h9, h10, h11, h12, kb⟩
  · obtain rfl : ({ dst := some 13, op := Go.Op.load 33 (Go.Operand.tmp 12), type := 33, pos := "book.go:224", after := #[{ on := 2, ground := Go.Ground.data }], guard := none } : Oper) = o := Option.some.inj ho   -- 3
    obtain rfl := h2 (dep_ haft 0 rfl)
    have hc' := (kb.cell (p := ad.add q) hbl).trans hc
    refine value_ (v := .slice B1 M d1) (w1 := W) (by rfl) rfl ?_ ?_
    · go_simp; try rfl
    exact ⟨x10, x11, .pointer (some (ad.add q)), .slice B1 M d1, x14, x15, x16, x17, x18, x19, x20, x21, x22, rfl, h0, h1, fun _ => rfl, fun _ => rfl, h4, h5, h6, h7, h8, h9, h10, h11, h12, kb⟩
  · obtain rfl : ({ dst := some 14, op := Go.Op.move (Go.Operand.tmp 3), type := 3, pos := "book.go:224", after := #[], guard := none } : Oper) = o := Option.some.inj ho   -- 4
    refine value_ (v := .int .i64 (q : Int)) (w1 := W) (by rfl) rfl ?_ ?_
    · go_simp; try rfl
    exact ⟨x10, x11, x12, x13, .int .i64 (q : Int), x15, x16, x17, x18, x19, x20, x21, x22, rfl, h0, h1, h2, h3, fun _ => rfl, h5, h6, h7, h8, h9, h10, h11, h12, kb⟩
  · obtain rfl : ({ dst := some 15, op := Go.Op.move (Go.Operand.tmp 0), type := 26, pos := "book.go:224", after := #[], guard := none } : Oper) = o := Option.some.inj ho   -- 5
    refine value_ (v := .slice (some ad) n c) (w1 := W) (by rfl) rfl ?_ ?_
    · go_simp; try rfl
    exact ⟨x10, x11, x12, x13, x14, .slice (some ad) n c, x16, x17, x18, x19, x20, x21, x22, rfl, h0, h1, h2, h3, h4, fun _ => rfl, h6, h7, h8, h9, h10, h11, h12, kb⟩
  · obtain rfl : ({ dst := some 16, op := Go.Op.move (Go.Operand.tmp 3), type := 3, pos := "book.go:224", after := #[], guard := none } : Oper) = o := Option.some.inj ho   -- 6
    refine value_ (v := .int .i64 (q : Int)) (w1 := W) (by rfl) rfl ?_ ?_
    · go_simp; try rfl
    exact ⟨x10, x11, x12, x13, x14, x15, .int .i64 (q : Int), x17, x18, x19, x20, x21, x22, rfl, h0, h1, h2, h3, h4, h5, fun _ => rfl, h7, h8, h9, h10, h11, h12, kb⟩
  · obtain rfl : ({ dst := some 17, op := Go.Op.indexAddr 26 (Go.Operand.tmp 15) (Go.Operand.tmp 16), type := 0, pos := "book.go:224", after := #[{ on := 5, ground := Go.Ground.data }, { on := 6, ground := Go.Ground.data }], guard := none } : Oper) = o := Option.some.inj ho   -- 7
    obtain rfl := h5 (dep_ haft 0 rfl)
    obtain rfl := h6 (dep_ haft 1 rfl)
    refine value_ (v := .pointer (some (ad.add q))) (w1 := W) (by rfl) rfl ?_ ?_
    · go_simp; try rfl
    exact ⟨x10, x11, x12, x13, x14, .slice (some ad) n c, .int .i64 (q : Int), .pointer (some (ad.add q)), x18, x19, x20, x21, x22, rfl, h0, h1, h2, h3, h4, fun _ => rfl, fun _ => rfl, fun _ => rfl, h8, h9, h10, h11, h12, kb⟩
  · obtain rfl : ({ dst := some 18, op := Go.Op.load 33 (Go.Operand.tmp 17), type := 33, pos := "book.go:224", after := #[{ on := 7, ground := Go.Ground.data }], guard := none } : Oper) = o := Option.some.inj ho   -- 8
    obtain rfl := h7 (dep_ haft 0 rfl)
    have hc' := (kb.cell (p := ad.add q) hbl).trans hc
    refine value_ (v := .slice B1 M d1) (w1 := W) (by rfl) rfl ?_ ?_
    · go_simp; try rfl
    exact ⟨x10, x11, x12, x13, x14, x15, x16, .pointer (some (ad.add q)), .slice B1 M d1, x19, x20, x21, x22, rfl, h0, h1, h2, h3, h4, h5, h6, fun _ => rfl, fun _ => rfl, h9, h10, h11, h12, kb⟩
  · obtain rfl : ({ dst := some 19, op := Go.Op.call { callee := Go.Callee.builtin Go.Builtin.len, args := #[Go.Operand.tmp 18], argTypes := #[33] }, type := 3, pos := "book.go:224", after := #[{ on := 8, ground := Go.Ground.data }], guard := none } : Oper) = o := Option.some.inj ho   -- 9
    obtain rfl := h8 (dep_ haft 0 rfl)
    refine value_ (v := .int .i64 (M : Int)) (w1 := W) (by rfl) rfl ?_ ?_
    · go_simp; try rfl
    exact ⟨x10, x11, x12, x13, x14, x15, x16, x17, .slice B1 M d1, .int .i64 (M : Int), x20, x21, x22, rfl, h0, h1, h2, h3, h4, h5, h6, h7, fun _ => rfl, fun _ => rfl, h10, h11, h12, kb⟩
  · obtain rfl : ({ dst := some 20, op := Go.Op.call { callee := Go.Callee.value (Go.Operand.func 65), args := #[Go.Operand.tmp 14, Go.Operand.const (Go.Value.int Go.IntKind.i64 0), Go.Operand.tmp 19], argTypes := #[3, 3, 3] }, type := 33, pos := "book.go:224", after := #[{ on := 4, ground := Go.Ground.data }, { on := 9, ground := Go.Ground.data }], guard := none } : Oper) = o := Option.some.inj ho   -- 10
    obtain rfl := h4 (dep_ haft 0 rfl)
    obtain rfl := h9 (dep_ haft 1 rfl)
    refine goes_ Tryz.func65 (by kernel_rfl) rfl #[.int .i64 (q : Int), .int .i64 0, .int .i64 (M : Int)] (by rfl) rfl rfl (by (try simp only [List.map_toArray, List.map_cons, List.map_nil]); rfl) ?_
    refine Calls.mono (Pl.escutcheonbook_markRules.calls kk (q : Int) 0 (M : Int) _ W hk) ?_
    rintro e W1 ⟨mv, rfl, hr, hb1⟩
    refine ⟨_, rfl, ?_⟩
    obtain ⟨Am, cm, rfl, hcm, hCm⟩ := (Rd.of_R hr).ex
    rw [mkOf_len] at hcm hCm ⊢
    exact ⟨x10, x11, x12, x13, .int .i64 (q : Int), x15, x16, x17, x18, .int .i64 (M : Int), .slice Am M cm, x21, x22, rfl, h0, h1, h2, h3, fun _ => rfl, h5, h6, h7, h8, fun _ => rfl, fun _ => ⟨Am, cm, rfl, hcm, hCm⟩, h11, h12, kb.trans (hb1.mono kb.size)⟩
  · obtain rfl : ({ dst := some 21, op := Go.Op.call { callee := Go.Callee.value (Go.Operand.func 8), args := #[Go.Operand.tmp 13, Go.Operand.tmp 20], argTypes := #[33, 33] }, type := 4, pos := "book.go:224", after := #[{ on := 3, ground := Go.Ground.data }, { on := 10, ground := Go.Ground.data }, { on := 10, ground := Go.Ground.chain }], guard := none } : Oper) = o := Option.some.inj ho   -- 11
    obtain rfl := h3 (dep_ haft 0 rfl)
    obtain ⟨Am, cm, rfl, hcm, hCm⟩ := h10 (dep_ haft 1 rfl)
    have hcl : (mkOf mkR q 0 M).length = M := mkOf_len _ _ _ _
    have hC' := Kd.C_below hC kb
    have hlaw := Pl.escutcheonbook_SameRules.calls k2 B1 d1 (mkOf mkR q 0 M) Am cm (mkOf mkR q 0 M) true W (by rw [hcl]; exact hC') (by rw [hcl]; exact hMd) (by rw [hcl]; exact hCm) (by rw [hcl]; exact hcm) hs
    rw [hcl] at hlaw
    refine goes_ Tryz.func8 (by kernel_rfl) rfl #[.slice B1 M d1, .slice Am M cm] (by rfl) rfl rfl (by (try simp only [List.map_toArray, List.map_cons, List.map_nil]); rfl) ?_
    refine Calls.mono (hlaw) ?_
    rintro e W1 ⟨rfl, hd⟩
    refine ⟨_, rfl, ?_⟩
    exact ⟨x10, x11, x12, .slice B1 M d1, x14, x15, x16, x17, x18, x19, .slice Am M cm, .bool true, x22, rfl, h0, h1, h2, fun _ => rfl, h4, h5, h6, h7, h8, h9, fun _ => ⟨Am, cm, rfl, hcm, Kd.C_below hCm hd.below⟩, fun _ => rfl, h12, kb.trans (hd.below.mono kb.size)⟩
  · obtain rfl : ({ dst := some 22, op := Go.Op.unOp Go.UnOp.not 4 (Go.Operand.tmp 21), type := 4, pos := "book.go:224", after := #[{ on := 11, ground := Go.Ground.data }], guard := none } : Oper) = o := Option.some.inj ho   -- 12
    obtain rfl := h11 (dep_ haft 0 rfl)
    refine value_ (v := .bool false) (w1 := W) (by rfl) rfl ?_ ?_
    · go_simp; try rfl
    exact ⟨x10, x11, x12, x13, x14, x15, x16, x17, x18, x19, x20, .bool true, .bool false, rfl, h0, h1, h2, h3, h4, h5, h6, h7, h8, h9, h10, fun _ => rfl, fun _ => rfl, kb⟩
  · cases ho
end Go.Proofs.YthngjjeilcfhgaaGreatDoor.Bk

/- The region of the book's Rules that draws its order: a copy is kept. -/
set_option linter.unusedVariables false
namespace Go.Proofs.YthngjjeilcfhgaaGreatDoor.Bk
open Go.RowKit Go.Proofs.YthngjjeilcfhgaaGreatDoorW.PrintWords Go.Proofs.YthngjjeilcfhgaaGreatDoorW.PrintLast Go.Proofs.YthngjjeilcfhgaaGreatDoor.Pa
section
variable {ops : Array Oper} {L : Nat → Bool}
theorem no_f (hcl : ClosedL ops L) (j : Nat) {o : Oper} (ho : ops[j]? = some o) (k : Nat) {i : Nat} (hk : (o.after[k]?).map (fun e => (Region.binds .any e, e.on)) = some (true, i)) (hLi : L i = false) : L j = false := by
  cases h : L j with
  | false => rfl
  | true =>
    have := dep_ (hcl j o ho h) k hk
    rw [hLi] at this
    cases this
theorem no_ (hcl : ClosedL ops L) (j : Nat) {o : Oper} (ho : ops[j]? = some o) (k : Nat) {i : Nat} (hk : (o.after[k]?).map (fun e => (Region.binds .any e, e.on)) = some (true, i)) (hLi : L i = false) : ¬ L j = true := by
  rw [no_f hcl j ho k hk hLi]
  decide
end
theorem flat_ : Flat k45 := flat45
theorem e_ : k45.E = [] := rfl
def IxR (g : Nat) (A : Option Addr) (c : Nat) (l : List S45) (uv : Value) (us : List OneV) (B tb : Nat) (cur : Array Value) (w : World) (p2 p3 p4 p5 p6 p7 p8 p9 p10 p11 p12 p13 p14 p15 p16 p17 p18 p19 : Value) (L : Nat → Bool) (a : Act) (W : World) : Prop :=
  ∃ x20 x21 x22 x23 x24 x25 x26 x27 x28 x29 x30 : Value, a = ⟨#[(.pointer (some ⟨g, 0, none⟩)), (.slice A l.length c), p2, p3, p4, p5, p6, p7, p8, p9, p10, p11, p12, p13, p14, p15, p16, p17, p18, p19, x20, x21, x22, x23, x24, x25, x26, x27, x28, x29, x30], []⟩ ∧ (L 0 = true → x20 = .pointer (some ⟨g, 0, none⟩)) ∧ (L 1 = true → x21 = .pointer (some ⟨g, 0, none⟩)) ∧ (L 2 = true → x22 = .pointer (some ⟨g, 0, none⟩)) ∧ (L 3 = true → x23 = .pointer (some ⟨g, 5, none⟩)) ∧ (L 4 = true → x24 = uv) ∧ (L 5 = true → x25 = .slice A l.length c) ∧ (L 6 = true → k45.R 45 W w.heap.size (fun _ => True) x26 l) ∧ (L 7 = true → ∃ b, x27 = .slice (some ⟨b, 0, none⟩) 1 1 ∧ w.heap.size ≤ b ∧ W.heap[b]? = some (.cells #[x26] 33 (0, 0))) ∧ (L 8 = true → ∃ hy : x26.oneCell' = true, kv.R 33 W B (fun _ => True) x28 (us ++ [⟨x26, hy⟩]) ∧ (x28.ownBlock = uv.ownBlock ∨ ∃ b, x28.ownBlock = some b ∧ w.heap.size ≤ b)) ∧ (L 9 = true → x29 = .pointer (some ⟨g, 0, none⟩)) ∧ (L 10 = true → x30 = .pointer (some ⟨g, 5, none⟩)) ∧ (L 11 = true → W.heap[g]? = some (.cells (cur.setIfInBounds 5 x28) tb (0, 0))) ∧ (L 11 = false → W.heap[g]? = some (.cells cur tb (0, 0))) ∧ (L 8 = false → kv.R 33 W B (fun _ => True) uv us) ∧ (Tch (fun k => k = g ∨ uv.ownBlock = some k) w W)
set_option maxHeartbeats 1600000 in
set_option maxRecDepth 100000 in
theorem IxR.step (g : Nat) (A : Option Addr) (c : Nat) (l : List S45) (uv : Value) (us : List OneV) (B tb : Nat) (cur : Array Value) (w : World) (p2 p3 p4 p5 p6 p7 p8 p9 p10 p11 p12 p13 p14 p15 p16 p17 p18 p19 : Value) (hgl : g < w.heap.size) (hcur : cur[5]? = some uv) (hug : uv.ownBlock ≠ some g) (hul : ∀ k, uv.ownBlock = some k → k < w.heap.size) (hB : B ≤ w.heap.size) (hC : Kd.C k45 w A l.length l) (hlc : l.length ≤ c) (hA : ∀ a, A = some a → a.block < w.heap.size ∧ ¬ (a.block = g ∨ uv.ownBlock = some a.block)) (hcopy : Pl.escutcheonbook_copyRules.f l = some l) (hul2 : us.length ≤ 250) (htb : 33 ≠ tb) {Q : Exit → Act → World → Prop} : ∀ i o L a W, (opsOf Tryz.f6 2)[i]? = some o → L i = false → o.after.all (fun e => !Region.binds .any e || L e.on) = true → ClosedL (opsOf Tryz.f6 2) L → IxR g A c l uv us B tb cur w p2 p3 p4 p5 p6 p7 p8 p9 p10 p11 p12 p13 p14 p15 p16 p17 p18 p19 L a W →
    if Region.wanted o (yielded (opsOf Tryz.f6 2) a.tmps) = true then Oper.wp Tryz.prog o a W (fun a' w' => IxR g A c l uv us B tb cur w p2 p3 p4 p5 p6 p7 p8 p9 p10 p11 p12 p13 p14 p15 p16 p17 p18 p19 (fun j => j == i || L j) a' w') Q else IxR g A c l uv us B tb cur w p2 p3 p4 p5 p6 p7 p8 p9 p10 p11 p12 p13 p14 p15 p16 p17 p18 p19 (fun j => j == i || L j) (a.put o.dst undef) W := by
  intro i o L a W ho hLi haft hcl hI
  obtain ⟨x20, x21, x22, x23, x24, x25, x26, x27, x28, x29, x30, rfl, h0, h1, h2, h3, h4, h5, h6, h7, h8, h9, h10, h11, kg, ko, kt⟩ := hI
  rcases i with _|_|_|_|_|_|_|_|_|_|_|_|_
  · obtain rfl : ({ dst := some 20, op := Go.Op.move (Go.Operand.tmp 0), type := 23, pos := "book.go:176", after := #[], guard := none } : Oper) = o := Option.some.inj ho   -- 0
    refine value_ (v := .pointer (some ⟨g, 0, none⟩)) (w1 := W) (by rfl) rfl ?_ ?_
    · go_simp; try rfl
    exact ⟨.pointer (some ⟨g, 0, none⟩), x21, x22, x23, x24, x25, x26, x27, x28, x29, x30, rfl, fun _ => rfl, h1, h2, h3, h4, h5, h6, h7, h8, h9, h10, h11, kg, ko, kt⟩
  · obtain rfl : ({ dst := some 21, op := Go.Op.move (Go.Operand.tmp 0), type := 23, pos := "book.go:176", after := #[], guard := none } : Oper) = o := Option.some.inj ho   -- 1
    refine value_ (v := .pointer (some ⟨g, 0, none⟩)) (w1 := W) (by rfl) rfl ?_ ?_
    · go_simp; try rfl
    exact ⟨x20, .pointer (some ⟨g, 0, none⟩), x22, x23, x24, x25, x26, x27, x28, x29, x30, rfl, h0, fun _ => rfl, h2, h3, h4, h5, h6, h7, h8, h9, h10, h11, kg, ko, kt⟩
  · obtain rfl : ({ dst := some 22, op := Go.Op.nilCheck (Go.Operand.tmp 21), type := 0, pos := "book.go:176", after := #[{ on := 1, ground := Go.Ground.data }], guard := none } : Oper) = o := Option.some.inj ho   -- 2
    obtain rfl := h1 (dep_ haft 0 rfl)
    refine value_ (v := .pointer (some ⟨g, 0, none⟩)) (w1 := W) (by rfl) rfl ?_ ?_
    · go_simp; try rfl
    exact ⟨x20, .pointer (some ⟨g, 0, none⟩), .pointer (some ⟨g, 0, none⟩), x23, x24, x25, x26, x27, x28, x29, x30, rfl, h0, fun _ => rfl, fun _ => rfl, h3, h4, h5, h6, h7, h8, h9, h10, h11, kg, ko, kt⟩
  · obtain rfl : ({ dst := some 23, op := Go.Op.fieldAddr 32 (Go.Operand.tmp 22) 5, type := 0, pos := "book.go:176", after := #[{ on := 2, ground := Go.Ground.data }], guard := none } : Oper) = o := Option.some.inj ho   -- 3
    obtain rfl := h2 (dep_ haft 0 rfl)
    refine value_ (v := .pointer (some ⟨g, 5, none⟩)) (w1 := W) (by rfl) rfl ?_ ?_
    · go_simp; try rfl
    exact ⟨x20, x21, .pointer (some ⟨g, 0, none⟩), .pointer (some ⟨g, 5, none⟩), x24, x25, x26, x27, x28, x29, x30, rfl, h0, h1, fun _ => rfl, fun _ => rfl, h4, h5, h6, h7, h8, h9, h10, h11, kg, ko, kt⟩
  · obtain rfl : ({ dst := some 24, op := Go.Op.load 26 (Go.Operand.tmp 23), type := 26, pos := "book.go:176", after := #[{ on := 3, ground := Go.Ground.data }], guard := none } : Oper) = o := Option.some.inj ho   -- 4
    obtain rfl := h3 (dep_ haft 0 rfl)
    have hb := kg (no_f hcl 11 (by rfl) 7 rfl hLi)
    have hc' : W.cell? ⟨g, 5, none⟩ = some uv := (blk_cell hb 5).trans hcur
    refine value_ (v := uv) (w1 := W) (by rfl) rfl ?_ ?_
    · go_simp; try rfl
    exact ⟨x20, x21, x22, .pointer (some ⟨g, 5, none⟩), uv, x25, x26, x27, x28, x29, x30, rfl, h0, h1, h2, fun _ => rfl, fun _ => rfl, h5, h6, h7, h8, h9, h10, h11, kg, ko, kt⟩
  · obtain rfl : ({ dst := some 25, op := Go.Op.move (Go.Operand.tmp 1), type := 33, pos := "book.go:176", after := #[], guard := none } : Oper) = o := Option.some.inj ho   -- 5
    refine value_ (v := .slice A l.length c) (w1 := W) (by rfl) rfl ?_ ?_
    · go_simp; try rfl
    exact ⟨x20, x21, x22, x23, x24, .slice A l.length c, x26, x27, x28, x29, x30, rfl, h0, h1, h2, h3, h4, fun _ => rfl, h6, h7, h8, h9, h10, h11, kg, ko, kt⟩
  · obtain rfl : ({ dst := some 26, op := Go.Op.call { callee := Go.Callee.value (Go.Operand.func 14), args := #[Go.Operand.tmp 25], argTypes := #[33] }, type := 33, pos := "book.go:176", after := #[{ on := 5, ground := Go.Ground.data }], guard := none } : Oper) = o := Option.some.inj ho   -- 6
    obtain rfl := h5 (dep_ haft 0 rfl)
    have hC' := C_tch flat_ hC kt hA
    refine goes_ Tryz.func14 (by kernel_rfl) rfl #[.slice A l.length c] (by rfl) rfl rfl (by (try simp only [List.map_toArray, List.map_cons, List.map_nil]); rfl) ?_
    refine Calls.mono (Pl.escutcheonbook_copyRules.calls A c l l W hC' hlc hcopy) ?_
    rintro e W1 ⟨mv, rfl, hr, hb1⟩
    refine ⟨_, rfl, ?_⟩
    exact ⟨x20, x21, x22, x23, x24, .slice A l.length c, mv, x27, x28, x29, x30, rfl, h0, h1, h2, h3, h4, fun _ => rfl, fun _ => Kd.R_lower hr kt.size, fun hL => absurd hL (no_ hcl 7 (by rfl) 0 rfl hLi), fun hL => absurd hL (no_ hcl 8 (by rfl) 2 rfl hLi), h9, h10, fun hL => absurd hL (no_ hcl 11 (by rfl) 9 rfl hLi), fun hL => blk_below (kg hL) hb1, fun hL => Kd.R_below (ko hL) hb1, kt.trans (Tch.of_below (fun _ => False) hb1) (fun _ _ x => x.elim)⟩
  · obtain rfl : ({ dst := some 27, op := Go.Op.buildSlice 26 1 #[(0, Go.Operand.tmp 26)], type := 26, pos := "book.go:176", after := #[{ on := 6, ground := Go.Ground.data }], guard := none } : Oper) = o := Option.some.inj ho   -- 7
    have r6 := h6 (dep_ haft 0 rfl)
    obtain ⟨A6, c6, rfl, hc6, hC6⟩ := Kd.R_reads r6
    have al := (Below.refl W.heap.size W).alloc (Nat.le_refl _) (.cells #[.slice A6 l.length c6] 33)
    refine value_ (v := .slice (some ⟨W.heap.size, 0, none⟩) 1 1) (w1 := (W.alloc (.cells #[.slice A6 l.length c6] 33))) (by rfl) rfl ?_ ?_
    · go_simp; try rfl
    exact ⟨x20, x21, x22, x23, x24, x25, .slice A6 l.length c6, .slice (some ⟨W.heap.size, 0, none⟩) 1 1, x28, x29, x30, rfl, h0, h1, h2, h3, h4, h5, fun _ => Kd.R_below r6 al, fun _ => ⟨_, rfl, kt.size, blk_new W _⟩, fun hL => absurd hL (no_ hcl 8 (by rfl) 1 rfl hLi), h9, h10, fun hL => absurd hL (no_ hcl 11 (by rfl) 10 rfl hLi), fun hL => blk_below (kg hL) al, fun hL => Kd.R_below (ko hL) al, kt.trans (Tch.of_below (fun _ => False) al) (fun _ _ x => x.elim)⟩
  · obtain rfl : ({ dst := some 28, op := Go.Op.call { callee := Go.Callee.builtin Go.Builtin.append, args := #[Go.Operand.tmp 24, Go.Operand.tmp 27], argTypes := #[26, 26] }, type := 26, pos := "book.go:176", after := #[{ on := 4, ground := Go.Ground.data }, { on := 7, ground := Go.Ground.data }, { on := 6, ground := Go.Ground.chain }], guard := none } : Oper) = o := Option.some.inj ho   -- 8
    obtain e4 := h4 (dep_ haft 0 rfl)
    obtain ⟨b, rfl, hbw, hbb⟩ := h7 (dep_ haft 1 rfl)
    obtain rfl := e4.symm
    have r6 := h6 (dep_ haft 2 rfl)
    obtain ⟨A6, c6, rfl, hc6, hC6⟩ := Kd.R_reads r6
    have ro := ko hLi
    obtain ⟨v1, w1, hr1, h1R, _, h1g, hat⟩ := run_R_append (P := Tryz.prog) kv (w0 := W) B 26 26 33 (.slice none 0 0) 24 (by kernel_rfl) info_o rfl (by decide) (by omega) uv us [⟨.slice A6 l.length c6, rfl⟩] (some ⟨b, 0, none⟩) 1 1 (fun _ => True) (fun _ => False) ro (one_row (y := ⟨.slice A6 l.length c6, rfl⟩) hbb) (fun _ _ h => h) (fun _ h => h.elim) (fun _ _ => trivial) (Below.refl _ _) (Nat.le_trans hB kt.size) (by omega)
    have tg := Tch.of_grown h1g
    refine value_ (v := v1) (w1 := w1) (by rfl) rfl ?_ ?_
    · exact exec_append rfl rfl rfl hr1
    exact ⟨x20, x21, x22, x23, uv, x25, .slice A6 l.length c6, .slice (some ⟨b, 0, none⟩) 1 1, v1, x29, x30, rfl, h0, h1, h2, h3, fun _ => rfl, h5, fun _ => R_tch e_ r6 tg (fun k a b => by have := Kd.R_base r6 k a; have := hul k b; omega), fun _ => ⟨b, rfl, hbw, blk_grown hbb h1g (fun x => by have := hul b x.symm; omega)⟩, fun _ => ⟨rfl, h1R, hat.imp id (fun ⟨b, hb, hle⟩ => ⟨b, hb, Nat.le_trans kt.size hle⟩)⟩, h9, h10, fun hL => absurd hL (no_ hcl 11 (by rfl) 1 rfl hLi), fun hL => blk_grown (kg hL) h1g (fun x => hug x.symm), fun h => Bool.noConfusion h, kt.trans tg (fun k _ x => .inr x)⟩
  · obtain rfl : ({ dst := some 29, op := Go.Op.nilCheck (Go.Operand.tmp 20), type := 0, pos := "book.go:176", after := #[{ on := 0, ground := Go.Ground.data }, { on := 0, ground := Go.Ground.phase }, { on := 1, ground := Go.Ground.phase }, { on := 2, ground := Go.Ground.phase }, { on := 3, ground := Go.Ground.phase }, { on := 4, ground := Go.Ground.phase }, { on := 5, ground := Go.Ground.phase }, { on := 6, ground := Go.Ground.phase }, { on := 7, ground := Go.Ground.phase }, { on := 8, ground := Go.Ground.phase }], guard := none } : Oper) = o := Option.some.inj ho   -- 9
    obtain rfl := h0 (dep_ haft 0 rfl)
    refine value_ (v := .pointer (some ⟨g, 0, none⟩)) (w1 := W) (by rfl) rfl ?_ ?_
    · go_simp; try rfl
    exact ⟨.pointer (some ⟨g, 0, none⟩), x21, x22, x23, x24, x25, x26, x27, x28, .pointer (some ⟨g, 0, none⟩), x30, rfl, fun _ => rfl, h1, h2, h3, h4, h5, h6, h7, h8, fun _ => rfl, h10, h11, kg, ko, kt⟩
  · obtain rfl : ({ dst := some 30, op := Go.Op.fieldAddr 32 (Go.Operand.tmp 29) 5, type := 0, pos := "book.go:176", after := #[{ on := 9, ground := Go.Ground.data }, { on := 0, ground := Go.Ground.phase }, { on := 1, ground := Go.Ground.phase }, { on := 2, ground := Go.Ground.phase }, { on := 3, ground := Go.Ground.phase }, { on := 4, ground := Go.Ground.phase }, { on := 5, ground := Go.Ground.phase }, { on := 6, ground := Go.Ground.phase }, { on := 7, ground := Go.Ground.phase }, { on := 8, ground := Go.Ground.phase }], guard := none } : Oper) = o := Option.some.inj ho   -- 10
    obtain rfl := h9 (dep_ haft 0 rfl)
    refine value_ (v := .pointer (some ⟨g, 5, none⟩)) (w1 := W) (by rfl) rfl ?_ ?_
    · go_simp; try rfl
    exact ⟨x20, x21, x22, x23, x24, x25, x26, x27, x28, .pointer (some ⟨g, 0, none⟩), .pointer (some ⟨g, 5, none⟩), rfl, h0, h1, h2, h3, h4, h5, h6, h7, h8, fun _ => rfl, fun _ => rfl, h11, kg, ko, kt⟩
  · obtain rfl : ({ dst := none, op := Go.Op.store 26 (Go.Operand.tmp 30) (Go.Operand.tmp 28), type := 0, pos := "book.go:176", after := #[{ on := 10, ground := Go.Ground.data }, { on := 8, ground := Go.Ground.data }, { on := 8, ground := Go.Ground.chain }, { on := 0, ground := Go.Ground.phase }, { on := 1, ground := Go.Ground.phase }, { on := 2, ground := Go.Ground.phase }, { on := 3, ground := Go.Ground.phase }, { on := 4, ground := Go.Ground.phase }, { on := 5, ground := Go.Ground.phase }, { on := 6, ground := Go.Ground.phase }, { on := 7, ground := Go.Ground.phase }, { on := 8, ground := Go.Ground.phase }], guard := none } : Oper) = o := Option.some.inj ho   -- 11
    obtain rfl := h10 (dep_ haft 0 rfl)
    obtain ⟨hy, r8, hat8⟩ := h8 (dep_ haft 1 rfl)
    have r6 := h6 (dep_ haft 9 rfl)
    obtain ⟨A6, c6, hx6, hc6, hC6⟩ := Kd.R_reads r6
    have hb := kg hLi
    have hc' : W.cell? ⟨g, 5, none⟩ = some uv := (blk_cell hb 5).trans hcur
    have hf' : W.frozen? ⟨g, 5, none⟩ = false := blk_frozen hb 5
    obtain ⟨A8, c8, rfl, _⟩ := Kd.R_reads r8
    refine skip_ (w1 := (W.setCell ⟨g, 5, none⟩ (.slice A8 (us ++ [(⟨x26, hy⟩ : OneV)]).length c8))) (by rfl) rfl ?_ ?_
    · go_simp
    exact ⟨x20, x21, x22, x23, x24, x25, x26, x27, .slice A8 (us ++ [(⟨x26, hy⟩ : OneV)]).length c8, x29, .pointer (some ⟨g, 5, none⟩), rfl, h0, h1, h2, h3, h4, h5, fun _ => R_tch e_ r6 (Tch.set W _ _) (fun k a b => by have := Kd.R_base r6 k a; subst b; exact absurd hgl (by omega)), fun hL => (h7 hL).imp fun b hb7 => ⟨hb7.1, hb7.2.1, (Below.heap_setCell _ _ _ _ (by have := hb7.2.1; show b ≠ g; omega)).trans hb7.2.2⟩, fun _ => ⟨hy, R_tch rfl r8 (Tch.set W _ _) (R_off r8 hb htb), hat8⟩, h9, fun _ => rfl, fun _ => blk_set hb 5 _, fun h => Bool.noConfusion h, fun hL => absurd (dep_ haft 1 rfl : L 8 = true) (fun hh => Bool.noConfusion (hh.symm.trans (show L 8 = false from hL))), kt.trans (Tch.set W _ _) (fun k _ x => .inl x)⟩
  · cases ho
end Go.Proofs.YthngjjeilcfhgaaGreatDoor.Bk

/- Are the lists of rules the marks? -/
set_option linter.unusedVariables false
namespace Go.Proofs.YthngjjeilcfhgaaGreatDoor.Bk
open Go.RowKit Go.Proofs.YthngjjeilcfhgaaGreatDoorW.PrintWords Go.Proofs.YthngjjeilcfhgaaGreatDoorW.PrintLast Go.Proofs.YthngjjeilcfhgaaGreatDoor.Pa

set_option maxHeartbeats 3200000 in
set_option maxRecDepth 100000 in
theorem markedRules_any (N : Nat) (v : Value) (vs : List OneV) (ls : List (List S45)) (w : World)
    (h1 : Has k45 45 33 w v vs ls) (hn : ls.length ≤ 250) (hN : Small N ls) (hNN : N ≤ 20000) (hm : Marked mkR ls ls.length)
    (hmk : ∀ i a n : Nat, i ≤ 250 → a ≤ 20000 → n ≤ 20000 → ∃ k, Pl.escutcheonbook_markRules.f k (i : Int) (a : Int) (n : Int) = some (mkOf mkR i a n))
    (hsame : ∀ l ∈ ls, ∃ k, Pl.escutcheonbook_SameRules.f k l l = some true) :
    Calls Tryz.prog 41 #[v] w fun e w' => e = .returned (.bool true) ∧ Below w.heap.size w w' := by
  obtain ⟨A1, c1, rfl, hc1⟩ := h1.form
  have HM := Lib.hid hmk
  have HMK := Lib.hid hm
  have HS := Lib.hid hN
  have HSA := Lib.hid hsame
  have H1 := Lib.hid h1
  clear hmk hm hN hsame h1
  go_enter Tryz.func41, Tryz.ntmps41
  go_wp2
  go_loopw [3] (fun i W => ∃ k : Nat, i = .int .i64 k ∧ k ≤ ls.length ∧ Below w.heap.size w W) (fun i _ => ls.length - (intOf i).toNat)
  case atStart => exact ⟨0, rfl, Nat.zero_le _, Below.refl _ _⟩
  case round =>
    obtain ⟨i, rfl, hi, hB⟩ := hrel
    by_cases hlt : i < ls.length
    · obtain ⟨l, hl⟩ := lt_some hlt
      have hll : l.length ≤ N := HS.out l (List.mem_of_getElem? hl)
      have hml := HMK.out i l hlt hl
      have hH := H1.out.below flat45 hB
      obtain ⟨ad, B1, d1, rfl, q1, e1, C1⟩ := hH.at i l hl
      obtain ⟨kk, hkk⟩ := HM.out i 0 l.length (by omega) (by omega) (by omega)
      obtain ⟨k2, hk2⟩ := HSA.out l (List.mem_of_getElem? hl)
      rw [hml] at C1 hk2
      rw [mkOf_len] at C1
      have HL := Lib.hid (And.intro q1 (And.intro C1 (And.intro hkk hk2)))
      have HB := Lib.hid hB
      have hbl : (ad.add i).block < wr.heap.size := World.block_lt_of_cell? wr _ q1
      clear hml hH q1 C1 hkk hk2 hl hB
      obtain ⟨M, hM⟩ : ∃ M, M = l.length := ⟨_, rfl⟩
      rw [← hM] at HL hll e1
      clear hM
      go_wp2_with fail
      refine wp_region_inv2 (by kernel_rfl) (by kernel_rfl) (ImR ad ls.length c1 i M B1 d1 wr undef u2 (.int .i64 (i : Int)) (.slice (some ad) ls.length c1) (.int .i64 (ls.length : Int)) (.bool true) u8 u9) ?_ (ImR.step ad ls.length c1 i M B1 d1 wr undef u2 (.int .i64 (i : Int)) (.slice (some ad) ls.length c1) (.int .i64 (ls.length : Int)) (.bool true) u8 u9 HL.out.1 hbl hlt hc1 e1 HL.out.2.1 kk k2 HL.out.2.2.1 HL.out.2.2.2) ?_
      · have no : ∀ {p : Prop}, false = true → p := fun h => Bool.noConfusion h
        exact ⟨_, _, _, _, _, _, _, _, _, _, _, _, _, rfl, no, no, no, no, no, no, no, no, no, no, no, no, no, (Below.refl _ _).drew⟩
      rintro L a' W hall ⟨x10, x11, x12, x13, x14, x15, x16, x17, x18, x19, x20, x21, x22, rfl, h0, h1, h2, h3, h4, h5, h6, h7, h8, h9, h10, h11, h12, kb⟩
      obtain rfl := h12 (hall 12 (by decide))
      have HK := Lib.hid (HB.out.trans (kb.mono HB.out.size))
      clear h0 h1 h2 h3 h4 h5 h6 h7 h8 h9 h10 h11 h12 kb hall
      show Exit.then _ _ .normal _ _
      go_wp2
      go_roundw
      case rel => exact ⟨i + 1, by go_num, by omega, HK.out⟩
      case measure => simp [intOf]; omega
    · have HB := Lib.hid hB
      clear hB
      go_wp2
      go_ret
      exact ⟨rfl, HB.out⟩
end Go.Proofs.YthngjjeilcfhgaaGreatDoor.Bk

/- One more list of rules in the book. -/
set_option linter.unusedVariables false
namespace Go.Proofs.YthngjjeilcfhgaaGreatDoor.Bk
open Go.RowKit Go.Proofs.YthngjjeilcfhgaaGreatDoorW.PrintWords Go.Proofs.YthngjjeilcfhgaaGreatDoorW.PrintLast Go.Proofs.YthngjjeilcfhgaaGreatDoor.Pa
abbrev tB : Nat := 32

theorem rules_hyps {B g : Nat} {cur : Array Value} {u : Value} {us : List OneV} {A : Option Addr} {c : Nat} {l : List S45} {w : World}
    (hg : w.heap[g]? = some (.cells cur 32 (0, 0))) (hp : kv.R 33 w B (fun _ => True) u us) (hx : Kd.R k45 45 w B (fun _ => True) (.slice A l.length c) l) :
    g < w.heap.size ∧ u.ownBlock ≠ some g ∧ (∀ k, u.ownBlock = some k → k < w.heap.size) ∧ Kd.C k45 w A l.length l ∧ l.length ≤ c ∧ (∀ a, A = some a → a.block < w.heap.size ∧ ¬ (a.block = g ∨ u.ownBlock = some a.block)) := by
  have ru := Rd.of_R hp
  have rx := Rd.of_R hx
  obtain ⟨h1, h2, h3⟩ := Kd.R_reads' hx
  refine ⟨blk_lt hg, fun hk => R_off hp hg (by decide) g hk rfl, ru.lt, h3, h2, ?_⟩
  rintro a rfl
  refine ⟨rx.lt _ rfl, ?_⟩
  rintro (h | h)
  · exact R_off hx hg (by decide) a.block rfl h
  · exact rx.apart ru (by decide) a.block rfl h

set_option maxHeartbeats 3200000 in
set_option maxRecDepth 100000 in
theorem Rules_any (B g : Nat) (cur : Array Value) (v u : Value) (vs us : List OneV) (ls : List (List S45)) (A : Option Addr) (c : Nat) (l : List S45) (w : World)
    (hg : w.heap[g]? = some (.cells cur 32 (0, 0))) (h4 : cur[4]? = some v) (h5 : cur[5]? = some u) (hp : Pair k45 45 33 w B v u vs us ls) (hx : Kd.R k45 45 w B (fun _ => True) (.slice A l.length c) l)
    (hd : ∀ k, (Value.slice A l.length c).ownBlock = some k → ¬ In vs k) (hn : ls.length < 250) (hcopy : Pl.escutcheonbook_copyRules.f l = some l) (hB : B ≤ w.heap.size) :
    Calls Tryz.prog 6 #[.pointer (some ⟨g, 0, none⟩), .slice A l.length c] w fun e w' => e = .returned (.tuple #[]) ∧ Added k45 45 33 B g 32 cur 4 vs us ls ⟨.slice A l.length c, rfl⟩ l v u w w' := by
  obtain ⟨A1, c1, rfl, hc1⟩ := hp.a.has.form
  have c4 : w.cell? ⟨g, 4, none⟩ = some (.slice A1 ls.length c1) := (blk_cell hg 4).trans h4
  have HP := Lib.hid hp
  have HX := Lib.hid hx
  have HD := Lib.hid hd
  have HG := Lib.hid hg
  have H4 := Lib.hid h4
  have H5 := Lib.hid h5
  have HC := Lib.hid hcopy
  clear hp hx hd hg h4 h5 hcopy
  go_enter Tryz.func6, Tryz.ntmps6
  go_wp2_with ((with_reducible refine gate_builtin (b := .append) (xs := #[.tmp 14, .tmp 16]) rfl ?_); at_builtin; refine halt_ ?_)
  change wpList _ _ _ _ _ _
  have hlen : vs.length < 250 := by have := HP.out.a.len; omega
  refine Kd.R_append kv (w0 := w) B rfl (.tmp 14) (.tmp 16) 26 33 (.slice none 0 0) 24 rfl (by kernel_rfl) info_o rfl (by decide) (by omega) (.slice A1 ls.length c1) vs ⟨.slice A l.length c, rfl⟩ [.slice A l.length c] (fun _ => True) (fun _ => False) rfl rfl rfl (fun _ h => h.elim) (fun _ _ => trivial) HP.out.a.outer (Below.refl _ _) hB (by omega) ?_
  intro v1 w1 hR1 _ hg1 hat1
  obtain ⟨A2, c2, rfl, hc2, _⟩ := Kd.R_reads hR1
  have t1 := Tch.of_grown hg1
  have hb1 : w1.heap[g]? = some (.cells cur 32 (0, 0)) := blk_grown HG.out hg1 (fun x => R_off HP.out.a.outer HG.out (by decide) g x.symm rfl)
  have q5 : w1.cell? ⟨g, 4, none⟩ = some (.slice A1 ls.length c1) := (blk_cell hb1 4).trans H4.out
  have qf : w1.frozen? ⟨g, 4, none⟩ = false := blk_frozen hb1 4
  have HR1 := Lib.hid hR1
  have HB1 := Lib.hid hb1
  have HT1 := Lib.hid t1
  clear hR1 hg1 t1 hb1 c4
  go_wp2
  have hlv : (vs ++ [(⟨.slice A l.length c, rfl⟩ : OneV)]).length = vs.length + 1 := by rw [List.length_append]; rfl
  obtain ⟨V2, hV2⟩ : ∃ V2, V2 = Value.slice A2 (vs.length + 1) c2 := ⟨_, rfl⟩
  have hR2 := HR1.out
  rw [hlv, ← hV2] at hR2 hat1
  obtain ⟨w2, hw2⟩ : ∃ w2, w2 = w1.setCell ⟨g, 4, none⟩ V2 := ⟨_, rfl⟩
  have ts : Tch (fun k => k = g) w1 w2 := by rw [hw2]; exact Tch.set w1 ⟨g, 4, none⟩ V2
  have hg2 : w2.heap[g]? = some (.cells (cur.setIfInBounds 4 V2) 32 (0, 0)) := by rw [hw2]; exact blk_set HB1.out 4 V2
  have hu1 := R_tch rfl HP.out.b.outer HT1.out (fun k a b => HP.out.ap k b a)
  have hu2 := R_tch rfl hu1 ts (R_off hu1 HB1.out (by decide))
  have hx1 := R_tch rfl HX.out HT1.out (fun k a b => (Rd.of_R HX.out).apart (Rd.of_R HP.out.a.outer) (by decide) k a b)
  have hx2 := R_tch rfl hx1 ts (R_off hx1 HB1.out (by decide))
  have hB2 : B ≤ w2.heap.size := Nat.le_trans hB (Nat.le_trans HT1.out.size ts.size)
  obtain ⟨y1, y2, y3, y4, y5, y6⟩ := rules_hyps hg2 hu2 hx2
  have hc5 : (cur.setIfInBounds 4 V2)[5]? = some u := by rw [Array.getElem?_setIfInBounds_ne (by decide)]; exact H5.out
  have hul : us.length ≤ 250 := by have := HP.out.b.len; omega
  rw [← hV2, ← hw2]
  refine wp_region_inv2 (by kernel_rfl) (by kernel_rfl) (IxR g A c l u us B 32 (cur.setIfInBounds 4 V2) w2 undef undef (.pointer (some ⟨g, 0, none⟩)) (.pointer (some ⟨g, 0, none⟩)) (.pointer (some ⟨g, 4, none⟩)) (.slice A1 ls.length c1) (.int .i64 (ls.length : Int)) (.bool true) (.pointer (some ⟨g, 0, none⟩)) (.pointer (some ⟨g, 0, none⟩)) (.pointer (some ⟨g, 0, none⟩)) (.pointer (some ⟨g, 4, none⟩)) (.slice A1 ls.length c1) (.slice A l.length c) (.slice (some ⟨w.heap.size, 0, none⟩) 1 1) V2 (.pointer (some ⟨g, 0, none⟩)) (.pointer (some ⟨g, 4, none⟩))) ?_
    (IxR.step g A c l u us B 32 (cur.setIfInBounds 4 V2) w2 _ _ _ _ _ _ _ _ _ _ _ _ _ _ _ _ _ _ y1 hc5 y2 y3 hB2 y4 y5 y6 HC.out hul (by decide)) ?_
  · have no : ∀ {p : Prop}, false = true → p := fun h => Bool.noConfusion h
    exact ⟨_, _, _, _, _, _, _, _, _, _, _, rfl, no, no, no, no, no, no, no, no, no, no, no, no, fun _ => hg2, fun _ => Kd.R_drew hu2, Tch.of_below _ (Below.refl _ _).drew⟩
  rintro L a' W hall ⟨x20, x21, x22, x23, x24, x25, x26, x27, x28, x29, x30, rfl, h0, h1, h2, h3, h4, h5, h6, h7, h8, h9, h10, h11, kg, ko, kt⟩
  have r6 := h6 (hall 6 (by decide))
  obtain ⟨hy, r8, hat8⟩ := h8 (hall 8 (by decide))
  have r11 := h11 (hall 11 (by decide))
  have tW : Tch (fun k => k = g ∨ (Value.slice A1 ls.length c1).ownBlock = some k ∨ u.ownBlock = some k) w W :=
    ((HT1.out.mono (fun k _ x => .inr (.inl x))).trans ts (fun k _ x => .inl x)).trans kt (fun k _ x => x.elim .inl (fun y => .inr (.inr y)))
  have hin : ∀ (xs : List OneV) (q : Value), Lists k45 45 33 w B q xs ls → ∀ k, In xs k → ¬ (k = g ∨ (Value.slice A1 ls.length c1).ownBlock = some k ∨ u.ownBlock = some k) := by
    rintro xs q hL k ⟨j, x, hx, hk⟩ hS
    obtain ⟨y, hy⟩ := lt_some (show j < ls.length by have := hL.len; have := some_lt hx; omega)
    have hR := hL.each j x y hx hy
    rcases hS with rfl | h | h
    · exact R_off hR HG.out (by decide) k hk rfl
    · exact (Rd.of_R hR).apart (Rd.of_R HP.out.a.outer) (by decide) k hk h
    · exact (Rd.of_R hR).apart (Rd.of_R HP.out.b.outer) (by decide) k hk h
  have hsz1 := HT1.out.size
  have hsz2 := ts.size
  have hV2u : ∀ k, V2.ownBlock = some k → u.ownBlock ≠ some k := by
    intro k hk hu
    rcases hat1 with h | ⟨b, hb, hle⟩
    · exact HP.out.ap k (h ▸ hk) hu
    · rw [hk] at hb
      obtain rfl := Option.some.inj hb
      have := (Rd.of_R HP.out.b.outer).lt k hu
      omega
  have hR2b := R_tch rfl hR2 ts (R_off hR2 HB1.out (by decide))
  have hRV := R_tch rfl hR2b kt (fun k hk x => x.elim (fun e => R_off hR2b hg2 (by decide) k hk e) (fun e => hV2u k hk e))
  have hxW := R_tch rfl hx2 kt (fun k hk x => x.elim (fun e => R_off hx2 hg2 (by decide) k hk e) (fun e => (Rd.of_R hx2).apart (Rd.of_R hu2) (by decide) k hk e))
  have hA : Added k45 45 33 B g 32 cur 4 vs us ls ⟨.slice A l.length c, rfl⟩ l (.slice A1 ls.length c1) u w W := by
    refine ⟨V2, x28, ⟨x26, hy⟩, r11, ⟨HP.out.a.added rfl tW (hin vs _ HP.out.a) hRV hxW HD.out, HP.out.b.added rfl tW (hin us _ HP.out.b) r8 (Kd.R_lower r6 hB2) (fun k hk x => ?_), fun k hk1 hk2 => ?_⟩, tW⟩
    · obtain ⟨j, q, hq, hqk⟩ := x
      obtain ⟨y, hy'⟩ := lt_some (show j < ls.length by have := HP.out.b.len; have := some_lt hq; omega)
      have h1 := (Rd.of_R (HP.out.b.each j q y hq hy')).lt k hqk
      have h2 := Kd.R_base r6 k hk
      omega
    · rcases hat8 with h | ⟨b, hb, hle⟩
      · exact hV2u k hk1 (h ▸ hk2)
      · rw [hk2] at hb
        obtain rfl := Option.some.inj hb
        have := (Rd.of_R hR2b).lt k hk1
        omega
  have H := Lib.hid hA
  clear hA
  go_end0
  exact ⟨rfl, H.out⟩
end Go.Proofs.YthngjjeilcfhgaaGreatDoor.Bk

/- The book of lists: what its functions do over kinds of which no list is kept. -/
namespace Go.Proofs.YthngjjeilcfhgaaGreatDoor.Bk
open Go.RowKit

theorem stillTexts_none (g : Nat) (w : World) (h : w.cell? ⟨g, 0, none⟩ = some (.slice none 0 0)) :
    Calls Tryz.prog 18 #[.pointer (some ⟨g, 0, none⟩)] w fun e w' => e = .returned (.bool true) ∧ w' = w := by
  go_enter Tryz.func18, Tryz.ntmps18
  go_wp2
  refine wp_loop_rounds 1 ?_
  rw [rounds_succ]
  go_wp2
  go_ret
  exact ⟨rfl, rfl⟩
theorem putTexts_none (g : Nat) (w : World) (h : w.cell? ⟨g, 0, none⟩ = some (.slice none 0 0)) :
    Calls Tryz.prog 26 #[.pointer (some ⟨g, 0, none⟩)] w fun e w' => e = .returned (.tuple #[]) ∧ w' = w := by
  go_enter Tryz.func26, Tryz.ntmps26
  go_wp2
  refine wp_loop_rounds 1 ?_
  rw [rounds_succ]
  go_wp2
  go_end0
  exact ⟨rfl, rfl⟩
theorem growTexts_none (g : Nat) (w : World) (h : w.cell? ⟨g, 0, none⟩ = some (.slice none 0 0)) :
    Calls Tryz.prog 32 #[.pointer (some ⟨g, 0, none⟩)] w fun e w' => e = .returned (.slice none 0 0) ∧ w' = w := by
  go_enter Tryz.func32, Tryz.ntmps32
  go_wp2
  refine wp_loop_rounds 1 ?_
  rw [rounds_succ]
  go_wp2
  go_ret
  exact ⟨rfl, rfl⟩
theorem markedTexts_none (g : Nat) (w : World) :
    Calls Tryz.prog 39 #[.slice none 0 0] w fun e w' => e = .returned (.bool true) ∧ w' = w := by
  go_enter Tryz.func39, Tryz.ntmps39
  go_wp2
  refine wp_loop_rounds 1 ?_
  rw [rounds_succ]
  go_wp2
  go_ret
  exact ⟨rfl, rfl⟩
theorem stillInts_none (g : Nat) (w : World) (h : w.cell? ⟨g, 2, none⟩ = some (.slice none 0 0)) :
    Calls Tryz.prog 19 #[.pointer (some ⟨g, 0, none⟩)] w fun e w' => e = .returned (.bool true) ∧ w' = w := by
  go_enter Tryz.func19, Tryz.ntmps19
  go_wp2
  refine wp_loop_rounds 1 ?_
  rw [rounds_succ]
  go_wp2
  go_ret
  exact ⟨rfl, rfl⟩
theorem putInts_none (g : Nat) (w : World) (h : w.cell? ⟨g, 2, none⟩ = some (.slice none 0 0)) :
    Calls Tryz.prog 27 #[.pointer (some ⟨g, 0, none⟩)] w fun e w' => e = .returned (.tuple #[]) ∧ w' = w := by
  go_enter Tryz.func27, Tryz.ntmps27
  go_wp2
  refine wp_loop_rounds 1 ?_
  rw [rounds_succ]
  go_wp2
  go_end0
  exact ⟨rfl, rfl⟩
theorem growInts_none (g : Nat) (w : World) (h : w.cell? ⟨g, 2, none⟩ = some (.slice none 0 0)) :
    Calls Tryz.prog 33 #[.pointer (some ⟨g, 0, none⟩)] w fun e w' => e = .returned (.slice none 0 0) ∧ w' = w := by
  go_enter Tryz.func33, Tryz.ntmps33
  go_wp2
  refine wp_loop_rounds 1 ?_
  rw [rounds_succ]
  go_wp2
  go_ret
  exact ⟨rfl, rfl⟩
theorem markedInts_none (g : Nat) (w : World) :
    Calls Tryz.prog 40 #[.slice none 0 0] w fun e w' => e = .returned (.bool true) ∧ w' = w := by
  go_enter Tryz.func40, Tryz.ntmps40
  go_wp2
  refine wp_loop_rounds 1 ?_
  rw [rounds_succ]
  go_wp2
  go_ret
  exact ⟨rfl, rfl⟩
theorem stillNotes_none (g : Nat) (w : World) (h : w.cell? ⟨g, 6, none⟩ = some (.slice none 0 0)) :
    Calls Tryz.prog 21 #[.pointer (some ⟨g, 0, none⟩)] w fun e w' => e = .returned (.bool true) ∧ w' = w := by
  go_enter Tryz.func21, Tryz.ntmps21
  go_wp2
  refine wp_loop_rounds 1 ?_
  rw [rounds_succ]
  go_wp2
  go_ret
  exact ⟨rfl, rfl⟩
theorem putNotes_none (g : Nat) (w : World) (h : w.cell? ⟨g, 6, none⟩ = some (.slice none 0 0)) :
    Calls Tryz.prog 29 #[.pointer (some ⟨g, 0, none⟩)] w fun e w' => e = .returned (.tuple #[]) ∧ w' = w := by
  go_enter Tryz.func29, Tryz.ntmps29
  go_wp2
  refine wp_loop_rounds 1 ?_
  rw [rounds_succ]
  go_wp2
  go_end0
  exact ⟨rfl, rfl⟩
theorem growNotes_none (g : Nat) (w : World) (h : w.cell? ⟨g, 6, none⟩ = some (.slice none 0 0)) :
    Calls Tryz.prog 35 #[.pointer (some ⟨g, 0, none⟩)] w fun e w' => e = .returned (.slice none 0 0) ∧ w' = w := by
  go_enter Tryz.func35, Tryz.ntmps35
  go_wp2
  refine wp_loop_rounds 1 ?_
  rw [rounds_succ]
  go_wp2
  go_ret
  exact ⟨rfl, rfl⟩
theorem markedNotes_none (g : Nat) (w : World) :
    Calls Tryz.prog 42 #[.slice none 0 0] w fun e w' => e = .returned (.bool true) ∧ w' = w := by
  go_enter Tryz.func42, Tryz.ntmps42
  go_wp2
  refine wp_loop_rounds 1 ?_
  rw [rounds_succ]
  go_wp2
  go_ret
  exact ⟨rfl, rfl⟩
theorem stillItems_none (g : Nat) (w : World) (h : w.cell? ⟨g, 8, none⟩ = some (.slice none 0 0)) :
    Calls Tryz.prog 22 #[.pointer (some ⟨g, 0, none⟩)] w fun e w' => e = .returned (.bool true) ∧ w' = w := by
  go_enter Tryz.func22, Tryz.ntmps22
  go_wp2
  refine wp_loop_rounds 1 ?_
  rw [rounds_succ]
  go_wp2
  go_ret
  exact ⟨rfl, rfl⟩
theorem putItems_none (g : Nat) (w : World) (h : w.cell? ⟨g, 8, none⟩ = some (.slice none 0 0)) :
    Calls Tryz.prog 30 #[.pointer (some ⟨g, 0, none⟩)] w fun e w' => e = .returned (.tuple #[]) ∧ w' = w := by
  go_enter Tryz.func30, Tryz.ntmps30
  go_wp2
  refine wp_loop_rounds 1 ?_
  rw [rounds_succ]
  go_wp2
  go_end0
  exact ⟨rfl, rfl⟩
theorem growItems_none (g : Nat) (w : World) (h : w.cell? ⟨g, 8, none⟩ = some (.slice none 0 0)) :
    Calls Tryz.prog 36 #[.pointer (some ⟨g, 0, none⟩)] w fun e w' => e = .returned (.slice none 0 0) ∧ w' = w := by
  go_enter Tryz.func36, Tryz.ntmps36
  go_wp2
  refine wp_loop_rounds 1 ?_
  rw [rounds_succ]
  go_wp2
  go_ret
  exact ⟨rfl, rfl⟩
theorem markedItems_none (g : Nat) (w : World) :
    Calls Tryz.prog 43 #[.slice none 0 0] w fun e w' => e = .returned (.bool true) ∧ w' = w := by
  go_enter Tryz.func43, Tryz.ntmps43
  go_wp2
  refine wp_loop_rounds 1 ?_
  rw [rounds_succ]
  go_wp2
  go_ret
  exact ⟨rfl, rfl⟩
theorem stillCommands_none (g : Nat) (w : World) (h : w.cell? ⟨g, 10, none⟩ = some (.slice none 0 0)) :
    Calls Tryz.prog 23 #[.pointer (some ⟨g, 0, none⟩)] w fun e w' => e = .returned (.bool true) ∧ w' = w := by
  go_enter Tryz.func23, Tryz.ntmps23
  go_wp2
  refine wp_loop_rounds 1 ?_
  rw [rounds_succ]
  go_wp2
  go_ret
  exact ⟨rfl, rfl⟩
theorem putCommands_none (g : Nat) (w : World) (h : w.cell? ⟨g, 10, none⟩ = some (.slice none 0 0)) :
    Calls Tryz.prog 31 #[.pointer (some ⟨g, 0, none⟩)] w fun e w' => e = .returned (.tuple #[]) ∧ w' = w := by
  go_enter Tryz.func31, Tryz.ntmps31
  go_wp2
  refine wp_loop_rounds 1 ?_
  rw [rounds_succ]
  go_wp2
  go_end0
  exact ⟨rfl, rfl⟩
theorem growCommands_none (g : Nat) (w : World) (h : w.cell? ⟨g, 10, none⟩ = some (.slice none 0 0)) :
    Calls Tryz.prog 37 #[.pointer (some ⟨g, 0, none⟩)] w fun e w' => e = .returned (.slice none 0 0) ∧ w' = w := by
  go_enter Tryz.func37, Tryz.ntmps37
  go_wp2
  refine wp_loop_rounds 1 ?_
  rw [rounds_succ]
  go_wp2
  go_ret
  exact ⟨rfl, rfl⟩
theorem markedCommands_none (g : Nat) (w : World) :
    Calls Tryz.prog 44 #[.slice none 0 0] w fun e w' => e = .returned (.bool true) ∧ w' = w := by
  go_enter Tryz.func44, Tryz.ntmps44
  go_wp2
  refine wp_loop_rounds 1 ?_
  rw [rounds_succ]
  go_wp2
  go_ret
  exact ⟨rfl, rfl⟩
theorem stillReplies_none (g : Nat) (w : World) (h : w.cell? ⟨g, 12, none⟩ = some (.slice none 0 0)) :
    Calls Tryz.prog 24 #[.pointer (some ⟨g, 0, none⟩)] w fun e w' => e = .returned (.bool true) ∧ w' = w := by
  go_enter Tryz.func24, Tryz.ntmps24
  go_wp2
  refine wp_loop_rounds 1 ?_
  rw [rounds_succ]
  go_wp2
  go_ret
  exact ⟨rfl, rfl⟩
theorem putReplies_none (g : Nat) (w : World) (h : w.cell? ⟨g, 12, none⟩ = some (.slice none 0 0)) :
    Calls Tryz.prog 25 #[.pointer (some ⟨g, 0, none⟩)] w fun e w' => e = .returned (.tuple #[]) ∧ w' = w := by
  go_enter Tryz.func25, Tryz.ntmps25
  go_wp2
  refine wp_loop_rounds 1 ?_
  rw [rounds_succ]
  go_wp2
  go_end0
  exact ⟨rfl, rfl⟩
theorem growReplies_none (g : Nat) (w : World) (h : w.cell? ⟨g, 12, none⟩ = some (.slice none 0 0)) :
    Calls Tryz.prog 38 #[.pointer (some ⟨g, 0, none⟩)] w fun e w' => e = .returned (.slice none 0 0) ∧ w' = w := by
  go_enter Tryz.func38, Tryz.ntmps38
  go_wp2
  refine wp_loop_rounds 1 ?_
  rw [rounds_succ]
  go_wp2
  go_ret
  exact ⟨rfl, rfl⟩
theorem markedReplies_none (g : Nat) (w : World) :
    Calls Tryz.prog 45 #[.slice none 0 0] w fun e w' => e = .returned (.bool true) ∧ w' = w := by
  go_enter Tryz.func45, Tryz.ntmps45
  go_wp2
  refine wp_loop_rounds 1 ?_
  rw [rounds_succ]
  go_wp2
  go_ret
  exact ⟨rfl, rfl⟩
end Go.Proofs.YthngjjeilcfhgaaGreatDoor.Bk

/- Is the book apart? Lists of Rules alone are kept in it. -/
set_option linter.unusedVariables false
namespace Go.Proofs.YthngjjeilcfhgaaGreatDoor.Bk
open Go.RowKit Go.Proofs.YthngjjeilcfhgaaGreatDoorW.PrintWords Go.Proofs.YthngjjeilcfhgaaGreatDoorW.PrintLast Go.Proofs.YthngjjeilcfhgaaGreatDoor.Pa

theorem nil_cells {g : Nat} {cur : Array Value} {W : World} (hg : W.heap[g]? = some (.cells cur 32 (0, 0))) (hz : ∀ i, i < 14 → i ≠ 4 → i ≠ 4 + 1 → cur[i]? = some (.slice none 0 0)) :
    W.cell? ⟨g, 0, none⟩ = some (.slice none 0 0) ∧ W.cell? ⟨g, 2, none⟩ = some (.slice none 0 0) ∧ W.cell? ⟨g, 6, none⟩ = some (.slice none 0 0) ∧ W.cell? ⟨g, 8, none⟩ = some (.slice none 0 0) ∧ W.cell? ⟨g, 10, none⟩ = some (.slice none 0 0) ∧ W.cell? ⟨g, 12, none⟩ = some (.slice none 0 0) :=
  ⟨(blk_cell hg 0).trans (hz 0 (by decide) (by decide) (by decide)), (blk_cell hg 2).trans (hz 2 (by decide) (by decide) (by decide)), (blk_cell hg 6).trans (hz 6 (by decide) (by decide) (by decide)), (blk_cell hg 8).trans (hz 8 (by decide) (by decide) (by decide)), (blk_cell hg 10).trans (hz 10 (by decide) (by decide) (by decide)), (blk_cell hg 12).trans (hz 12 (by decide) (by decide) (by decide))⟩

set_option maxHeartbeats 6400000 in
set_option maxRecDepth 100000 in
theorem Apart_Rules (B g N : Nat) (cur : Array Value) (v u : Value) (vs us : List OneV) (ls : List (List S45)) (w : World)
    (hg : w.heap[g]? = some (.cells cur 32 (0, 0))) (hz : ∀ i, i < 14 → i ≠ 4 → i ≠ 4 + 1 → cur[i]? = some (.slice none 0 0)) (h4 : cur[4]? = some v) (h5 : cur[4 + 1]? = some u) (hp : Pair k45 45 33 w B v u vs us ls)
    (hB : B ≤ w.heap.size) (hn : ls.length ≤ 250) (hN : Small N ls) (hNN : N ≤ 9000)
    (hmk : ∀ i a n : Nat, i ≤ 250 → a ≤ 20000 → n ≤ 20000 → ∃ k, Pl.escutcheonbook_markRules.f k (i : Int) (a : Int) (n : Int) = some (mkOf mkR i a n))
    (hsame : ∀ l : List S45, l.length ≤ 20000 → ∃ k, Pl.escutcheonbook_SameRules.f k l l = some true) :
    Calls Tryz.prog 9 #[.pointer (some ⟨g, 0, none⟩)] w fun e w' => e = .returned (.bool true) ∧ Below B w w' := by
  have HP := Lib.hid hp
  have HG := Lib.hid hg
  have HZ := Lib.hid hz
  have H4 := Lib.hid h4
  have H5 := Lib.hid h5
  have HN := Lib.hid hN
  have HM := Lib.hid hmk
  have HS := Lib.hid hsame
  obtain ⟨c0, c2, c6, c8, c10, c12⟩ := nil_cells hg hz
  clear hp hg hz h4 h5 hN hmk hsame
  have HIN : ∀ k, In vs k → k ≠ g := by
    rintro k ⟨j, x, hx, hk⟩
    obtain ⟨y, hy⟩ := lt_some (show j < ls.length by have := HP.out.a.len; have := some_lt hx; omega)
    exact fun e => R_off (HP.out.a.each j x y hx hy) HG.out (by decide) k hk e
  have HIB : ∀ k, In vs k → B ≤ k := by
    rintro k ⟨j, x, hx, hk⟩
    obtain ⟨y, hy⟩ := lt_some (show j < ls.length by have := HP.out.a.len; have := some_lt hx; omega)
    exact Kd.R_base (HP.out.a.each j x y hx hy) k hk
  have HI := Lib.hid HIN
  have HJ := Lib.hid HIB
  clear HIN HIB
  go_enter Tryz.func9, Tryz.ntmps9
  go_wp2_with (first | (go_at_call 18; refine (stillTexts_none g _ c0).mono ?_; rintro _ w_ ⟨rfl, hw_⟩; obtain rfl := hw_.symm; clear hw_) | (go_at_call 19; refine (stillInts_none g _ c2).mono ?_; rintro _ w_ ⟨rfl, hw_⟩; obtain rfl := hw_.symm; clear hw_))
  refine (stillRules_any g v u vs us ls w ((blk_cell HG.out 4).trans H4.out) ((blk_cell HG.out (4 + 1)).trans H5.out) HP.out.a.has HP.out.b.has hn (fun l hl => HS.out l (by have := HN.out l hl; omega))).mono ?_
  rintro e w1 ⟨rfl, hd1⟩
  have hg1 := blk_below HG.out hd1.below
  have hp1 : Lists k45 45 33 w1 B v vs ls := HP.out.a.below rfl hd1.below
  have hBw : Below B w w1 := hd1.below.mono hB
  have hB1 : B ≤ w1.heap.size := Nat.le_trans hB hBw.size
  have HG1 := Lib.hid hg1
  have HP1 := Lib.hid hp1
  have HW1 := Lib.hid hBw
  clear c0 c2 c6 c8 c10 c12
  obtain ⟨c0, c2, c6, c8, c10, c12⟩ := nil_cells hg1 HZ.out
  clear hd1 hg1 hp1 hBw
  go_wp2_with (first | (first | (go_at_call 21; refine (stillNotes_none g _ c6).mono ?_; rintro _ w_ ⟨rfl, hw_⟩; obtain rfl := hw_.symm; clear hw_) | (go_at_call 22; refine (stillItems_none g _ c8).mono ?_; rintro _ w_ ⟨rfl, hw_⟩; obtain rfl := hw_.symm; clear hw_) | (go_at_call 23; refine (stillCommands_none g _ c10).mono ?_; rintro _ w_ ⟨rfl, hw_⟩; obtain rfl := hw_.symm; clear hw_) | (go_at_call 24; refine (stillReplies_none g _ c12).mono ?_; rintro _ w_ ⟨rfl, hw_⟩; obtain rfl := hw_.symm; clear hw_)) | (first | (go_at_call 25; refine (putReplies_none g _ c12).mono ?_; rintro _ w_ ⟨rfl, hw_⟩; obtain rfl := hw_.symm; clear hw_) | (go_at_call 26; refine (putTexts_none g _ c0).mono ?_; rintro _ w_ ⟨rfl, hw_⟩; obtain rfl := hw_.symm; clear hw_) | (go_at_call 27; refine (putInts_none g _ c2).mono ?_; rintro _ w_ ⟨rfl, hw_⟩; obtain rfl := hw_.symm; clear hw_)))
  refine (putRules_any g B N v vs ls _ ((blk_cell HG1.out 4).trans H4.out) HI.out HP1.out hn HN.out (by omega) (fun i n h1 h2 => HM.out i 0 n h1 (by omega) (by omega))).mono ?_
  rintro e w2 ⟨rfl, hP⟩
  have t2 := hP.tch
  obtain ⟨cur2, k1, k2, k3, k4⟩ := hP.ex
  have hg2 : w2.heap[g]? = some (.cells cur 32 (0, 0)) := (t2.block g (blk_lt HG1.out) (fun x => HI.out g x rfl)).trans HG1.out
  have hb2 : Below B w w2 := t2.below HW1.out hB1 (fun k hk => HJ.out k hk)
  have hB2 : B ≤ w2.heap.size := Nat.le_trans hB1 t2.size
  have HG2 := Lib.hid hg2
  have HB2 := Lib.hid hb2
  have HQ2 := Lib.hid (And.intro k1 (And.intro k2 (And.intro k3 k4)))
  clear c0 c2 c6 c8 c10 c12
  obtain ⟨c0, c2, c6, c8, c10, c12⟩ := nil_cells hg2 HZ.out
  clear hP t2 k1 k2 k3 k4 hg2 hb2
  go_wp2_with (first | (first | (go_at_call 29; refine (putNotes_none g _ c6).mono ?_; rintro _ w_ ⟨rfl, hw_⟩; obtain rfl := hw_.symm; clear hw_) | (go_at_call 30; refine (putItems_none g _ c8).mono ?_; rintro _ w_ ⟨rfl, hw_⟩; obtain rfl := hw_.symm; clear hw_) | (go_at_call 31; refine (putCommands_none g _ c10).mono ?_; rintro _ w_ ⟨rfl, hw_⟩; obtain rfl := hw_.symm; clear hw_)) | (first | (go_at_call 32; refine (growTexts_none g _ c0).mono ?_; rintro _ w_ ⟨rfl, hw_⟩; obtain rfl := hw_.symm; clear hw_) | (go_at_call 33; refine (growInts_none g _ c2).mono ?_; rintro _ w_ ⟨rfl, hw_⟩; obtain rfl := hw_.symm; clear hw_)))
  refine (growRules_any g B N v vs cur2 _ ((blk_cell HG2.out 4).trans H4.out) HI.out HQ2.out.2.2.2 hB2 (by have := HQ2.out.1; omega) HQ2.out.2.2.1 (by omega) (by rw [HQ2.out.1]; exact HQ2.out.2.1) (fun i a n h1 h2 h3 => HM.out i a n h1 h2 (by omega))).mono ?_
  rintro e w3 ⟨ov, rfl, hI⟩
  obtain ⟨q1, ⟨gs, ms, q2, q3, q4, q5⟩, t3⟩ := hI.done rfl HQ2.out.2.2.2.len
  have hg3 : w3.heap[g]? = some (.cells cur 32 (0, 0)) := (t3.block g (blk_lt HG2.out) (fun x => HI.out g x rfl)).trans HG2.out
  have hb3 : Below B w w3 := t3.below HB2.out hB2 (fun k hk => HJ.out k hk)
  have hB3 : B ≤ w3.heap.size := Nat.le_trans hB2 t3.size
  have HG3 := Lib.hid hg3
  have HB3 := Lib.hid hb3
  have HQ3 := Lib.hid (And.intro q1 (And.intro q2 (And.intro q3 (And.intro q4 q5))))
  clear c0 c2 c6 c8 c10 c12
  obtain ⟨c0, c2, c6, c8, c10, c12⟩ := nil_cells hg3 HZ.out
  have c4 : w3.cell? ⟨g, 4, none⟩ = some v := (blk_cell hg3 4).trans H4.out
  clear hI q1 q2 q3 q4 q5 t3 hg3 hb3
  go_wp2_with (first | (first | (go_at_call 35; refine (growNotes_none g _ c6).mono ?_; rintro _ w_ ⟨rfl, hw_⟩; obtain rfl := hw_.symm; clear hw_) | (go_at_call 36; refine (growItems_none g _ c8).mono ?_; rintro _ w_ ⟨rfl, hw_⟩; obtain rfl := hw_.symm; clear hw_) | (go_at_call 37; refine (growCommands_none g _ c10).mono ?_; rintro _ w_ ⟨rfl, hw_⟩; obtain rfl := hw_.symm; clear hw_) | (go_at_call 38; refine (growReplies_none g _ c12).mono ?_; rintro _ w_ ⟨rfl, hw_⟩; obtain rfl := hw_.symm; clear hw_)) | (first | (go_at_call 39; refine (markedTexts_none g _).mono ?_; rintro _ w_ ⟨rfl, hw_⟩; obtain rfl := hw_.symm; clear hw_) | (go_at_call 40; refine (markedInts_none g _).mono ?_; rintro _ w_ ⟨rfl, hw_⟩; obtain rfl := hw_.symm; clear hw_)))
  refine (markedRules_any (N + 72) ov gs ms _ HQ3.out.2.2.2.2 (by have := HQ2.out.1; have := HQ3.out.2.1; omega) HQ3.out.2.2.2.1 (by omega) (by rw [HQ3.out.2.1]; exact HQ3.out.2.2.1) (fun i a n h1 h2 h3 => HM.out i a n h1 h2 (by omega)) (fun l hl => HS.out l (by have := HQ3.out.2.2.2.1 l hl; omega))).mono ?_
  rintro e w4 ⟨rfl, hb4⟩
  have c4' : w4.cell? ⟨g, 4, none⟩ = some v := (blk_cell (blk_below HG3.out hb4) 4).trans H4.out
  have h4' := HQ3.out.1.below flat45 hb4
  have HB4 := Lib.hid (HB3.out.trans (hb4.mono hB3))
  have HG4 := Lib.hid (blk_below HG3.out hb4)
  have H44 := Lib.hid h4'
  have hB4 : B ≤ w4.heap.size := Nat.le_trans hB3 hb4.size
  clear c0 c2 c6 c8 c10 c12 c4 hb4 h4'
  go_wp2_with fail
  refine (markedRules_any N v vs cur2 _ H44.out (by have := HQ2.out.1; omega) HQ2.out.2.2.1 (by omega) (by rw [HQ2.out.1]; exact HQ2.out.2.1) (fun i a n h1 h2 h3 => HM.out i a n h1 h2 (by omega)) (fun l hl => HS.out l (by have := HQ2.out.2.2.1 l hl; omega))).mono ?_
  rintro e w5 ⟨rfl, hb5⟩
  have HB5 := Lib.hid (HB4.out.trans (hb5.mono hB4))
  have hg5 := blk_below HG4.out hb5
  obtain ⟨c0, c2, c6, c8, c10, c12⟩ := nil_cells hg5 HZ.out
  clear hb5 hg5 c4'
  go_wp2_with (first | (first | (go_at_call 42; refine (markedNotes_none g _).mono ?_; rintro _ w_ ⟨rfl, hw_⟩; obtain rfl := hw_.symm; clear hw_) | (go_at_call 43; refine (markedItems_none g _).mono ?_; rintro _ w_ ⟨rfl, hw_⟩; obtain rfl := hw_.symm; clear hw_) | (go_at_call 44; refine (markedCommands_none g _).mono ?_; rintro _ w_ ⟨rfl, hw_⟩; obtain rfl := hw_.symm; clear hw_) | (go_at_call 45; refine (markedReplies_none g _).mono ?_; rintro _ w_ ⟨rfl, hw_⟩; obtain rfl := hw_.symm; clear hw_)))
  go_ret
  exact ⟨rfl, HB5.out⟩
end Go.Proofs.YthngjjeilcfhgaaGreatDoor.Bk
