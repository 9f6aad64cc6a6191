import Derived.Test.YtbfdaclekjgkfaaGreatDoorBkq
import Derived.Test.YtbfdaclekjgkfaaGreatDoorPl
import Derived.Deep.QuietTactic
import Derived.BigQuiet
import Derived.StillTailTactics
import Derived.Test.YtbfdaclekjgkfaaGreatDoorInv
import Derived.Test.YtbfdaclekjgkfaaGreatDoorProg
import Derived.Tactics
import Derived.WalkKit
import Derived.LoopN
import Derived.RowKit
import Derived.RowKit3
import Derived.KernelRfl
import Derived.Below

/- The book's lists of texts: are they as they were? -/
set_option linter.unusedVariables false
namespace Go.Proofs.YtbfdaclekjgkfaaGreatDoor.Bk
open Go.RowKit Go.Proofs.YtbfdaclekjgkfaaGreatDoorW.PrintWords

theorem flatT : Flat Kd.string := fun _ _ _ _ h => h

set_option maxHeartbeats 1600000 in
theorem stillTexts_any (g : Nat) (v u : Value) (vs us : List OneV) (ls : List (List ByteArray)) (w : World) (hv : w.cell? ⟨g, 0, none⟩ = some v) (hu : w.cell? ⟨g, 1, none⟩ = some u)
    (h1 : Has Kd.string 9 23 w v vs ls) (h2 : Has Kd.string 9 23 w u us ls) (hn : ls.length ≤ 250) (hsame : ∀ l ∈ ls, ∃ k, Pl.escutcheonbook_SameTexts.f k l l = some true) :
    Calls Tryz.prog 31 #[.pointer (some ⟨g, 0, none⟩)] w fun e w' => e = .returned (.bool true) ∧ Drawn0 w w' := by
  obtain ⟨A1, c1, rfl, hc1⟩ := h1.form
  obtain ⟨A2, c2, rfl, hc2⟩ := h2.form
  have HS := Lib.hid hsame
  clear hsame
  go_enter Tryz.func31, Tryz.ntmps31
  go_wp2
  go_loopw [3] (fun i W => ∃ k : Nat, i = .int .i64 k ∧ k ≤ ls.length ∧ Drawn0 w W) (fun i _ => ls.length - (intOf i).toNat)
  case atStart => exact ⟨0, rfl, Nat.zero_le _, Drawn0.refl w⟩
  case round =>
    obtain ⟨k, rfl, hk, hd⟩ := hrel
    have hv' := (drawn_cell hd ⟨g, 0, none⟩).trans hv
    have hu' := (drawn_cell hd ⟨g, 1, none⟩).trans hu
    have h1' := h1.below flatT hd.below
    have h2' := h2.below flatT hd.below
    clear hv hu h1 h2
    by_cases hlt : k < ls.length
    · obtain ⟨l, hl⟩ := lt_some hlt
      obtain ⟨ad1, B1, d1, rfl, q1, e1, C1⟩ := h1'.at k l hl
      obtain ⟨ad2, B2, d2, rfl, q2, e2, C2⟩ := h2'.at k l hl
      obtain ⟨kk, hkk⟩ := HS.out l (List.mem_of_getElem? hl)
      have HK := Lib.hid hkk
      have HC1 := Lib.hid C1
      have HC2 := Lib.hid C2
      have HD := Lib.hid hd
      clear hkk C1 C2 hl h1' h2' hd
      go_wp2
      go_quiet ((go_at_call 30; exact Calls.quiet_of ((Pl.escutcheonbook_SameTexts.calls kk B1 d1 l B2 d2 l true _ (Kd.C_drewN HC1.out _) e1 (Kd.C_drewN HC2.out _) e2 HK.out).mono fun _ _ hh => ⟨hh.1, hh.2.out⟩)))
      go_wp2
      go_roundw
      case rel => exact ⟨k + 1, by go_num, by omega, HD.out.step _⟩
      case measure => simp [intOf]; omega
    · have HD := Lib.hid hd
      clear hd
      go_wp2
      go_ret
      exact ⟨rfl, HD.out⟩
end Go.Proofs.YtbfdaclekjgkfaaGreatDoor.Bk

/- The book's lists of texts are marked. -/
set_option linter.unusedVariables false
namespace Go.Proofs.YtbfdaclekjgkfaaGreatDoor.Bk
open Go.RowKit Go.Proofs.YtbfdaclekjgkfaaGreatDoorW.PrintWords

def mkT (i k : Nat) : ByteArray := (Pl.escutcheonbook_name.f (i : Int) (k : Int)).getD ByteArray.empty

set_option maxHeartbeats 3200000 in
set_option maxRecDepth 100000 in
theorem putTexts_any (g B N : Nat) (v : Value) (vs : List OneV) (ls : List (List ByteArray)) (w : World) (hv : w.cell? ⟨g, 0, none⟩ = some v) (hg : ∀ k, In vs k → k ≠ g)
    (h1 : Lists Kd.string 9 23 w B v vs ls) (hn : ls.length ≤ 250) (hN : Small N ls) (hNN : N ≤ 10000)
    (hmk : ∀ i n : Nat, i ≤ 250 → n ≤ 10000 → ∃ k, Pl.escutcheonbook_markTexts.f k (i : Int) 0 (n : Int) = some (mkOf mkT i 0 n)) :
    Calls Tryz.prog 39 #[.pointer (some ⟨g, 0, none⟩)] w fun e w' => e = .returned (.tuple #[]) ∧ PutI mkT Kd.string 9 23 w B v vs ls.length N ls.length w' := by
  obtain ⟨A1, c1, rfl, hc1⟩ := h1.has.form
  have HM := Lib.hid hmk
  have H0 := Lib.hid (PutI.start (f := mkT) h1 rfl hN)
  clear hmk
  have hlv := h1.len
  have HV := Lib.hid hv
  have HG := Lib.hid hg
  have HLV := Lib.hid hlv
  have hin : ∀ k, In vs k → k < w.heap.size := fun k ⟨j, u, hu, hk⟩ => by
    obtain ⟨l, hl⟩ := lt_some (show j < ls.length by have := some_lt hu; omega)
    exact (Rd.of_R (h1.each j u l hu hl)).lt k hk
  have HIN := Lib.hid hin
  clear hin
  have hgl : g < w.heap.size := World.block_lt_of_cell? w _ hv
  clear hv hlv hg
  clear h1
  go_enter Tryz.func39, Tryz.ntmps39
  go_wp2
  go_loopw [2] (fun i W => ∃ k : Nat, i = .int .i64 k ∧ k ≤ ls.length ∧ PutI mkT Kd.string 9 23 w B (.slice A1 ls.length c1) vs ls.length N k W) (fun i _ => ls.length - (intOf i).toNat)
  case atStart => exact ⟨0, rfl, Nat.zero_le _, H0.out⟩
  case round =>
    obtain ⟨i, rfl, hi, hP⟩ := hrel
    have hv' := (hP.tch.cell (p := ⟨g, 0, none⟩) hgl (fun x => HG.out _ x rfl)).trans HV.out
    by_cases hlt : i < ls.length
    · obtain ⟨cur, hcn, hcm, hcs, hL⟩ := hP.ex
      obtain ⟨l, hl⟩ := lt_some (show i < cur.length by omega)
      have hcs' : l.length ≤ N := hcs l (List.mem_of_getElem? hl)
      have hLh := hL.has
      rw [← hcn] at hLh
      obtain ⟨ad1, B1, d1, rfl, q1, e1, C1⟩ := hLh.at i l hl
      obtain ⟨kk, hkk⟩ := HM.out i l.length (by omega) (by omega)
      have HK := Lib.hid hkk
      have HP := Lib.hid hP
      have HL := Lib.hid hL
      have HCN := Lib.hid hcn
      have HCM := Lib.hid hcm
      have HCS := Lib.hid hcs
      have Hl := Lib.hid hl
      clear hkk hP hL hLh hcn hcm hcs hl C1
      go_wp2_with fail
      refine (Pl.escutcheonbook_markTexts.calls kk i 0 l.length _ _ HK.out).mono ?_
      rintro x w2 ⟨mv, rfl, hr, hb⟩
      have hk0 := HP.out.inner flatT rfl HCN.out HCM.out HCS.out HL.out Hl.out hr hb
      obtain ⟨Am, cm, rfl, hcm, _⟩ := (Rd.of_R hr).ex
      rw [mkOf_len]
      rw [mkOf_len] at hcm hk0
      have HK0 := Lib.hid hk0
      clear hk0
      clear hr hb
      go_wp2
      go_loopw [4] (fun j W => ∃ k : Nat, j = .int .i64 k ∧ k ≤ l.length ∧ PutK mkT Kd.string 9 23 w B (.slice (some ad1) ls.length c1) vs ls.length N i l.length (.slice Am l.length cm) k W) (fun j _ => l.length - (intOf j).toNat)
      case atStart => exact ⟨0, rfl, Nat.zero_le _, HK0.out⟩
      case round =>
        clear HK0 hv' q1
        obtain ⟨k, rfl, hk, hPK⟩ := hrel
        by_cases hkl : k < l.length
        · have hv'' := (hPK.tch.cell (p := ⟨g, 0, none⟩) hgl (fun x => HG.out _ x rfl)).trans HV.out
          obtain ⟨cur2, l2, u, ad2, g2, cap2, c2, hall, hu, hug, hcap, e2, q2, hR2, hc2, hcc2, hin2⟩ := hPK.meets hkl
          obtain rfl := Option.some.inj e2
          have hCm : Kd.C Kd.string wr Am l.length (mkOf mkT i 0 l.length) := by
            obtain ⟨A9, c9, e9, _, hC9⟩ := hPK.rd.ex
            injection e9 with e9 _ _
            subst e9
            rw [mkOf_len] at hC9
            exact hC9
          obtain ⟨am, rfl, m0⟩ := Kd.at_string hCm k (by omega) (by omega)
          have hrd : rdOf ByteArray.empty (mkOf mkT i 0 l.length) (k : Int) = mkT i k := by
            unfold rdOf
            rw [List.getD_eq_getElem?_getD, Int.toNat_natCast, mkOf_get _ _ _ _ _ hkl, Nat.zero_add]
            rfl
          rw [hrd] at m0
          rw [Int.toNat_natCast] at m0
          have HPK := Lib.hid hPK
          have HALL := Lib.hid hall
          have HU := Lib.hid hu
          have HUG := Lib.hid hug
          have HR2 := Lib.hid hR2
          have HC2 := Lib.hid hc2
          have HCC2 := Lib.hid hcc2
          have HIN2 := Lib.hid hin2
          clear hPK hall hu hug hR2 hc2 hcc2 hin2 hCm hrd
          go_wp2
          go_still_tail 12, (by kernel_rfl)
          have hb3 : Below B wr wr.drew := (Below.refl B wr).drew
          have hR3 : Kd.R Kd.string 9 wr.drew B (fun _ => True) (.slice (some ⟨g2, 0, none⟩) l.length cap2) l2 := Kd.R_drew HR2.out
          have hcc3 : ∀ j u, c2[j]? = some u → wr.drew.cell? ⟨g2, (k : Int).toNat * 1 + j, none⟩ = some u := HCC2.out
          have H3 := Lib.hid (And.intro hb3 (And.intro hR3 hcc3))
          clear hb3 hR3 hcc3
          change wpList _ _ _ _ _ wr.drew
          have hgrow : ∀ w1, wr.drew.grownBy w1 (some g2) → wr.grownBy w1 (some g2) := fun w1 h => ⟨h.os, h.tape, h.output, h.size, h.block⟩
          have HGR := Lib.hid hgrow
          clear hgrow
          generalize wr.drew = w3 at H3 HGR ⊢
          go_wp2_with ((with_reducible refine gate_ (.store 9 (.tmp 42) (.tmp 41)) rfl ?_); refine halt_ ?_)
          change wpList _ _ _ _ _ _
          refine Kd.R_store Kd.string (w0 := wr) B rfl rfl 9 (.tmp 42) (.tmp 41) rfl 9 (k : Int) 0 l2 (mkT i k) _ [.string (mkT i k)] c2 (fun _ => True) (fun _ => False) rfl ?aO rfl rfl (by kernel_rfl) ?a1 H3.out.2.1 (by omega) (by omega) HC2.out H3.out.2.2 (show 0 + 1 ≤ 1 from Nat.le_refl _) ?aM (fun _ h => h.elim) H3.out.1 ?_
          case aO => show k = (k : Int).toNat * 1 + 0; omega
          case a1 =>
            intro q hq
            simp only [List.mem_cons, List.not_mem_nil, or_false] at hq
            rw [hq]; rfl
          case aM =>
            have hcl : c2.length = 1 := HC2.out
            rw [List.take_zero, List.nil_append, List.drop_eq_nil_of_le (by show c2.length ≤ 0 + 1; omega), List.append_nil]
            rfl
          intro w4 hR4 hB4 hG4
          rw [Int.toNat_natCast] at hR4
          obtain ⟨a1, a2, a3, a4, a5, a6, a7⟩ := HALL.out
          have HN := Lib.hid (HPK.out.step flatT rfl (by decide) hkl HIN.out a1 a2 a3 a4 a5 a6 a7 HU.out (by rw [HUG.out]; rfl) (HGR.out _ hG4) (by rw [HUG.out]; exact hR4))
          clear hR4 hB4 hG4 a1 a2 a3 a4 a5 a6 a7
          go_wp2
          go_roundw
          case rel => exact ⟨k + 1, by go_num, by omega, HN.out⟩
          case measure => simp [intOf]; omega
        · obtain rfl : k = l.length := by omega
          have HPK := Lib.hid hPK
          clear hPK
          go_wp2
          go_roundw
          case rel => exact ⟨i + 1, by go_num, by omega, HPK.out.done⟩
          case measure => simp [intOf]; omega
    · obtain rfl : i = ls.length := by omega
      have HP := Lib.hid hP
      clear hP
      go_wp2
      go_end0
      exact ⟨rfl, HP.out⟩
end Go.Proofs.YtbfdaclekjgkfaaGreatDoor.Bk

/- The book's lists of texts are grown. -/
set_option linter.unusedVariables false
namespace Go.Proofs.YtbfdaclekjgkfaaGreatDoor.Bk
open Go.RowKit Go.Proofs.YtbfdaclekjgkfaaGreatDoorW.PrintWords

theorem info_ot : (Tryz.prog.info? 23).map (fun i => (i.zero, i.size, i.bytes)) = some (some (.slice none 0 0), 1, 24) := by kernel_rfl
theorem info_t : (Tryz.prog.info? 9).map (fun i => (i.zero, i.size, i.bytes)) = some (some (.string ⟨#[]⟩), 1, 16) := by kernel_rfl

set_option maxHeartbeats 3200000 in
set_option maxRecDepth 100000 in
theorem growTexts_any (g B N : Nat) (v : Value) (vs : List OneV) (ls : List (List ByteArray)) (w : World) (hv : w.cell? ⟨g, 0, none⟩ = some v) (hg : ∀ k, In vs k → k ≠ g)
    (h1 : Lists Kd.string 9 23 w B v vs ls) (hB : B ≤ w.heap.size) (hn : ls.length ≤ 250) (hN : Small N ls) (hNN : N ≤ 10000) (hm : Marked mkT ls ls.length)
    (hmk : ∀ i a n : Nat, i ≤ 250 → a ≤ 20000 → n ≤ 10000 → ∃ k, Pl.escutcheonbook_markTexts.f k (i : Int) (a : Int) (n : Int) = some (mkOf mkT i a n)) :
    Calls Tryz.prog 45 #[.pointer (some ⟨g, 0, none⟩)] w fun e w' => ∃ ov, e = .returned ov ∧ GrowI mkT Kd.string 9 23 w B v vs ls (N + 72) ls.length ov w' := by
  obtain ⟨A1, c1, rfl, hc1⟩ := h1.has.form
  have HM := Lib.hid hmk
  have H0 := Lib.hid (GrowI.start (f := mkT) (N := N + 72) h1)
  have hlv := h1.len
  have HV := Lib.hid hv
  have HG := Lib.hid hg
  have HMK := Lib.hid hm
  have HS := Lib.hid hN
  have HDIS := Lib.hid h1.dis
  have HLV := Lib.hid hlv
  have hgl : g < w.heap.size := World.block_lt_of_cell? w _ hv
  clear hmk hv hlv hg h1 hm hN
  go_enter Tryz.func45, Tryz.ntmps45
  go_wp2
  go_loopw [3, 4] (fun o i W => ∃ k : Nat, i = .int .i64 k ∧ k ≤ ls.length ∧ GrowI mkT Kd.string 9 23 w B (.slice A1 ls.length c1) vs ls (N + 72) k o W) (fun _ i _ => ls.length - (intOf i).toNat)
  case atStart => exact ⟨0, rfl, Nat.zero_le _, H0.out⟩
  case round =>
    obtain ⟨i, rfl, hi, hP⟩ := hrel
    have hv' := (hP.tch.cell (p := ⟨g, 0, none⟩) hgl (fun x => HG.out _ x rfl)).trans HV.out
    have hs' := hP.tch.size
    by_cases hlt : i < ls.length
    · obtain ⟨l, hl⟩ := lt_some hlt
      obtain ⟨u, hu⟩ := lt_some (show i < vs.length by have := HLV.out; omega)
      have hll : l.length ≤ N := HS.out l (List.mem_of_getElem? hl)
      have hK := hP.inner hu hl (HMK.out i l hlt hl)
      obtain ⟨A0, c0, he, hc0, hC0⟩ := hP.outer.ex
      injection he with e1 e2 e3
      subst e1
      obtain ⟨ad1, rfl, q1⟩ := kv_cell hC0 i u hu
      have HP := Lib.hid hP
      have HK := Lib.hid hK
      have HU := Lib.hid hu
      have Hl := Lib.hid hl
      have HQ := Lib.hid q1
      obtain ⟨x1, hx1⟩ : ∃ x, x = u.1 := ⟨_, rfl⟩
      rw [← hx1] at q1
      have HX1 := Lib.hid hx1
      clear hP hK hu hl hC0 e2 e3 hx1 hc0
      go_wp2
      obtain ⟨wi, hwi⟩ : ∃ wi, wi = wr := ⟨_, rfl⟩
      have hwz : w.heap.size ≤ wi.heap.size := by rw [hwi]; exact hs'
      have HWI := Lib.hid hwi
      clear hwi
      go_loopw [5, 6] (fun lv n W => ∃ k : Nat, n = .int .i64 k ∧ k ≤ 12 ∧ GrowK mkT Kd.string 9 B i wi u.1 l lv k W) (fun _ n _ => 12 - (intOf n).toNat)
      case atStart => exact ⟨0, rfl, Nat.zero_le _, by rw [HX1.out, HWI.out]; exact HK.out⟩
      case round =>
        clear hv' q1
        obtain ⟨k, rfl, hk, hGK⟩ := hrel
        obtain ⟨Ak, ck, rfl, hck, _⟩ := (Rd.of_R hGK.R).ex
        rw [mkOf_len] at hck hGK ⊢
        have hsz := hGK.tch.size
        obtain ⟨M, hM⟩ : ∃ M, M = l.length + k := ⟨_, rfl⟩
        rw [← hM] at hck hGK ⊢
        have HGK := Lib.hid hGK
        have hM12 : M ≤ l.length + 12 := by omega
        have HMM := Lib.hid hM
        clear hGK hM
        by_cases hk12 : k < 12
        · obtain ⟨kk, hkk⟩ := HM.out i M 1 (by omega) (by omega) (by omega)
          have HKK := Lib.hid hkk
          clear hkk
          go_wp2_with fail
          refine (Pl.escutcheonbook_markTexts.calls kk i M 1 _ _ HKK.out).mono ?_
          rintro x w3 ⟨mv, rfl, hr, hb⟩
          have hG3 := HGK.out.below rfl flatT hb
          have hs3 := hG3.tch.size
          obtain ⟨Am, cm, rfl, hcm, hCm⟩ := (Rd.of_R hr).ex
          rw [mkOf_len] at hcm hCm ⊢
          have HG3 := Lib.hid hG3
          have HCM := Lib.hid hCm
          clear hr hb hG3 hCm
          go_wp2_with ((with_reducible refine gate_builtin (b := .append) (xs := #[.tmp 27, .tmp 31]) rfl ?_); at_builtin; refine halt_ ?_)
          change wpList _ _ _ _ _ _
          refine R_append_old Kd.string (w0 := w3) B rfl (.tmp 27) (.tmp 31) 23 9 _ 16 rfl (by kernel_rfl) info_t rfl (by decide) (by omega) (.slice Ak M ck) (mkOf mkT i 0 (l.length + k)) (mkOf mkT i M 1) Am 1 cm (fun _ => True) (fun _ => False) rfl rfl HG3.out.R HCM.out (fun _ _ h => h) (fun _ h => h.elim) (fun _ _ => trivial) (Below.refl _ _) (by omega) (by rw [mkOf_len]; omega) ?_
          intro v1 w4 hR4 _ hg4 hat4 hk4
          have hN4 := HG3.out.step rfl flatT (HMK.out i l hlt Hl.out) (by rw [HMM.out] at hR4; exact hR4) hg4 hat4 hk4
          have HN := Lib.hid hN4
          clear hR4 hg4 hat4 hk4 hN4
          go_wp2
          go_roundw
          case rel => exact ⟨k + 1, by go_num, by omega, HN.out⟩
          case measure => simp [intOf]; omega
        · obtain rfl : k = 12 := by omega
          obtain ⟨kk, hkk⟩ := HM.out i M 60 (by omega) (by omega) (by omega)
          have HKK := Lib.hid hkk
          clear hkk
          go_wp2_with fail
          refine (Pl.escutcheonbook_markTexts.calls kk i M 60 _ _ HKK.out).mono ?_
          rintro x w3 ⟨mv, rfl, hr, hb⟩
          have hG3 := HGK.out.below rfl flatT hb
          have hs3 := hG3.tch.size
          obtain ⟨Am, cm, rfl, hcm, hCm⟩ := (Rd.of_R hr).ex
          rw [mkOf_len] at hcm hCm ⊢
          have HG3 := Lib.hid hG3
          have HCM := Lib.hid hCm
          clear hr hb hG3 hCm
          go_wp2_with ((with_reducible refine gate_builtin (b := .append) (xs := #[.tmp 34, .tmp 38]) rfl ?_); at_builtin; refine halt_ ?_)
          change wpList _ _ _ _ _ _
          refine R_append_old Kd.string (w0 := w3) B rfl (.tmp 34) (.tmp 38) 23 9 _ 16 rfl (by kernel_rfl) info_t rfl (by decide) (by omega) (.slice Ak M ck) (mkOf mkT i 0 (l.length + 12)) (mkOf mkT i M 60) Am 60 cm (fun _ => True) (fun _ => False) rfl rfl HG3.out.R HCM.out (fun _ _ h => h) (fun _ h => h.elim) (fun _ _ => trivial) (Below.refl _ _) (by omega) (by rw [mkOf_len]; omega) ?_
          intro v1 w4 hR4 _ hg4 hat4 hk4
          have hN4 : GrowK mkT Kd.string 9 B i wi u.1 l v1 72 w4 := HG3.out.step rfl flatT (HMK.out i l hlt Hl.out) (by rw [HMM.out] at hR4; exact hR4) hg4 hat4 hk4
          obtain ⟨A4, c4, rfl, hc4, _⟩ := (Rd.of_R hN4.R).ex
          have hs4 := hN4.tch.size
          have hPi := HP.out
          have hKi := HK.out
          rw [← HWI.out] at hPi hKi
          obtain ⟨gs, ms, g1, g2, g3, g4, g5, g6, g7⟩ := hPi.ex
          have hov := R_tch (S := fun k' => u.1.ownBlock = some k') rfl g5 hN4.tch (fun k' a b => (Rd.of_R g5).apart (Rd.of_R hKi.R) (by decide) k' a (by rw [← b]))
          have hst := fun (W' : World) (ov' : Value) (hR' : kv.R 23 W' w.heap.size (fun _ => True) ov' (gs ++ [⟨.slice A4 (mkOf mkT i 0 (l.length + 72)).length c4, rfl⟩])) (hg' : w4.grownBy W' u3.ownBlock) => hPi.step rfl flatT (by decide) HDIS.out HLV.out HU.out Hl.out hN4 (by omega) rfl g1 g2 g3 g4 g5 g6 g7 hR' hg'
          have HST := Lib.hid hst
          have HOV := Lib.hid hov
          have HG1 := Lib.hid g1
          clear hR4 hg4 hat4 hk4 hN4 g1 g2 g3 g4 g5 g6 g7 hst hov hPi hKi
          go_wp2_with ((with_reducible refine gate_builtin (b := .append) (xs := #[.tmp 33, .tmp 40]) rfl ?_); at_builtin; refine halt_ ?_)
          change wpList _ _ _ _ _ _
          refine Kd.R_append kv (w0 := w4) w.heap.size rfl (.tmp 33) (.tmp 40) 29 23 (.slice none 0 0) 24 rfl (by kernel_rfl) info_ot rfl (by decide) (by omega) u3 gs ⟨.slice A4 (mkOf mkT i 0 (l.length + 72)).length c4, rfl⟩ [.slice A4 (mkOf mkT i 0 (l.length + 72)).length c4] (fun _ => True) (fun _ => False) rfl rfl rfl (fun _ h => h.elim) (fun _ _ => trivial) HOV.out (Below.refl _ _) (by omega) (by rw [HG1.out]; omega) ?_
          intro v5 w5 hR5 _ hg5 _
          have HN := Lib.hid (HST.out w5 v5 hR5 hg5)
          clear hR5 hg5
          go_wp2
          go_roundw
          case rel => exact ⟨i + 1, by go_num, by omega, HN.out⟩
          case measure => simp [intOf]; omega
    · obtain rfl : i = ls.length := by omega
      have HP := Lib.hid hP
      clear hP
      go_wp2
      go_ret
      exact ⟨_, rfl, HP.out⟩
end Go.Proofs.YtbfdaclekjgkfaaGreatDoor.Bk

/- The region of markedTexts that draws its order. -/
set_option linter.unusedVariables false
namespace Go.Proofs.YtbfdaclekjgkfaaGreatDoor.Bk
open Go.RowKit Go.Proofs.YtbfdaclekjgkfaaGreatDoorW.PrintWords Go.Proofs.YtbfdaclekjgkfaaGreatDoorW.PrintLast
def ImT (ad : Addr) (n c q M : Nat) (B1 : Option Addr) (d1 : Nat) (w : World) (p1 p2 p4 p5 p6 p7 p8 p9 : Value) (L : Nat → Bool) (a : Act) (W : World) : Prop :=
  ∃ x10 x11 x12 x13 x14 x15 x16 x17 x18 x19 x20 x21 x22 : Value, a = ⟨#[(.slice (some ad) n c), p1, p2, (.int .i64 (q : Int)), p4, p5, p6, p7, p8, p9, x10, x11, x12, x13, x14, x15, x16, x17, x18, x19, x20, x21, x22], []⟩ ∧ (L 0 = true → x10 = .slice (some ad) n c) ∧ (L 1 = true → x11 = .int .i64 (q : Int)) ∧ (L 2 = true → x12 = .pointer (some (ad.add q))) ∧ (L 3 = true → x13 = .slice B1 M d1) ∧ (L 4 = true → x14 = .int .i64 (q : Int)) ∧ (L 5 = true → x15 = .slice (some ad) n c) ∧ (L 6 = true → x16 = .int .i64 (q : Int)) ∧ (L 7 = true → x17 = .pointer (some (ad.add q))) ∧ (L 8 = true → x18 = .slice B1 M d1) ∧ (L 9 = true → x19 = .int .i64 (M : Int)) ∧ (L 10 = true → ∃ Am cm, x20 = .slice Am M cm ∧ M ≤ cm ∧ Kd.C Kd.string W Am M (mkOf mkT q 0 M)) ∧ (L 11 = true → x21 = .bool true) ∧ (L 12 = true → x22 = .bool false) ∧ (Below w.heap.size w W)
set_option maxHeartbeats 1600000 in
set_option maxRecDepth 100000 in
theorem ImT.step (ad : Addr) (n c q M : Nat) (B1 : Option Addr) (d1 : Nat) (w : World) (p1 p2 p4 p5 p6 p7 p8 p9 : Value) (hc : w.cell? (ad.add q) = some (.slice B1 M d1)) (hbl : (ad.add q).block < w.heap.size) (hi : q < n) (hnc : n ≤ c) (hMd : M ≤ d1) (hC : Kd.C Kd.string w B1 M (mkOf mkT q 0 M)) (kk k2 : Nat) (hk : Pl.escutcheonbook_markTexts.f kk (q : Int) 0 (M : Int) = some (mkOf mkT q 0 M)) (hs : Pl.escutcheonbook_SameTexts.f k2 (mkOf mkT q 0 M) (mkOf mkT q 0 M) = some true) {Q : Exit → Act → World → Prop} : ∀ i o L a W, (opsOf Tryz.f52 4)[i]? = some o → L i = false → o.after.all (fun e => !Region.binds .any e || L e.on) = true → ClosedL (opsOf Tryz.f52 4) L → ImT ad n c q M B1 d1 w p1 p2 p4 p5 p6 p7 p8 p9 L a W →
    if Region.wanted o (yielded (opsOf Tryz.f52 4) a.tmps) = true then Oper.wp Tryz.prog o a W (fun a' w' => ImT ad n c q M B1 d1 w p1 p2 p4 p5 p6 p7 p8 p9 (fun j => j == i || L j) a' w') Q else ImT ad n c q M B1 d1 w p1 p2 p4 p5 p6 p7 p8 p9 (fun j => j == i || L j) (a.put o.dst undef) W := by
  intro i o L a W ho hLi haft hcl hI
  obtain ⟨x10, x11, x12, x13, x14, x15, x16, x17, x18, x19, x20, x21, x22, rfl, h0, h1, h2, h3, h4, h5, h6, h7, h8, h9, h10, h11, h12, kb⟩ := hI
  rcases i with _|_|_|_|_|_|_|_|_|_|_|_|_|_
  · obtain rfl : ({ dst := some 10, op := Go.Op.move (Go.Operand.tmp 0), type := 29, pos := "book.go:84", after := #[], guard := none } : Oper) = o := Option.some.inj ho   -- 0
    refine value_ (v := .slice (some ad) n c) (w1 := W) (by rfl) rfl ?_ ?_
    · go_simp; try rfl
    exact ⟨.slice (some ad) n c, x11, x12, x13, x14, x15, x16, x17, x18, x19, x20, x21, x22, rfl, fun _ => rfl, h1, h2, h3, h4, h5, h6, h7, h8, h9, h10, h11, h12, kb⟩
  · obtain rfl : ({ dst := some 11, op := Go.Op.move (Go.Operand.tmp 3), type := 3, pos := "book.go:84", after := #[], guard := none } : Oper) = o := Option.some.inj ho   -- 1
    refine value_ (v := .int .i64 (q : Int)) (w1 := W) (by rfl) rfl ?_ ?_
    · go_simp; try rfl
    exact ⟨x10, .int .i64 (q : Int), x12, x13, x14, x15, x16, x17, x18, x19, x20, x21, x22, rfl, h0, fun _ => rfl, h2, h3, h4, h5, h6, h7, h8, h9, h10, h11, h12, kb⟩
  · obtain rfl : ({ dst := some 12, op := Go.Op.indexAddr 29 (Go.Operand.tmp 10) (Go.Operand.tmp 11), type := 0, pos := "book.go:84", after := #[{ on := 0, ground := Go.Ground.data }, { on := 1, ground := Go.Ground.data }], guard := none } : Oper) = o := Option.some.inj ho   -- 2
    obtain rfl := h0 (dep_ haft 0 rfl)
    obtain rfl := h1 (dep_ haft 1 rfl)
    refine value_ (v := .pointer (some (ad.add q))) (w1 := W) (by rfl) rfl ?_ ?_
    · go_simp; try rfl
    exact ⟨.slice (some ad) n c, .int .i64 (q : Int), .pointer (some (ad.add q)), x13, x14, x15, x16, x17, x18, x19, x20, x21, x22, rfl, fun _ => rfl, fun _ => rfl, fun _ => rfl, h3, h4, h5, h6, h7, h8, h9, h10, h11, h12, kb⟩
  · obtain rfl : ({ dst := some 13, op := Go.Op.load 23 (Go.Operand.tmp 12), type := 23, pos := "book.go:84", after := #[{ on := 2, ground := Go.Ground.data }], guard := none } : Oper) = o := Option.some.inj ho   -- 3
    obtain rfl := h2 (dep_ haft 0 rfl)
    have hc' := (kb.cell (p := ad.add q) hbl).trans hc
    refine value_ (v := .slice B1 M d1) (w1 := W) (by rfl) rfl ?_ ?_
    · go_simp; try rfl
    exact ⟨x10, x11, .pointer (some (ad.add q)), .slice B1 M d1, x14, x15, x16, x17, x18, x19, x20, x21, x22, rfl, h0, h1, fun _ => rfl, fun _ => rfl, h4, h5, h6, h7, h8, h9, h10, h11, h12, kb⟩
  · obtain rfl : ({ dst := some 14, op := Go.Op.move (Go.Operand.tmp 3), type := 3, pos := "book.go:84", after := #[], guard := none } : Oper) = o := Option.some.inj ho   -- 4
    refine value_ (v := .int .i64 (q : Int)) (w1 := W) (by rfl) rfl ?_ ?_
    · go_simp; try rfl
    exact ⟨x10, x11, x12, x13, .int .i64 (q : Int), x15, x16, x17, x18, x19, x20, x21, x22, rfl, h0, h1, h2, h3, fun _ => rfl, h5, h6, h7, h8, h9, h10, h11, h12, kb⟩
  · obtain rfl : ({ dst := some 15, op := Go.Op.move (Go.Operand.tmp 0), type := 29, pos := "book.go:84", after := #[], guard := none } : Oper) = o := Option.some.inj ho   -- 5
    refine value_ (v := .slice (some ad) n c) (w1 := W) (by rfl) rfl ?_ ?_
    · go_simp; try rfl
    exact ⟨x10, x11, x12, x13, x14, .slice (some ad) n c, x16, x17, x18, x19, x20, x21, x22, rfl, h0, h1, h2, h3, h4, fun _ => rfl, h6, h7, h8, h9, h10, h11, h12, kb⟩
  · obtain rfl : ({ dst := some 16, op := Go.Op.move (Go.Operand.tmp 3), type := 3, pos := "book.go:84", after := #[], guard := none } : Oper) = o := Option.some.inj ho   -- 6
    refine value_ (v := .int .i64 (q : Int)) (w1 := W) (by rfl) rfl ?_ ?_
    · go_simp; try rfl
    exact ⟨x10, x11, x12, x13, x14, x15, .int .i64 (q : Int), x17, x18, x19, x20, x21, x22, rfl, h0, h1, h2, h3, h4, h5, fun _ => rfl, h7, h8, h9, h10, h11, h12, kb⟩
  · obtain rfl : ({ dst := some 17, op := Go.Op.indexAddr 29 (Go.Operand.tmp 15) (Go.Operand.tmp 16), type := 0, pos := "book.go:84", after := #[{ on := 5, ground := Go.Ground.data }, { on := 6, ground := Go.Ground.data }], guard := none } : Oper) = o := Option.some.inj ho   -- 7
    obtain rfl := h5 (dep_ haft 0 rfl)
    obtain rfl := h6 (dep_ haft 1 rfl)
    refine value_ (v := .pointer (some (ad.add q))) (w1 := W) (by rfl) rfl ?_ ?_
    · go_simp; try rfl
    exact ⟨x10, x11, x12, x13, x14, .slice (some ad) n c, .int .i64 (q : Int), .pointer (some (ad.add q)), x18, x19, x20, x21, x22, rfl, h0, h1, h2, h3, h4, fun _ => rfl, fun _ => rfl, fun _ => rfl, h8, h9, h10, h11, h12, kb⟩
  · obtain rfl : ({ dst := some 18, op := Go.Op.load 23 (Go.Operand.tmp 17), type := 23, pos := "book.go:84", after := #[{ on := 7, ground := Go.Ground.data }], guard := none } : Oper) = o := Option.some.inj ho   -- 8
    obtain rfl := h7 (dep_ haft 0 rfl)
    have hc' := (kb.cell (p := ad.add q) hbl).trans hc
    refine value_ (v := .slice B1 M d1) (w1 := W) (by rfl) rfl ?_ ?_
    · go_simp; try rfl
    exact ⟨x10, x11, x12, x13, x14, x15, x16, .pointer (some (ad.add q)), .slice B1 M d1, x19, x20, x21, x22, rfl, h0, h1, h2, h3, h4, h5, h6, fun _ => rfl, fun _ => rfl, h9, h10, h11, h12, kb⟩
  · obtain rfl : ({ dst := some 19, op := Go.Op.call { callee := Go.Callee.builtin Go.Builtin.len, args := #[Go.Operand.tmp 18], argTypes := #[23] }, type := 3, pos := "book.go:84", after := #[{ on := 8, ground := Go.Ground.data }], guard := none } : Oper) = o := Option.some.inj ho   -- 9
    obtain rfl := h8 (dep_ haft 0 rfl)
    refine value_ (v := .int .i64 (M : Int)) (w1 := W) (by rfl) rfl ?_ ?_
    · go_simp; try rfl
    exact ⟨x10, x11, x12, x13, x14, x15, x16, x17, .slice B1 M d1, .int .i64 (M : Int), x20, x21, x22, rfl, h0, h1, h2, h3, h4, h5, h6, h7, fun _ => rfl, fun _ => rfl, h10, h11, h12, kb⟩
  · obtain rfl : ({ dst := some 20, op := Go.Op.call { callee := Go.Callee.value (Go.Operand.func 72), args := #[Go.Operand.tmp 14, Go.Operand.const (Go.Value.int Go.IntKind.i64 0), Go.Operand.tmp 19], argTypes := #[3, 3, 3] }, type := 23, pos := "book.go:84", after := #[{ on := 4, ground := Go.Ground.data }, { on := 9, ground := Go.Ground.data }], guard := none } : Oper) = o := Option.some.inj ho   -- 10
    obtain rfl := h4 (dep_ haft 0 rfl)
    obtain rfl := h9 (dep_ haft 1 rfl)
    refine goes_ Tryz.func72 (by kernel_rfl) rfl #[.int .i64 (q : Int), .int .i64 0, .int .i64 (M : Int)] (by rfl) rfl rfl (by (try simp only [List.map_toArray, List.map_cons, List.map_nil]); rfl) ?_
    refine Calls.mono (Pl.escutcheonbook_markTexts.calls kk (q : Int) 0 (M : Int) _ W hk) ?_
    rintro e W1 ⟨mv, rfl, hr, hb1⟩
    refine ⟨_, rfl, ?_⟩
    obtain ⟨Am, cm, rfl, hcm, hCm⟩ := (Rd.of_R hr).ex
    rw [mkOf_len] at hcm hCm ⊢
    exact ⟨x10, x11, x12, x13, .int .i64 (q : Int), x15, x16, x17, x18, .int .i64 (M : Int), .slice Am M cm, x21, x22, rfl, h0, h1, h2, h3, fun _ => rfl, h5, h6, h7, h8, fun _ => rfl, fun _ => ⟨Am, cm, rfl, hcm, hCm⟩, h11, h12, kb.trans (hb1.mono kb.size)⟩
  · obtain rfl : ({ dst := some 21, op := Go.Op.call { callee := Go.Callee.value (Go.Operand.func 30), args := #[Go.Operand.tmp 13, Go.Operand.tmp 20], argTypes := #[23, 23] }, type := 4, pos := "book.go:84", after := #[{ on := 3, ground := Go.Ground.data }, { on := 10, ground := Go.Ground.data }, { on := 10, ground := Go.Ground.chain }], guard := none } : Oper) = o := Option.some.inj ho   -- 11
    obtain rfl := h3 (dep_ haft 0 rfl)
    obtain ⟨Am, cm, rfl, hcm, hCm⟩ := h10 (dep_ haft 1 rfl)
    have hcl : (mkOf mkT q 0 M).length = M := mkOf_len _ _ _ _
    have hC' := Kd.C_below hC kb
    have hlaw := Pl.escutcheonbook_SameTexts.calls k2 B1 d1 (mkOf mkT q 0 M) Am cm (mkOf mkT q 0 M) true W (by rw [hcl]; exact hC') (by rw [hcl]; exact hMd) (by rw [hcl]; exact hCm) (by rw [hcl]; exact hcm) hs
    rw [hcl] at hlaw
    refine goes_ Tryz.func30 (by kernel_rfl) rfl #[.slice B1 M d1, .slice Am M cm] (by rfl) rfl rfl (by (try simp only [List.map_toArray, List.map_cons, List.map_nil]); rfl) ?_
    refine Calls.mono (hlaw) ?_
    rintro e W1 ⟨rfl, hd⟩
    refine ⟨_, rfl, ?_⟩
    exact ⟨x10, x11, x12, .slice B1 M d1, x14, x15, x16, x17, x18, x19, .slice Am M cm, .bool true, x22, rfl, h0, h1, h2, fun _ => rfl, h4, h5, h6, h7, h8, h9, fun _ => ⟨Am, cm, rfl, hcm, Kd.C_below hCm hd.below⟩, fun _ => rfl, h12, kb.trans (hd.below.mono kb.size)⟩
  · obtain rfl : ({ dst := some 22, op := Go.Op.unOp Go.UnOp.not 4 (Go.Operand.tmp 21), type := 4, pos := "book.go:84", after := #[{ on := 11, ground := Go.Ground.data }], guard := none } : Oper) = o := Option.some.inj ho   -- 12
    obtain rfl := h11 (dep_ haft 0 rfl)
    refine value_ (v := .bool false) (w1 := W) (by rfl) rfl ?_ ?_
    · go_simp; try rfl
    exact ⟨x10, x11, x12, x13, x14, x15, x16, x17, x18, x19, x20, .bool true, .bool false, rfl, h0, h1, h2, h3, h4, h5, h6, h7, h8, h9, h10, fun _ => rfl, fun _ => rfl, kb⟩
  · cases ho
end Go.Proofs.YtbfdaclekjgkfaaGreatDoor.Bk

/- The region of the book's Texts that draws its order: a copy is kept. -/
set_option linter.unusedVariables false
namespace Go.Proofs.YtbfdaclekjgkfaaGreatDoor.Bk
open Go.RowKit Go.Proofs.YtbfdaclekjgkfaaGreatDoorW.PrintWords Go.Proofs.YtbfdaclekjgkfaaGreatDoorW.PrintLast
section
variable {ops : Array Oper} {L : Nat → Bool}
theorem no_f (hcl : ClosedL ops L) (j : Nat) {o : Oper} (ho : ops[j]? = some o) (k : Nat) {i : Nat} (hk : (o.after[k]?).map (fun e => (Region.binds .any e, e.on)) = some (true, i)) (hLi : L i = false) : L j = false := by
  cases h : L j with
  | false => rfl
  | true =>
    have := dep_ (hcl j o ho h) k hk
    rw [hLi] at this
    cases this
theorem no_ (hcl : ClosedL ops L) (j : Nat) {o : Oper} (ho : ops[j]? = some o) (k : Nat) {i : Nat} (hk : (o.after[k]?).map (fun e => (Region.binds .any e, e.on)) = some (true, i)) (hLi : L i = false) : ¬ L j = true := by
  rw [no_f hcl j ho k hk hLi]
  decide
end
theorem flat_ : Flat Kd.string := flatT
theorem e_ : Kd.string.E = [] := rfl
def IxT (g : Nat) (A : Option Addr) (c : Nat) (l : List ByteArray) (uv : Value) (us : List OneV) (B tb : Nat) (cur : Array Value) (w : World) (p2 p3 p4 p5 p6 p7 p8 p9 p10 p11 p12 p13 p14 p15 p16 p17 p18 p19 : Value) (L : Nat → Bool) (a : Act) (W : World) : Prop :=
  ∃ x20 x21 x22 x23 x24 x25 x26 x27 x28 x29 x30 : Value, a = ⟨#[(.pointer (some ⟨g, 0, none⟩)), (.slice A l.length c), p2, p3, p4, p5, p6, p7, p8, p9, p10, p11, p12, p13, p14, p15, p16, p17, p18, p19, x20, x21, x22, x23, x24, x25, x26, x27, x28, x29, x30], []⟩ ∧ (L 0 = true → x20 = .pointer (some ⟨g, 0, none⟩)) ∧ (L 1 = true → x21 = .pointer (some ⟨g, 0, none⟩)) ∧ (L 2 = true → x22 = .pointer (some ⟨g, 0, none⟩)) ∧ (L 3 = true → x23 = .pointer (some ⟨g, 1, none⟩)) ∧ (L 4 = true → x24 = uv) ∧ (L 5 = true → x25 = .slice A l.length c) ∧ (L 6 = true → Kd.string.R 9 W w.heap.size (fun _ => True) x26 l) ∧ (L 7 = true → ∃ b, x27 = .slice (some ⟨b, 0, none⟩) 1 1 ∧ w.heap.size ≤ b ∧ W.heap[b]? = some (.cells #[x26] 23 (0, 0))) ∧ (L 8 = true → ∃ hy : x26.oneCell' = true, kv.R 23 W B (fun _ => True) x28 (us ++ [⟨x26, hy⟩]) ∧ (x28.ownBlock = uv.ownBlock ∨ ∃ b, x28.ownBlock = some b ∧ w.heap.size ≤ b)) ∧ (L 9 = true → x29 = .pointer (some ⟨g, 0, none⟩)) ∧ (L 10 = true → x30 = .pointer (some ⟨g, 1, none⟩)) ∧ (L 11 = true → W.heap[g]? = some (.cells (cur.setIfInBounds 1 x28) tb (0, 0))) ∧ (L 11 = false → W.heap[g]? = some (.cells cur tb (0, 0))) ∧ (L 8 = false → kv.R 23 W B (fun _ => True) uv us) ∧ (Tch (fun k => k = g ∨ uv.ownBlock = some k) w W)
set_option maxHeartbeats 1600000 in
set_option maxRecDepth 100000 in
theorem IxT.step (g : Nat) (A : Option Addr) (c : Nat) (l : List ByteArray) (uv : Value) (us : List OneV) (B tb : Nat) (cur : Array Value) (w : World) (p2 p3 p4 p5 p6 p7 p8 p9 p10 p11 p12 p13 p14 p15 p16 p17 p18 p19 : Value) (hgl : g < w.heap.size) (hcur : cur[1]? = some uv) (hug : uv.ownBlock ≠ some g) (hul : ∀ k, uv.ownBlock = some k → k < w.heap.size) (hB : B ≤ w.heap.size) (hC : Kd.C Kd.string w A l.length l) (hlc : l.length ≤ c) (hA : ∀ a, A = some a → a.block < w.heap.size ∧ ¬ (a.block = g ∨ uv.ownBlock = some a.block)) (hcopy : Pl.escutcheonbook_copyTexts.f l = some l) (hul2 : us.length ≤ 250) (htb : 23 ≠ tb) {Q : Exit → Act → World → Prop} : ∀ i o L a W, (opsOf Tryz.f10 2)[i]? = some o → L i = false → o.after.all (fun e => !Region.binds .any e || L e.on) = true → ClosedL (opsOf Tryz.f10 2) L → IxT g A c l uv us B tb cur w p2 p3 p4 p5 p6 p7 p8 p9 p10 p11 p12 p13 p14 p15 p16 p17 p18 p19 L a W →
    if Region.wanted o (yielded (opsOf Tryz.f10 2) a.tmps) = true then Oper.wp Tryz.prog o a W (fun a' w' => IxT g A c l uv us B tb cur w p2 p3 p4 p5 p6 p7 p8 p9 p10 p11 p12 p13 p14 p15 p16 p17 p18 p19 (fun j => j == i || L j) a' w') Q else IxT g A c l uv us B tb cur w p2 p3 p4 p5 p6 p7 p8 p9 p10 p11 p12 p13 p14 p15 p16 p17 p18 p19 (fun j => j == i || L j) (a.put o.dst undef) W := by
  intro i o L a W ho hLi haft hcl hI
  obtain ⟨x20, x21, x22, x23, x24, x25, x26, x27, x28, x29, x30, rfl, h0, h1, h2, h3, h4, h5, h6, h7, h8, h9, h10, h11, kg, ko, kt⟩ := hI
  rcases i with _|_|_|_|_|_|_|_|_|_|_|_|_
  · obtain rfl : ({ dst := some 20, op := Go.Op.move (Go.Operand.tmp 0), type := 28, pos := "book.go:36", after := #[], guard := none } : Oper) = o := Option.some.inj ho   -- 0
    refine value_ (v := .pointer (some ⟨g, 0, none⟩)) (w1 := W) (by rfl) rfl ?_ ?_
    · go_simp; try rfl
    exact ⟨.pointer (some ⟨g, 0, none⟩), x21, x22, x23, x24, x25, x26, x27, x28, x29, x30, rfl, fun _ => rfl, h1, h2, h3, h4, h5, h6, h7, h8, h9, h10, h11, kg, ko, kt⟩
  · obtain rfl : ({ dst := some 21, op := Go.Op.move (Go.Operand.tmp 0), type := 28, pos := "book.go:36", after := #[], guard := none } : Oper) = o := Option.some.inj ho   -- 1
    refine value_ (v := .pointer (some ⟨g, 0, none⟩)) (w1 := W) (by rfl) rfl ?_ ?_
    · go_simp; try rfl
    exact ⟨x20, .pointer (some ⟨g, 0, none⟩), x22, x23, x24, x25, x26, x27, x28, x29, x30, rfl, h0, fun _ => rfl, h2, h3, h4, h5, h6, h7, h8, h9, h10, h11, kg, ko, kt⟩
  · obtain rfl : ({ dst := some 22, op := Go.Op.nilCheck (Go.Operand.tmp 21), type := 0, pos := "book.go:36", after := #[{ on := 1, ground := Go.Ground.data }], guard := none } : Oper) = o := Option.some.inj ho   -- 2
    obtain rfl := h1 (dep_ haft 0 rfl)
    refine value_ (v := .pointer (some ⟨g, 0, none⟩)) (w1 := W) (by rfl) rfl ?_ ?_
    · go_simp; try rfl
    exact ⟨x20, .pointer (some ⟨g, 0, none⟩), .pointer (some ⟨g, 0, none⟩), x23, x24, x25, x26, x27, x28, x29, x30, rfl, h0, fun _ => rfl, fun _ => rfl, h3, h4, h5, h6, h7, h8, h9, h10, h11, kg, ko, kt⟩
  · obtain rfl : ({ dst := some 23, op := Go.Op.fieldAddr 37 (Go.Operand.tmp 22) 1, type := 0, pos := "book.go:36", after := #[{ on := 2, ground := Go.Ground.data }], guard := none } : Oper) = o := Option.some.inj ho   -- 3
    obtain rfl := h2 (dep_ haft 0 rfl)
    refine value_ (v := .pointer (some ⟨g, 1, none⟩)) (w1 := W) (by rfl) rfl ?_ ?_
    · go_simp; try rfl
    exact ⟨x20, x21, .pointer (some ⟨g, 0, none⟩), .pointer (some ⟨g, 1, none⟩), x24, x25, x26, x27, x28, x29, x30, rfl, h0, h1, fun _ => rfl, fun _ => rfl, h4, h5, h6, h7, h8, h9, h10, h11, kg, ko, kt⟩
  · obtain rfl : ({ dst := some 24, op := Go.Op.load 29 (Go.Operand.tmp 23), type := 29, pos := "book.go:36", after := #[{ on := 3, ground := Go.Ground.data }], guard := none } : Oper) = o := Option.some.inj ho   -- 4
    obtain rfl := h3 (dep_ haft 0 rfl)
    have hb := kg (no_f hcl 11 (by rfl) 7 rfl hLi)
    have hc' : W.cell? ⟨g, 1, none⟩ = some uv := (blk_cell hb 1).trans hcur
    refine value_ (v := uv) (w1 := W) (by rfl) rfl ?_ ?_
    · go_simp; try rfl
    exact ⟨x20, x21, x22, .pointer (some ⟨g, 1, none⟩), uv, x25, x26, x27, x28, x29, x30, rfl, h0, h1, h2, fun _ => rfl, fun _ => rfl, h5, h6, h7, h8, h9, h10, h11, kg, ko, kt⟩
  · obtain rfl : ({ dst := some 25, op := Go.Op.move (Go.Operand.tmp 1), type := 23, pos := "book.go:36", after := #[], guard := none } : Oper) = o := Option.some.inj ho   -- 5
    refine value_ (v := .slice A l.length c) (w1 := W) (by rfl) rfl ?_ ?_
    · go_simp; try rfl
    exact ⟨x20, x21, x22, x23, x24, .slice A l.length c, x26, x27, x28, x29, x30, rfl, h0, h1, h2, h3, h4, fun _ => rfl, h6, h7, h8, h9, h10, h11, kg, ko, kt⟩
  · obtain rfl : ({ dst := some 26, op := Go.Op.call { callee := Go.Callee.value (Go.Operand.func 18), args := #[Go.Operand.tmp 25], argTypes := #[23] }, type := 23, pos := "book.go:36", after := #[{ on := 5, ground := Go.Ground.data }], guard := none } : Oper) = o := Option.some.inj ho   -- 6
    obtain rfl := h5 (dep_ haft 0 rfl)
    have hC' := C_tch flat_ hC kt hA
    refine goes_ Tryz.func18 (by kernel_rfl) rfl #[.slice A l.length c] (by rfl) rfl rfl (by (try simp only [List.map_toArray, List.map_cons, List.map_nil]); rfl) ?_
    refine Calls.mono (Pl.escutcheonbook_copyTexts.calls A c l l W hC' hlc hcopy) ?_
    rintro e W1 ⟨mv, rfl, hr, hb1⟩
    refine ⟨_, rfl, ?_⟩
    exact ⟨x20, x21, x22, x23, x24, .slice A l.length c, mv, x27, x28, x29, x30, rfl, h0, h1, h2, h3, h4, fun _ => rfl, fun _ => Kd.R_lower hr kt.size, fun hL => absurd hL (no_ hcl 7 (by rfl) 0 rfl hLi), fun hL => absurd hL (no_ hcl 8 (by rfl) 2 rfl hLi), h9, h10, fun hL => absurd hL (no_ hcl 11 (by rfl) 9 rfl hLi), fun hL => blk_below (kg hL) hb1, fun hL => Kd.R_below (ko hL) hb1, kt.trans (Tch.of_below (fun _ => False) hb1) (fun _ _ x => x.elim)⟩
  · obtain rfl : ({ dst := some 27, op := Go.Op.buildSlice 29 1 #[(0, Go.Operand.tmp 26)], type := 29, pos := "book.go:36", after := #[{ on := 6, ground := Go.Ground.data }], guard := none } : Oper) = o := Option.some.inj ho   -- 7
    have r6 := h6 (dep_ haft 0 rfl)
    obtain ⟨A6, c6, rfl, hc6, hC6⟩ := Kd.R_reads r6
    have al := (Below.refl W.heap.size W).alloc (Nat.le_refl _) (.cells #[.slice A6 l.length c6] 23)
    refine value_ (v := .slice (some ⟨W.heap.size, 0, none⟩) 1 1) (w1 := (W.alloc (.cells #[.slice A6 l.length c6] 23))) (by rfl) rfl ?_ ?_
    · go_simp; try rfl
    exact ⟨x20, x21, x22, x23, x24, x25, .slice A6 l.length c6, .slice (some ⟨W.heap.size, 0, none⟩) 1 1, x28, x29, x30, rfl, h0, h1, h2, h3, h4, h5, fun _ => Kd.R_below r6 al, fun _ => ⟨_, rfl, kt.size, blk_new W _⟩, fun hL => absurd hL (no_ hcl 8 (by rfl) 1 rfl hLi), h9, h10, fun hL => absurd hL (no_ hcl 11 (by rfl) 10 rfl hLi), fun hL => blk_below (kg hL) al, fun hL => Kd.R_below (ko hL) al, kt.trans (Tch.of_below (fun _ => False) al) (fun _ _ x => x.elim)⟩
  · obtain rfl : ({ dst := some 28, op := Go.Op.call { callee := Go.Callee.builtin Go.Builtin.append, args := #[Go.Operand.tmp 24, Go.Operand.tmp 27], argTypes := #[29, 29] }, type := 29, pos := "book.go:36", after := #[{ on := 4, ground := Go.Ground.data }, { on := 7, ground := Go.Ground.data }, { on := 6, ground := Go.Ground.chain }], guard := none } : Oper) = o := Option.some.inj ho   -- 8
    obtain e4 := h4 (dep_ haft 0 rfl)
    obtain ⟨b, rfl, hbw, hbb⟩ := h7 (dep_ haft 1 rfl)
    obtain rfl := e4.symm
    have r6 := h6 (dep_ haft 2 rfl)
    obtain ⟨A6, c6, rfl, hc6, hC6⟩ := Kd.R_reads r6
    have ro := ko hLi
    obtain ⟨v1, w1, hr1, h1R, _, h1g, hat⟩ := run_R_append (P := Tryz.prog) kv (w0 := W) B 29 29 23 (.slice none 0 0) 24 (by kernel_rfl) info_ot rfl (by decide) (by omega) uv us [⟨.slice A6 l.length c6, rfl⟩] (some ⟨b, 0, none⟩) 1 1 (fun _ => True) (fun _ => False) ro (one_row (y := ⟨.slice A6 l.length c6, rfl⟩) hbb) (fun _ _ h => h) (fun _ h => h.elim) (fun _ _ => trivial) (Below.refl _ _) (Nat.le_trans hB kt.size) (by omega)
    have tg := Tch.of_grown h1g
    refine value_ (v := v1) (w1 := w1) (by rfl) rfl ?_ ?_
    · exact exec_append rfl rfl rfl hr1
    exact ⟨x20, x21, x22, x23, uv, x25, .slice A6 l.length c6, .slice (some ⟨b, 0, none⟩) 1 1, v1, x29, x30, rfl, h0, h1, h2, h3, fun _ => rfl, h5, fun _ => R_tch e_ r6 tg (fun k a b => by have := Kd.R_base r6 k a; have := hul k b; omega), fun _ => ⟨b, rfl, hbw, blk_grown hbb h1g (fun x => by have := hul b x.symm; omega)⟩, fun _ => ⟨rfl, h1R, hat.imp id (fun ⟨b, hb, hle⟩ => ⟨b, hb, Nat.le_trans kt.size hle⟩)⟩, h9, h10, fun hL => absurd hL (no_ hcl 11 (by rfl) 1 rfl hLi), fun hL => blk_grown (kg hL) h1g (fun x => hug x.symm), fun h => Bool.noConfusion h, kt.trans tg (fun k _ x => .inr x)⟩
  · obtain rfl : ({ dst := some 29, op := Go.Op.nilCheck (Go.Operand.tmp 20), type := 0, pos := "book.go:36", after := #[{ on := 0, ground := Go.Ground.data }, { on := 0, ground := Go.Ground.phase }, { on := 1, ground := Go.Ground.phase }, { on := 2, ground := Go.Ground.phase }, { on := 3, ground := Go.Ground.phase }, { on := 4, ground := Go.Ground.phase }, { on := 5, ground := Go.Ground.phase }, { on := 6, ground := Go.Ground.phase }, { on := 7, ground := Go.Ground.phase }, { on := 8, ground := Go.Ground.phase }], guard := none } : Oper) = o := Option.some.inj ho   -- 9
    obtain rfl := h0 (dep_ haft 0 rfl)
    refine value_ (v := .pointer (some ⟨g, 0, none⟩)) (w1 := W) (by rfl) rfl ?_ ?_
    · go_simp; try rfl
    exact ⟨.pointer (some ⟨g, 0, none⟩), x21, x22, x23, x24, x25, x26, x27, x28, .pointer (some ⟨g, 0, none⟩), x30, rfl, fun _ => rfl, h1, h2, h3, h4, h5, h6, h7, h8, fun _ => rfl, h10, h11, kg, ko, kt⟩
  · obtain rfl : ({ dst := some 30, op := Go.Op.fieldAddr 37 (Go.Operand.tmp 29) 1, type := 0, pos := "book.go:36", after := #[{ on := 9, ground := Go.Ground.data }, { on := 0, ground := Go.Ground.phase }, { on := 1, ground := Go.Ground.phase }, { on := 2, ground := Go.Ground.phase }, { on := 3, ground := Go.Ground.phase }, { on := 4, ground := Go.Ground.phase }, { on := 5, ground := Go.Ground.phase }, { on := 6, ground := Go.Ground.phase }, { on := 7, ground := Go.Ground.phase }, { on := 8, ground := Go.Ground.phase }], guard := none } : Oper) = o := Option.some.inj ho   -- 10
    obtain rfl := h9 (dep_ haft 0 rfl)
    refine value_ (v := .pointer (some ⟨g, 1, none⟩)) (w1 := W) (by rfl) rfl ?_ ?_
    · go_simp; try rfl
    exact ⟨x20, x21, x22, x23, x24, x25, x26, x27, x28, .pointer (some ⟨g, 0, none⟩), .pointer (some ⟨g, 1, none⟩), rfl, h0, h1, h2, h3, h4, h5, h6, h7, h8, fun _ => rfl, fun _ => rfl, h11, kg, ko, kt⟩
  · obtain rfl : ({ dst := none, op := Go.Op.store 29 (Go.Operand.tmp 30) (Go.Operand.tmp 28), type := 0, pos := "book.go:36", after := #[{ on := 10, ground := Go.Ground.data }, { on := 8, ground := Go.Ground.data }, { on := 8, ground := Go.Ground.chain }, { on := 0, ground := Go.Ground.phase }, { on := 1, ground := Go.Ground.phase }, { on := 2, ground := Go.Ground.phase }, { on := 3, ground := Go.Ground.phase }, { on := 4, ground := Go.Ground.phase }, { on := 5, ground := Go.Ground.phase }, { on := 6, ground := Go.Ground.phase }, { on := 7, ground := Go.Ground.phase }, { on := 8, ground := Go.Ground.phase }], guard := none } : Oper) = o := Option.some.inj ho   -- 11
    obtain rfl := h10 (dep_ haft 0 rfl)
    obtain ⟨hy, r8, hat8⟩ := h8 (dep_ haft 1 rfl)
    have r6 := h6 (dep_ haft 9 rfl)
    obtain ⟨A6, c6, hx6, hc6, hC6⟩ := Kd.R_reads r6
    have hb := kg hLi
    have hc' : W.cell? ⟨g, 1, none⟩ = some uv := (blk_cell hb 1).trans hcur
    have hf' : W.frozen? ⟨g, 1, none⟩ = false := blk_frozen hb 1
    obtain ⟨A8, c8, rfl, _⟩ := Kd.R_reads r8
    refine skip_ (w1 := (W.setCell ⟨g, 1, none⟩ (.slice A8 (us ++ [(⟨x26, hy⟩ : OneV)]).length c8))) (by rfl) rfl ?_ ?_
    · go_simp
    exact ⟨x20, x21, x22, x23, x24, x25, x26, x27, .slice A8 (us ++ [(⟨x26, hy⟩ : OneV)]).length c8, x29, .pointer (some ⟨g, 1, none⟩), rfl, h0, h1, h2, h3, h4, h5, fun _ => R_tch e_ r6 (Tch.set W _ _) (fun k a b => by have := Kd.R_base r6 k a; subst b; exact absurd hgl (by omega)), fun hL => (h7 hL).imp fun b hb7 => ⟨hb7.1, hb7.2.1, (Below.heap_setCell _ _ _ _ (by have := hb7.2.1; show b ≠ g; omega)).trans hb7.2.2⟩, fun _ => ⟨hy, R_tch rfl r8 (Tch.set W _ _) (R_off r8 hb htb), hat8⟩, h9, fun _ => rfl, fun _ => blk_set hb 1 _, fun h => Bool.noConfusion h, fun hL => absurd (dep_ haft 1 rfl : L 8 = true) (fun hh => Bool.noConfusion (hh.symm.trans (show L 8 = false from hL))), kt.trans (Tch.set W _ _) (fun k _ x => .inl x)⟩
  · cases ho
end Go.Proofs.YtbfdaclekjgkfaaGreatDoor.Bk

/- Are the lists of texts the marks? -/
set_option linter.unusedVariables false
namespace Go.Proofs.YtbfdaclekjgkfaaGreatDoor.Bk
open Go.RowKit Go.Proofs.YtbfdaclekjgkfaaGreatDoorW.PrintWords Go.Proofs.YtbfdaclekjgkfaaGreatDoorW.PrintLast

set_option maxHeartbeats 3200000 in
set_option maxRecDepth 100000 in
theorem markedTexts_any (N : Nat) (v : Value) (vs : List OneV) (ls : List (List ByteArray)) (w : World)
    (h1 : Has Kd.string 9 23 w v vs ls) (hn : ls.length ≤ 250) (hN : Small N ls) (hNN : N ≤ 20000) (hm : Marked mkT ls ls.length)
    (hmk : ∀ i a n : Nat, i ≤ 250 → a ≤ 20000 → n ≤ 20000 → ∃ k, Pl.escutcheonbook_markTexts.f k (i : Int) (a : Int) (n : Int) = some (mkOf mkT i a n))
    (hsame : ∀ l ∈ ls, ∃ k, Pl.escutcheonbook_SameTexts.f k l l = some true) :
    Calls Tryz.prog 52 #[v] w fun e w' => e = .returned (.bool true) ∧ Below w.heap.size w w' := by
  obtain ⟨A1, c1, rfl, hc1⟩ := h1.form
  have HM := Lib.hid hmk
  have HMK := Lib.hid hm
  have HS := Lib.hid hN
  have HSA := Lib.hid hsame
  have H1 := Lib.hid h1
  clear hmk hm hN hsame h1
  go_enter Tryz.func52, Tryz.ntmps52
  go_wp2
  go_loopw [3] (fun i W => ∃ k : Nat, i = .int .i64 k ∧ k ≤ ls.length ∧ Below w.heap.size w W) (fun i _ => ls.length - (intOf i).toNat)
  case atStart => exact ⟨0, rfl, Nat.zero_le _, Below.refl _ _⟩
  case round =>
    obtain ⟨i, rfl, hi, hB⟩ := hrel
    by_cases hlt : i < ls.length
    · obtain ⟨l, hl⟩ := lt_some hlt
      have hll : l.length ≤ N := HS.out l (List.mem_of_getElem? hl)
      have hml := HMK.out i l hlt hl
      have hH := H1.out.below flatT hB
      obtain ⟨ad, B1, d1, rfl, q1, e1, C1⟩ := hH.at i l hl
      obtain ⟨kk, hkk⟩ := HM.out i 0 l.length (by omega) (by omega) (by omega)
      obtain ⟨k2, hk2⟩ := HSA.out l (List.mem_of_getElem? hl)
      rw [hml] at C1 hk2
      rw [mkOf_len] at C1
      have HL := Lib.hid (And.intro q1 (And.intro C1 (And.intro hkk hk2)))
      have HB := Lib.hid hB
      have hbl : (ad.add i).block < wr.heap.size := World.block_lt_of_cell? wr _ q1
      clear hml hH q1 C1 hkk hk2 hl hB
      obtain ⟨M, hM⟩ : ∃ M, M = l.length := ⟨_, rfl⟩
      rw [← hM] at HL hll e1
      clear hM
      go_wp2_with fail
      refine wp_region_inv2 (by kernel_rfl) (by kernel_rfl) (ImT ad ls.length c1 i M B1 d1 wr undef u2 (.int .i64 (i : Int)) (.slice (some ad) ls.length c1) (.int .i64 (ls.length : Int)) (.bool true) u8 u9) ?_ (ImT.step ad ls.length c1 i M B1 d1 wr undef u2 (.int .i64 (i : Int)) (.slice (some ad) ls.length c1) (.int .i64 (ls.length : Int)) (.bool true) u8 u9 HL.out.1 hbl hlt hc1 e1 HL.out.2.1 kk k2 HL.out.2.2.1 HL.out.2.2.2) ?_
      · have no : ∀ {p : Prop}, false = true → p := fun h => Bool.noConfusion h
        exact ⟨_, _, _, _, _, _, _, _, _, _, _, _, _, rfl, no, no, no, no, no, no, no, no, no, no, no, no, no, (Below.refl _ _).drew⟩
      rintro L a' W hall ⟨x10, x11, x12, x13, x14, x15, x16, x17, x18, x19, x20, x21, x22, rfl, h0, h1, h2, h3, h4, h5, h6, h7, h8, h9, h10, h11, h12, kb⟩
      obtain rfl := h12 (hall 12 (by decide))
      have HK := Lib.hid (HB.out.trans (kb.mono HB.out.size))
      clear h0 h1 h2 h3 h4 h5 h6 h7 h8 h9 h10 h11 h12 kb hall
      show Exit.then _ _ .normal _ _
      go_wp2
      go_roundw
      case rel => exact ⟨i + 1, by go_num, by omega, HK.out⟩
      case measure => simp [intOf]; omega
    · have HB := Lib.hid hB
      clear hB
      go_wp2
      go_ret
      exact ⟨rfl, HB.out⟩
end Go.Proofs.YtbfdaclekjgkfaaGreatDoor.Bk

/- One more list of texts in the book. -/
set_option linter.unusedVariables false
namespace Go.Proofs.YtbfdaclekjgkfaaGreatDoor.Bk
open Go.RowKit Go.Proofs.YtbfdaclekjgkfaaGreatDoorW.PrintWords Go.Proofs.YtbfdaclekjgkfaaGreatDoorW.PrintLast

theorem texts_hyps {B g : Nat} {cur : Array Value} {u : Value} {us : List OneV} {A : Option Addr} {c : Nat} {l : List ByteArray} {w : World}
    (hg : w.heap[g]? = some (.cells cur 37 (0, 0))) (hp : kv.R 23 w B (fun _ => True) u us) (hx : Kd.R Kd.string 9 w B (fun _ => True) (.slice A l.length c) l) :
    g < w.heap.size ∧ u.ownBlock ≠ some g ∧ (∀ k, u.ownBlock = some k → k < w.heap.size) ∧ Kd.C Kd.string w A l.length l ∧ l.length ≤ c ∧ (∀ a, A = some a → a.block < w.heap.size ∧ ¬ (a.block = g ∨ u.ownBlock = some a.block)) := by
  have ru := Rd.of_R hp
  have rx := Rd.of_R hx
  obtain ⟨h1, h2, h3⟩ := Kd.R_reads' hx
  refine ⟨blk_lt hg, fun hk => R_off hp hg (by decide) g hk rfl, ru.lt, h3, h2, ?_⟩
  rintro a rfl
  refine ⟨rx.lt _ rfl, ?_⟩
  rintro (h | h)
  · exact R_off hx hg (by decide) a.block rfl h
  · exact rx.apart ru (by decide) a.block rfl h

set_option maxHeartbeats 3200000 in
set_option maxRecDepth 100000 in
theorem Texts_any (B g : Nat) (cur : Array Value) (v u : Value) (vs us : List OneV) (ls : List (List ByteArray)) (A : Option Addr) (c : Nat) (l : List ByteArray) (w : World)
    (hg : w.heap[g]? = some (.cells cur 37 (0, 0))) (h4 : cur[0]? = some v) (h5 : cur[1]? = some u) (hp : Pair Kd.string 9 23 w B v u vs us ls) (hx : Kd.R Kd.string 9 w B (fun _ => True) (.slice A l.length c) l)
    (hd : ∀ k, (Value.slice A l.length c).ownBlock = some k → ¬ In vs k) (hn : ls.length < 250) (hcopy : Pl.escutcheonbook_copyTexts.f l = some l) (hB : B ≤ w.heap.size) :
    Calls Tryz.prog 10 #[.pointer (some ⟨g, 0, none⟩), .slice A l.length c] w fun e w' => e = .returned (.tuple #[]) ∧ Added Kd.string 9 23 B g 37 cur 0 vs us ls ⟨.slice A l.length c, rfl⟩ l v u w w' := by
  obtain ⟨A1, c1, rfl, hc1⟩ := hp.a.has.form
  have c4 : w.cell? ⟨g, 0, none⟩ = some (.slice A1 ls.length c1) := (blk_cell hg 0).trans h4
  have HP := Lib.hid hp
  have HX := Lib.hid hx
  have HD := Lib.hid hd
  have HG := Lib.hid hg
  have H4 := Lib.hid h4
  have H5 := Lib.hid h5
  have HC := Lib.hid hcopy
  clear hp hx hd hg h4 h5 hcopy
  go_enter Tryz.func10, Tryz.ntmps10
  go_wp2_with ((with_reducible refine gate_builtin (b := .append) (xs := #[.tmp 14, .tmp 16]) rfl ?_); at_builtin; refine halt_ ?_)
  change wpList _ _ _ _ _ _
  have hlen : vs.length < 250 := by have := HP.out.a.len; omega
  refine Kd.R_append kv (w0 := w) B rfl (.tmp 14) (.tmp 16) 29 23 (.slice none 0 0) 24 rfl (by kernel_rfl) info_ot rfl (by decide) (by omega) (.slice A1 ls.length c1) vs ⟨.slice A l.length c, rfl⟩ [.slice A l.length c] (fun _ => True) (fun _ => False) rfl rfl rfl (fun _ h => h.elim) (fun _ _ => trivial) HP.out.a.outer (Below.refl _ _) hB (by omega) ?_
  intro v1 w1 hR1 _ hg1 hat1
  obtain ⟨A2, c2, rfl, hc2, _⟩ := Kd.R_reads hR1
  have t1 := Tch.of_grown hg1
  have hb1 : w1.heap[g]? = some (.cells cur 37 (0, 0)) := blk_grown HG.out hg1 (fun x => R_off HP.out.a.outer HG.out (by decide) g x.symm rfl)
  have q5 : w1.cell? ⟨g, 0, none⟩ = some (.slice A1 ls.length c1) := (blk_cell hb1 0).trans H4.out
  have qf : w1.frozen? ⟨g, 0, none⟩ = false := blk_frozen hb1 0
  have HR1 := Lib.hid hR1
  have HB1 := Lib.hid hb1
  have HT1 := Lib.hid t1
  clear hR1 hg1 t1 hb1 c4
  go_wp2
  have hlv : (vs ++ [(⟨.slice A l.length c, rfl⟩ : OneV)]).length = vs.length + 1 := by rw [List.length_append]; rfl
  obtain ⟨V2, hV2⟩ : ∃ V2, V2 = Value.slice A2 (vs.length + 1) c2 := ⟨_, rfl⟩
  have hR2 := HR1.out
  rw [hlv, ← hV2] at hR2 hat1
  obtain ⟨w2, hw2⟩ : ∃ w2, w2 = w1.setCell ⟨g, 0, none⟩ V2 := ⟨_, rfl⟩
  have ts : Tch (fun k => k = g) w1 w2 := by rw [hw2]; exact Tch.set w1 ⟨g, 0, none⟩ V2
  have hg2 : w2.heap[g]? = some (.cells (cur.setIfInBounds 0 V2) 37 (0, 0)) := by rw [hw2]; exact blk_set HB1.out 0 V2
  have hu1 := R_tch rfl HP.out.b.outer HT1.out (fun k a b => HP.out.ap k b a)
  have hu2 := R_tch rfl hu1 ts (R_off hu1 HB1.out (by decide))
  have hx1 := R_tch rfl HX.out HT1.out (fun k a b => (Rd.of_R HX.out).apart (Rd.of_R HP.out.a.outer) (by decide) k a b)
  have hx2 := R_tch rfl hx1 ts (R_off hx1 HB1.out (by decide))
  have hB2 : B ≤ w2.heap.size := Nat.le_trans hB (Nat.le_trans HT1.out.size ts.size)
  obtain ⟨y1, y2, y3, y4, y5, y6⟩ := texts_hyps hg2 hu2 hx2
  have hc5 : (cur.setIfInBounds 0 V2)[1]? = some u := by rw [Array.getElem?_setIfInBounds_ne (by decide)]; exact H5.out
  have hul : us.length ≤ 250 := by have := HP.out.b.len; omega
  rw [← hV2, ← hw2]
  refine wp_region_inv2 (by kernel_rfl) (by kernel_rfl) (IxT g A c l u us B 37 (cur.setIfInBounds 0 V2) w2 undef undef (.pointer (some ⟨g, 0, none⟩)) (.pointer (some ⟨g, 0, none⟩)) (.pointer (some ⟨g, 0, none⟩)) (.slice A1 ls.length c1) (.int .i64 (ls.length : Int)) (.bool true) (.pointer (some ⟨g, 0, none⟩)) (.pointer (some ⟨g, 0, none⟩)) (.pointer (some ⟨g, 0, none⟩)) (.pointer (some ⟨g, 0, none⟩)) (.slice A1 ls.length c1) (.slice A l.length c) (.slice (some ⟨w.heap.size, 0, none⟩) 1 1) V2 (.pointer (some ⟨g, 0, none⟩)) (.pointer (some ⟨g, 0, none⟩))) ?_
    (IxT.step g A c l u us B 37 (cur.setIfInBounds 0 V2) w2 _ _ _ _ _ _ _ _ _ _ _ _ _ _ _ _ _ _ y1 hc5 y2 y3 hB2 y4 y5 y6 HC.out hul (by decide)) ?_
  · have no : ∀ {p : Prop}, false = true → p := fun h => Bool.noConfusion h
    exact ⟨_, _, _, _, _, _, _, _, _, _, _, rfl, no, no, no, no, no, no, no, no, no, no, no, no, fun _ => hg2, fun _ => Kd.R_drew hu2, Tch.of_below _ (Below.refl _ _).drew⟩
  rintro L a' W hall ⟨x20, x21, x22, x23, x24, x25, x26, x27, x28, x29, x30, rfl, h0, h1, h2, h3, h4, h5, h6, h7, h8, h9, h10, h11, kg, ko, kt⟩
  have r6 := h6 (hall 6 (by decide))
  obtain ⟨hy, r8, hat8⟩ := h8 (hall 8 (by decide))
  have r11 := h11 (hall 11 (by decide))
  have tW : Tch (fun k => k = g ∨ (Value.slice A1 ls.length c1).ownBlock = some k ∨ u.ownBlock = some k) w W :=
    ((HT1.out.mono (fun k _ x => .inr (.inl x))).trans ts (fun k _ x => .inl x)).trans kt (fun k _ x => x.elim .inl (fun y => .inr (.inr y)))
  have hin : ∀ (xs : List OneV) (q : Value), Lists Kd.string 9 23 w B q xs ls → ∀ k, In xs k → ¬ (k = g ∨ (Value.slice A1 ls.length c1).ownBlock = some k ∨ u.ownBlock = some k) := by
    rintro xs q hL k ⟨j, x, hx, hk⟩ hS
    obtain ⟨y, hy⟩ := lt_some (show j < ls.length by have := hL.len; have := some_lt hx; omega)
    have hR := hL.each j x y hx hy
    rcases hS with rfl | h | h
    · exact R_off hR HG.out (by decide) k hk rfl
    · exact (Rd.of_R hR).apart (Rd.of_R HP.out.a.outer) (by decide) k hk h
    · exact (Rd.of_R hR).apart (Rd.of_R HP.out.b.outer) (by decide) k hk h
  have hsz1 := HT1.out.size
  have hsz2 := ts.size
  have hV2u : ∀ k, V2.ownBlock = some k → u.ownBlock ≠ some k := by
    intro k hk hu
    rcases hat1 with h | ⟨b, hb, hle⟩
    · exact HP.out.ap k (h ▸ hk) hu
    · rw [hk] at hb
      obtain rfl := Option.some.inj hb
      have := (Rd.of_R HP.out.b.outer).lt k hu
      omega
  have hR2b := R_tch rfl hR2 ts (R_off hR2 HB1.out (by decide))
  have hRV := R_tch rfl hR2b kt (fun k hk x => x.elim (fun e => R_off hR2b hg2 (by decide) k hk e) (fun e => hV2u k hk e))
  have hxW := R_tch rfl hx2 kt (fun k hk x => x.elim (fun e => R_off hx2 hg2 (by decide) k hk e) (fun e => (Rd.of_R hx2).apart (Rd.of_R hu2) (by decide) k hk e))
  have hA : Added Kd.string 9 23 B g 37 cur 0 vs us ls ⟨.slice A l.length c, rfl⟩ l (.slice A1 ls.length c1) u w W := by
    refine ⟨V2, x28, ⟨x26, hy⟩, r11, ⟨HP.out.a.added rfl tW (hin vs _ HP.out.a) hRV hxW HD.out, HP.out.b.added rfl tW (hin us _ HP.out.b) r8 (Kd.R_lower r6 hB2) (fun k hk x => ?_), fun k hk1 hk2 => ?_⟩, tW⟩
    · obtain ⟨j, q, hq, hqk⟩ := x
      obtain ⟨y, hy'⟩ := lt_some (show j < ls.length by have := HP.out.b.len; have := some_lt hq; omega)
      have h1 := (Rd.of_R (HP.out.b.each j q y hq hy')).lt k hqk
      have h2 := Kd.R_base r6 k hk
      omega
    · rcases hat8 with h | ⟨b, hb, hle⟩
      · exact hV2u k hk1 (h ▸ hk2)
      · rw [hk2] at hb
        obtain rfl := Option.some.inj hb
        have := (Rd.of_R hR2b).lt k hk1
        omega
  have H := Lib.hid hA
  clear hA
  go_end0
  exact ⟨rfl, H.out⟩
end Go.Proofs.YtbfdaclekjgkfaaGreatDoor.Bk

/- The book of lists: what its functions do over kinds of which no list is kept. -/
namespace Go.Proofs.YtbfdaclekjgkfaaGreatDoor.Bk
open Go.RowKit

theorem stillInts_none (g : Nat) (w : World) (h : w.cell? ⟨g, 2, none⟩ = some (.slice none 0 0)) :
    Calls Tryz.prog 32 #[.pointer (some ⟨g, 0, none⟩)] w fun e w' => e = .returned (.bool true) ∧ w' = w := by
  go_enter Tryz.func32, Tryz.ntmps32
  go_wp2
  refine wp_loop_rounds 1 ?_
  rw [rounds_succ]
  go_wp2
  go_ret
  exact ⟨rfl, rfl⟩
theorem putInts_none (g : Nat) (w : World) (h : w.cell? ⟨g, 2, none⟩ = some (.slice none 0 0)) :
    Calls Tryz.prog 40 #[.pointer (some ⟨g, 0, none⟩)] w fun e w' => e = .returned (.tuple #[]) ∧ w' = w := by
  go_enter Tryz.func40, Tryz.ntmps40
  go_wp2
  refine wp_loop_rounds 1 ?_
  rw [rounds_succ]
  go_wp2
  go_end0
  exact ⟨rfl, rfl⟩
theorem growInts_none (g : Nat) (w : World) (h : w.cell? ⟨g, 2, none⟩ = some (.slice none 0 0)) :
    Calls Tryz.prog 46 #[.pointer (some ⟨g, 0, none⟩)] w fun e w' => e = .returned (.slice none 0 0) ∧ w' = w := by
  go_enter Tryz.func46, Tryz.ntmps46
  go_wp2
  refine wp_loop_rounds 1 ?_
  rw [rounds_succ]
  go_wp2
  go_ret
  exact ⟨rfl, rfl⟩
theorem markedInts_none (g : Nat) (w : World) :
    Calls Tryz.prog 53 #[.slice none 0 0] w fun e w' => e = .returned (.bool true) ∧ w' = w := by
  go_enter Tryz.func53, Tryz.ntmps53
  go_wp2
  refine wp_loop_rounds 1 ?_
  rw [rounds_succ]
  go_wp2
  go_ret
  exact ⟨rfl, rfl⟩
theorem stillRules_none (g : Nat) (w : World) (h : w.cell? ⟨g, 4, none⟩ = some (.slice none 0 0)) :
    Calls Tryz.prog 33 #[.pointer (some ⟨g, 0, none⟩)] w fun e w' => e = .returned (.bool true) ∧ w' = w := by
  go_enter Tryz.func33, Tryz.ntmps33
  go_wp2
  refine wp_loop_rounds 1 ?_
  rw [rounds_succ]
  go_wp2
  go_ret
  exact ⟨rfl, rfl⟩
theorem putRules_none (g : Nat) (w : World) (h : w.cell? ⟨g, 4, none⟩ = some (.slice none 0 0)) :
    Calls Tryz.prog 41 #[.pointer (some ⟨g, 0, none⟩)] w fun e w' => e = .returned (.tuple #[]) ∧ w' = w := by
  go_enter Tryz.func41, Tryz.ntmps41
  go_wp2
  refine wp_loop_rounds 1 ?_
  rw [rounds_succ]
  go_wp2
  go_end0
  exact ⟨rfl, rfl⟩
theorem growRules_none (g : Nat) (w : World) (h : w.cell? ⟨g, 4, none⟩ = some (.slice none 0 0)) :
    Calls Tryz.prog 47 #[.pointer (some ⟨g, 0, none⟩)] w fun e w' => e = .returned (.slice none 0 0) ∧ w' = w := by
  go_enter Tryz.func47, Tryz.ntmps47
  go_wp2
  refine wp_loop_rounds 1 ?_
  rw [rounds_succ]
  go_wp2
  go_ret
  exact ⟨rfl, rfl⟩
theorem markedRules_none (g : Nat) (w : World) :
    Calls Tryz.prog 54 #[.slice none 0 0] w fun e w' => e = .returned (.bool true) ∧ w' = w := by
  go_enter Tryz.func54, Tryz.ntmps54
  go_wp2
  refine wp_loop_rounds 1 ?_
  rw [rounds_succ]
  go_wp2
  go_ret
  exact ⟨rfl, rfl⟩
theorem stillNotes_none (g : Nat) (w : World) (h : w.cell? ⟨g, 6, none⟩ = some (.slice none 0 0)) :
    Calls Tryz.prog 34 #[.pointer (some ⟨g, 0, none⟩)] w fun e w' => e = .returned (.bool true) ∧ w' = w := by
  go_enter Tryz.func34, Tryz.ntmps34
  go_wp2
  refine wp_loop_rounds 1 ?_
  rw [rounds_succ]
  go_wp2
  go_ret
  exact ⟨rfl, rfl⟩
theorem putNotes_none (g : Nat) (w : World) (h : w.cell? ⟨g, 6, none⟩ = some (.slice none 0 0)) :
    Calls Tryz.prog 42 #[.pointer (some ⟨g, 0, none⟩)] w fun e w' => e = .returned (.tuple #[]) ∧ w' = w := by
  go_enter Tryz.func42, Tryz.ntmps42
  go_wp2
  refine wp_loop_rounds 1 ?_
  rw [rounds_succ]
  go_wp2
  go_end0
  exact ⟨rfl, rfl⟩
theorem growNotes_none (g : Nat) (w : World) (h : w.cell? ⟨g, 6, none⟩ = some (.slice none 0 0)) :
    Calls Tryz.prog 48 #[.pointer (some ⟨g, 0, none⟩)] w fun e w' => e = .returned (.slice none 0 0) ∧ w' = w := by
  go_enter Tryz.func48, Tryz.ntmps48
  go_wp2
  refine wp_loop_rounds 1 ?_
  rw [rounds_succ]
  go_wp2
  go_ret
  exact ⟨rfl, rfl⟩
theorem markedNotes_none (g : Nat) (w : World) :
    Calls Tryz.prog 55 #[.slice none 0 0] w fun e w' => e = .returned (.bool true) ∧ w' = w := by
  go_enter Tryz.func55, Tryz.ntmps55
  go_wp2
  refine wp_loop_rounds 1 ?_
  rw [rounds_succ]
  go_wp2
  go_ret
  exact ⟨rfl, rfl⟩
theorem stillItems_none (g : Nat) (w : World) (h : w.cell? ⟨g, 8, none⟩ = some (.slice none 0 0)) :
    Calls Tryz.prog 35 #[.pointer (some ⟨g, 0, none⟩)] w fun e w' => e = .returned (.bool true) ∧ w' = w := by
  go_enter Tryz.func35, Tryz.ntmps35
  go_wp2
  refine wp_loop_rounds 1 ?_
  rw [rounds_succ]
  go_wp2
  go_ret
  exact ⟨rfl, rfl⟩
theorem putItems_none (g : Nat) (w : World) (h : w.cell? ⟨g, 8, none⟩ = some (.slice none 0 0)) :
    Calls Tryz.prog 43 #[.pointer (some ⟨g, 0, none⟩)] w fun e w' => e = .returned (.tuple #[]) ∧ w' = w := by
  go_enter Tryz.func43, Tryz.ntmps43
  go_wp2
  refine wp_loop_rounds 1 ?_
  rw [rounds_succ]
  go_wp2
  go_end0
  exact ⟨rfl, rfl⟩
theorem growItems_none (g : Nat) (w : World) (h : w.cell? ⟨g, 8, none⟩ = some (.slice none 0 0)) :
    Calls Tryz.prog 49 #[.pointer (some ⟨g, 0, none⟩)] w fun e w' => e = .returned (.slice none 0 0) ∧ w' = w := by
  go_enter Tryz.func49, Tryz.ntmps49
  go_wp2
  refine wp_loop_rounds 1 ?_
  rw [rounds_succ]
  go_wp2
  go_ret
  exact ⟨rfl, rfl⟩
theorem markedItems_none (g : Nat) (w : World) :
    Calls Tryz.prog 56 #[.slice none 0 0] w fun e w' => e = .returned (.bool true) ∧ w' = w := by
  go_enter Tryz.func56, Tryz.ntmps56
  go_wp2
  refine wp_loop_rounds 1 ?_
  rw [rounds_succ]
  go_wp2
  go_ret
  exact ⟨rfl, rfl⟩
theorem stillCommands_none (g : Nat) (w : World) (h : w.cell? ⟨g, 10, none⟩ = some (.slice none 0 0)) :
    Calls Tryz.prog 36 #[.pointer (some ⟨g, 0, none⟩)] w fun e w' => e = .returned (.bool true) ∧ w' = w := by
  go_enter Tryz.func36, Tryz.ntmps36
  go_wp2
  refine wp_loop_rounds 1 ?_
  rw [rounds_succ]
  go_wp2
  go_ret
  exact ⟨rfl, rfl⟩
theorem putCommands_none (g : Nat) (w : World) (h : w.cell? ⟨g, 10, none⟩ = some (.slice none 0 0)) :
    Calls Tryz.prog 44 #[.pointer (some ⟨g, 0, none⟩)] w fun e w' => e = .returned (.tuple #[]) ∧ w' = w := by
  go_enter Tryz.func44, Tryz.ntmps44
  go_wp2
  refine wp_loop_rounds 1 ?_
  rw [rounds_succ]
  go_wp2
  go_end0
  exact ⟨rfl, rfl⟩
theorem growCommands_none (g : Nat) (w : World) (h : w.cell? ⟨g, 10, none⟩ = some (.slice none 0 0)) :
    Calls Tryz.prog 50 #[.pointer (some ⟨g, 0, none⟩)] w fun e w' => e = .returned (.slice none 0 0) ∧ w' = w := by
  go_enter Tryz.func50, Tryz.ntmps50
  go_wp2
  refine wp_loop_rounds 1 ?_
  rw [rounds_succ]
  go_wp2
  go_ret
  exact ⟨rfl, rfl⟩
theorem markedCommands_none (g : Nat) (w : World) :
    Calls Tryz.prog 57 #[.slice none 0 0] w fun e w' => e = .returned (.bool true) ∧ w' = w := by
  go_enter Tryz.func57, Tryz.ntmps57
  go_wp2
  refine wp_loop_rounds 1 ?_
  rw [rounds_succ]
  go_wp2
  go_ret
  exact ⟨rfl, rfl⟩
theorem stillReplies_none (g : Nat) (w : World) (h : w.cell? ⟨g, 12, none⟩ = some (.slice none 0 0)) :
    Calls Tryz.prog 37 #[.pointer (some ⟨g, 0, none⟩)] w fun e w' => e = .returned (.bool true) ∧ w' = w := by
  go_enter Tryz.func37, Tryz.ntmps37
  go_wp2
  refine wp_loop_rounds 1 ?_
  rw [rounds_succ]
  go_wp2
  go_ret
  exact ⟨rfl, rfl⟩
theorem putReplies_none (g : Nat) (w : World) (h : w.cell? ⟨g, 12, none⟩ = some (.slice none 0 0)) :
    Calls Tryz.prog 38 #[.pointer (some ⟨g, 0, none⟩)] w fun e w' => e = .returned (.tuple #[]) ∧ w' = w := by
  go_enter Tryz.func38, Tryz.ntmps38
  go_wp2
  refine wp_loop_rounds 1 ?_
  rw [rounds_succ]
  go_wp2
  go_end0
  exact ⟨rfl, rfl⟩
theorem growReplies_none (g : Nat) (w : World) (h : w.cell? ⟨g, 12, none⟩ = some (.slice none 0 0)) :
    Calls Tryz.prog 51 #[.pointer (some ⟨g, 0, none⟩)] w fun e w' => e = .returned (.slice none 0 0) ∧ w' = w := by
  go_enter Tryz.func51, Tryz.ntmps51
  go_wp2
  refine wp_loop_rounds 1 ?_
  rw [rounds_succ]
  go_wp2
  go_ret
  exact ⟨rfl, rfl⟩
theorem markedReplies_none (g : Nat) (w : World) :
    Calls Tryz.prog 58 #[.slice none 0 0] w fun e w' => e = .returned (.bool true) ∧ w' = w := by
  go_enter Tryz.func58, Tryz.ntmps58
  go_wp2
  refine wp_loop_rounds 1 ?_
  rw [rounds_succ]
  go_wp2
  go_ret
  exact ⟨rfl, rfl⟩
end Go.Proofs.YtbfdaclekjgkfaaGreatDoor.Bk

/- Is the book apart? Lists of Texts alone are kept in it. -/
set_option linter.unusedVariables false
namespace Go.Proofs.YtbfdaclekjgkfaaGreatDoor.Bk
open Go.RowKit Go.Proofs.YtbfdaclekjgkfaaGreatDoorW.PrintWords Go.Proofs.YtbfdaclekjgkfaaGreatDoorW.PrintLast Go.Proofs.YtbfdaclekjgkfaaGreatDoor.Bk

theorem nil_cells {g : Nat} {cur : Array Value} {W : World} (hg : W.heap[g]? = some (.cells cur 37 (0, 0))) (hz : ∀ i, i < 14 → i ≠ 0 → i ≠ 0 + 1 → cur[i]? = some (.slice none 0 0)) :
    W.cell? ⟨g, 2, none⟩ = some (.slice none 0 0) ∧ W.cell? ⟨g, 4, none⟩ = some (.slice none 0 0) ∧ W.cell? ⟨g, 6, none⟩ = some (.slice none 0 0) ∧ W.cell? ⟨g, 8, none⟩ = some (.slice none 0 0) ∧ W.cell? ⟨g, 10, none⟩ = some (.slice none 0 0) ∧ W.cell? ⟨g, 12, none⟩ = some (.slice none 0 0) :=
  ⟨(blk_cell hg 2).trans (hz 2 (by decide) (by decide) (by decide)), (blk_cell hg 4).trans (hz 4 (by decide) (by decide) (by decide)), (blk_cell hg 6).trans (hz 6 (by decide) (by decide) (by decide)), (blk_cell hg 8).trans (hz 8 (by decide) (by decide) (by decide)), (blk_cell hg 10).trans (hz 10 (by decide) (by decide) (by decide)), (blk_cell hg 12).trans (hz 12 (by decide) (by decide) (by decide))⟩

set_option maxHeartbeats 6400000 in
set_option maxRecDepth 100000 in
theorem Apart_Texts (B g N : Nat) (cur : Array Value) (v u : Value) (vs us : List OneV) (ls : List (List ByteArray)) (w : World)
    (hg : w.heap[g]? = some (.cells cur 37 (0, 0))) (hz : ∀ i, i < 14 → i ≠ 0 → i ≠ 0 + 1 → cur[i]? = some (.slice none 0 0)) (h4 : cur[0]? = some v) (h5 : cur[0 + 1]? = some u) (hp : Pair Kd.string 9 23 w B v u vs us ls)
    (hB : B ≤ w.heap.size) (hn : ls.length ≤ 250) (hN : Small N ls) (hNN : N ≤ 9000)
    (hmk : ∀ i a n : Nat, i ≤ 250 → a ≤ 20000 → n ≤ 20000 → ∃ k, Pl.escutcheonbook_markTexts.f k (i : Int) (a : Int) (n : Int) = some (mkOf mkT i a n))
    (hsame : ∀ l : List ByteArray, l.length ≤ 20000 → ∃ k, Pl.escutcheonbook_SameTexts.f k l l = some true) :
    Calls Tryz.prog 13 #[.pointer (some ⟨g, 0, none⟩)] w fun e w' => e = .returned (.bool true) ∧ Below B w w' := by
  have HP := Lib.hid hp
  have HG := Lib.hid hg
  have HZ := Lib.hid hz
  have H4 := Lib.hid h4
  have H5 := Lib.hid h5
  have HN := Lib.hid hN
  have HM := Lib.hid hmk
  have HS := Lib.hid hsame
  obtain ⟨c2, c4, c6, c8, c10, c12⟩ := nil_cells hg hz
  clear hp hg hz h4 h5 hN hmk hsame
  have HIN : ∀ k, In vs k → k ≠ g := by
    rintro k ⟨j, x, hx, hk⟩
    obtain ⟨y, hy⟩ := lt_some (show j < ls.length by have := HP.out.a.len; have := some_lt hx; omega)
    exact fun e => R_off (HP.out.a.each j x y hx hy) HG.out (by decide) k hk e
  have HIB : ∀ k, In vs k → B ≤ k := by
    rintro k ⟨j, x, hx, hk⟩
    obtain ⟨y, hy⟩ := lt_some (show j < ls.length by have := HP.out.a.len; have := some_lt hx; omega)
    exact Kd.R_base (HP.out.a.each j x y hx hy) k hk
  have HI := Lib.hid HIN
  have HJ := Lib.hid HIB
  clear HIN HIB
  go_enter Tryz.func13, Tryz.ntmps13
  go_wp2_with fail
  refine (stillTexts_any g v u vs us ls w ((blk_cell HG.out 0).trans H4.out) ((blk_cell HG.out (0 + 1)).trans H5.out) HP.out.a.has HP.out.b.has hn (fun l hl => HS.out l (by have := HN.out l hl; omega))).mono ?_
  rintro e w1 ⟨rfl, hd1⟩
  have hg1 := blk_below HG.out hd1.below
  have hp1 : Lists Kd.string 9 23 w1 B v vs ls := HP.out.a.below rfl hd1.below
  have hBw : Below B w w1 := hd1.below.mono hB
  have hB1 : B ≤ w1.heap.size := Nat.le_trans hB hBw.size
  have HG1 := Lib.hid hg1
  have HP1 := Lib.hid hp1
  have HW1 := Lib.hid hBw
  clear c2 c4 c6 c8 c10 c12
  obtain ⟨c2, c4, c6, c8, c10, c12⟩ := nil_cells hg1 HZ.out
  clear hd1 hg1 hp1 hBw
  go_wp2_with (first | (first | (go_at_call 32; refine (stillInts_none g _ c2).mono ?_; rintro _ w_ ⟨rfl, hw_⟩; obtain rfl := hw_.symm; clear hw_) | (go_at_call 33; refine (stillRules_none g _ c4).mono ?_; rintro _ w_ ⟨rfl, hw_⟩; obtain rfl := hw_.symm; clear hw_) | (go_at_call 34; refine (stillNotes_none g _ c6).mono ?_; rintro _ w_ ⟨rfl, hw_⟩; obtain rfl := hw_.symm; clear hw_) | (go_at_call 35; refine (stillItems_none g _ c8).mono ?_; rintro _ w_ ⟨rfl, hw_⟩; obtain rfl := hw_.symm; clear hw_) | (go_at_call 36; refine (stillCommands_none g _ c10).mono ?_; rintro _ w_ ⟨rfl, hw_⟩; obtain rfl := hw_.symm; clear hw_) | (go_at_call 37; refine (stillReplies_none g _ c12).mono ?_; rintro _ w_ ⟨rfl, hw_⟩; obtain rfl := hw_.symm; clear hw_)) | (first | (go_at_call 38; refine (putReplies_none g _ c12).mono ?_; rintro _ w_ ⟨rfl, hw_⟩; obtain rfl := hw_.symm; clear hw_)))
  refine (putTexts_any g B N v vs ls _ ((blk_cell HG1.out 0).trans H4.out) HI.out HP1.out hn HN.out (by omega) (fun i n h1 h2 => HM.out i 0 n h1 (by omega) (by omega))).mono ?_
  rintro e w2 ⟨rfl, hP⟩
  have t2 := hP.tch
  obtain ⟨cur2, k1, k2, k3, k4⟩ := hP.ex
  have hg2 : w2.heap[g]? = some (.cells cur 37 (0, 0)) := (t2.block g (blk_lt HG1.out) (fun x => HI.out g x rfl)).trans HG1.out
  have hb2 : Below B w w2 := t2.below HW1.out hB1 (fun k hk => HJ.out k hk)
  have hB2 : B ≤ w2.heap.size := Nat.le_trans hB1 t2.size
  have HG2 := Lib.hid hg2
  have HB2 := Lib.hid hb2
  have HQ2 := Lib.hid (And.intro k1 (And.intro k2 (And.intro k3 k4)))
  clear c2 c4 c6 c8 c10 c12
  obtain ⟨c2, c4, c6, c8, c10, c12⟩ := nil_cells hg2 HZ.out
  clear hP t2 k1 k2 k3 k4 hg2 hb2
  go_wp2_with (first | (first | (go_at_call 40; refine (putInts_none g _ c2).mono ?_; rintro _ w_ ⟨rfl, hw_⟩; obtain rfl := hw_.symm; clear hw_) | (go_at_call 41; refine (putRules_none g _ c4).mono ?_; rintro _ w_ ⟨rfl, hw_⟩; obtain rfl := hw_.symm; clear hw_) | (go_at_call 42; refine (putNotes_none g _ c6).mono ?_; rintro _ w_ ⟨rfl, hw_⟩; obtain rfl := hw_.symm; clear hw_) | (go_at_call 43; refine (putItems_none g _ c8).mono ?_; rintro _ w_ ⟨rfl, hw_⟩; obtain rfl := hw_.symm; clear hw_) | (go_at_call 44; refine (putCommands_none g _ c10).mono ?_; rintro _ w_ ⟨rfl, hw_⟩; obtain rfl := hw_.symm; clear hw_)) | fail)
  refine (growTexts_any g B N v vs cur2 _ ((blk_cell HG2.out 0).trans H4.out) HI.out HQ2.out.2.2.2 hB2 (by have := HQ2.out.1; omega) HQ2.out.2.2.1 (by omega) (by rw [HQ2.out.1]; exact HQ2.out.2.1) (fun i a n h1 h2 h3 => HM.out i a n h1 h2 (by omega))).mono ?_
  rintro e w3 ⟨ov, rfl, hI⟩
  obtain ⟨q1, ⟨gs, ms, q2, q3, q4, q5⟩, t3⟩ := hI.done rfl HQ2.out.2.2.2.len
  have hg3 : w3.heap[g]? = some (.cells cur 37 (0, 0)) := (t3.block g (blk_lt HG2.out) (fun x => HI.out g x rfl)).trans HG2.out
  have hb3 : Below B w w3 := t3.below HB2.out hB2 (fun k hk => HJ.out k hk)
  have hB3 : B ≤ w3.heap.size := Nat.le_trans hB2 t3.size
  have HG3 := Lib.hid hg3
  have HB3 := Lib.hid hb3
  have HQ3 := Lib.hid (And.intro q1 (And.intro q2 (And.intro q3 (And.intro q4 q5))))
  clear c2 c4 c6 c8 c10 c12
  obtain ⟨c2, c4, c6, c8, c10, c12⟩ := nil_cells hg3 HZ.out
  have c0 : w3.cell? ⟨g, 0, none⟩ = some v := (blk_cell hg3 0).trans H4.out
  clear hI q1 q2 q3 q4 q5 t3 hg3 hb3
  go_wp2_with (first | (first | (go_at_call 46; refine (growInts_none g _ c2).mono ?_; rintro _ w_ ⟨rfl, hw_⟩; obtain rfl := hw_.symm; clear hw_) | (go_at_call 47; refine (growRules_none g _ c4).mono ?_; rintro _ w_ ⟨rfl, hw_⟩; obtain rfl := hw_.symm; clear hw_) | (go_at_call 48; refine (growNotes_none g _ c6).mono ?_; rintro _ w_ ⟨rfl, hw_⟩; obtain rfl := hw_.symm; clear hw_) | (go_at_call 49; refine (growItems_none g _ c8).mono ?_; rintro _ w_ ⟨rfl, hw_⟩; obtain rfl := hw_.symm; clear hw_) | (go_at_call 50; refine (growCommands_none g _ c10).mono ?_; rintro _ w_ ⟨rfl, hw_⟩; obtain rfl := hw_.symm; clear hw_) | (go_at_call 51; refine (growReplies_none g _ c12).mono ?_; rintro _ w_ ⟨rfl, hw_⟩; obtain rfl := hw_.symm; clear hw_)) | fail)
  refine (markedTexts_any (N + 72) ov gs ms _ HQ3.out.2.2.2.2 (by have := HQ2.out.1; have := HQ3.out.2.1; omega) HQ3.out.2.2.2.1 (by omega) (by rw [HQ3.out.2.1]; exact HQ3.out.2.2.1) (fun i a n h1 h2 h3 => HM.out i a n h1 h2 (by omega)) (fun l hl => HS.out l (by have := HQ3.out.2.2.2.1 l hl; omega))).mono ?_
  rintro e w4 ⟨rfl, hb4⟩
  have c0' : w4.cell? ⟨g, 0, none⟩ = some v := (blk_cell (blk_below HG3.out hb4) 0).trans H4.out
  have h4' := HQ3.out.1.below flatT hb4
  have HB4 := Lib.hid (HB3.out.trans (hb4.mono hB3))
  have HG4 := Lib.hid (blk_below HG3.out hb4)
  have H44 := Lib.hid h4'
  have hB4 : B ≤ w4.heap.size := Nat.le_trans hB3 hb4.size
  clear c2 c4 c6 c8 c10 c12 c0 hb4 h4'
  go_wp2_with fail
  refine (markedTexts_any N v vs cur2 _ H44.out (by have := HQ2.out.1; omega) HQ2.out.2.2.1 (by omega) (by rw [HQ2.out.1]; exact HQ2.out.2.1) (fun i a n h1 h2 h3 => HM.out i a n h1 h2 (by omega)) (fun l hl => HS.out l (by have := HQ2.out.2.2.1 l hl; omega))).mono ?_
  rintro e w5 ⟨rfl, hb5⟩
  have HB5 := Lib.hid (HB4.out.trans (hb5.mono hB4))
  have hg5 := blk_below HG4.out hb5
  obtain ⟨c2, c4, c6, c8, c10, c12⟩ := nil_cells hg5 HZ.out
  clear hb5 hg5 c0'
  go_wp2_with (first | (first | (go_at_call 53; refine (markedInts_none g _).mono ?_; rintro _ w_ ⟨rfl, hw_⟩; obtain rfl := hw_.symm; clear hw_) | (go_at_call 54; refine (markedRules_none g _).mono ?_; rintro _ w_ ⟨rfl, hw_⟩; obtain rfl := hw_.symm; clear hw_) | (go_at_call 55; refine (markedNotes_none g _).mono ?_; rintro _ w_ ⟨rfl, hw_⟩; obtain rfl := hw_.symm; clear hw_) | (go_at_call 56; refine (markedItems_none g _).mono ?_; rintro _ w_ ⟨rfl, hw_⟩; obtain rfl := hw_.symm; clear hw_) | (go_at_call 57; refine (markedCommands_none g _).mono ?_; rintro _ w_ ⟨rfl, hw_⟩; obtain rfl := hw_.symm; clear hw_) | (go_at_call 58; refine (markedReplies_none g _).mono ?_; rintro _ w_ ⟨rfl, hw_⟩; obtain rfl := hw_.symm; clear hw_)))
  go_ret
  exact ⟨rfl, HB5.out⟩
end Go.Proofs.YtbfdaclekjgkfaaGreatDoor.Bk
