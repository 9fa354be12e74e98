/- The contract of the reference's Run, by a walk through its code. No condition beyond each theorem's own hypotheses. -/
import Derived.Test.YtlfopemghafboaaDe7
import Derived.Test.YtlfopemghafboaaDrp
namespace Go.Proofs.Ytlfopemghafboaa.D
open Go.RowKit Go.Proofs.YtlfopemghafboaaW.PrintWords Go.Proofs.YtlfopemghafboaaW.PrintLast Go.Proofs.YtlfopemghafboaaW.PrintMore
set_option linter.unusedVariables false
set_option linter.unusedSimpArgs false
set_option maxHeartbeats 3200000 in
set_option maxRecDepth 100000 in
theorem rrun_any (R : List S42) (E : List S80) (A0 A1 : Option Addr) (c0 c1 : Nat) (w : World) (hr0 : Kd.C k42 w A0 R.length R) (hc0 : R.length ≤ c0) (hr1 : Kd.C k80 w A1 E.length E) (hc1 : E.length ≤ c1) (h24 : E.length ≤ 24) (A2 : Option Addr) (c2 : Nat) (ch : List Int) (hr2 : Kd.C (Kd.int .i64) w A2 ch.length ch) (ts : List Int) (is : Bool) (er : Int) (h : dr_Run.f R E ch = some (ts, is, er)) :
    Calls Try.prog 53 #[.agg #[.slice A0 R.length c0, .slice A1 E.length c1], .slice A2 ch.length c2] w fun e w' => ∃ v0_ : Value, e = .returned (.tuple #[v0_, .bool is, .int .i64 er]) ∧ Kd.R (Kd.int .i64) 3 w' w.heap.size (fun _ => True) v0_ ts ∧ Below w.heap.size w w' := by
  have HR0 := Aside0.mk hr0
  have HR1 := Aside0.mk hr1
  have HC0 := Aside0.mk hc0
  have HC1 := Aside0.mk hc1
  have HI : Aside0 (rf_IsPlan.f 1000 R E = some (planOK R E)) := ⟨isPlan_val R E 1000 (by omega)⟩
  clear hr0 hr1 hc0 hc1
  have HR2 := Aside0.mk hr2
  have hcl : ch.length ≤ 9223372036854775807 := hr2.2.1
  clear hr2
  cases hpl : planOK R E
  · rw [hpl] at HI
    unfold dr_Run.f at h
    rw [if_neg (by rw [hpl]; decide)] at h
    injection h with h; injection h with e1 h; injection h with e2 e3
    subst e1; subst e2; subst e3
    clear hpl
    go_enter Try.func53, Try.ntmps53
    go_wp2_with (first
      | ((with_reducible refine gate_dst (N := 2) rfl ?_); refine box_event ?hg (N := 2) ?hd (cs := #[.slice A0 R.length c0, .slice A1 E.length c1]) (t := 25) ?hr ?_; (case hd => rfl); (case hg => rfl); (case hr => first | (go_simp; done) | (go_simp; rfl)); intro gb hg w2 hbox hb; have HB := Aside0.mk hb; have BX := Aside0.mk hbox; have p0 : w2.cell? ⟨gb, 0, none⟩ = some (.slice A0 R.length c0) := (blk_cell hbox 0).trans rfl; have p1 : w2.cell? ⟨gb, 1, none⟩ = some (.slice A1 E.length c1) := (blk_cell hbox 1).trans rfl; clear hb hbox hg)
      | (go_at_call 28; refine (rf_IsPlan.calls 1000 A0 c0 R A1 c1 E _ _ (Kd.C_below HR0.out HB.out) HC0.out (Kd.C_below HR1.out HB.out) HC1.out HI.out).mono ?_; rintro e w3 ⟨rfl, hb3⟩; have HB3 := Aside0.mk (below_step HB.out hb3); have BX3 := Aside0.mk (blk_below BX.out hb3); clear p0 p1; have p0 : w3.cell? ⟨gb, 0, none⟩ = some (.slice A0 R.length c0) := (blk_cell BX3.out 0).trans rfl; have p1 : w3.cell? ⟨gb, 1, none⟩ = some (.slice A1 E.length c1) := (blk_cell BX3.out 1).trans rfl; clear hb3))
    go_ret3
    exact ⟨_, rfl, Kd.R_nil _ _ _ _ _, HB3.out⟩
  · rw [hpl] at HI
    have hK := (planOK_iff R E).1 hpl
    have hrg : er = 0 ∧ runGo (bindsL R E) ch (E.length - 1) [0] = some (ts, is) := by
      unfold dr_Run.f at h
      rw [if_pos hpl] at h
      cases hq : runGo (bindsL R E) ch (E.length - 1) [0] with
      | none => rw [hq] at h; cases h
      | some q =>
        rw [hq] at h
        injection h with h; injection h with e1 h; injection h with e2 e3
        exact ⟨e3.symm, by rw [← e1, ← e2]⟩
    obtain ⟨e0, hrg⟩ := hrg
    subst e0
    have hp := hK.pos
    have HK := Aside0.mk hK
    have hne : ∀ i : Nat, i < (bindsL R E).length → (rd_T27 (bindsL R E) i).f0 ≠ (rd_T27 (bindsL R E) i).f1 := fun i hi => (bindsL_small hK h24 _ (rd27_mem _ i hi)).1
    have HOK := Aside0.mk (bindsL_ok0 hK h24)
    have HST := Aside0.mk (fun k ts hs lo hi hw => run_step (bindsL R E) ch E.length (bindsL_ok0 hK h24).inb (bindsL_ok0 hK h24).bd (by have := bindsL_len hK; omega) hne k ts hs lo hi hw)
    have HS0 := Aside0.mk (sofar_start (bindsL_ok0 hK h24).inb hne)
    have HBN := Aside0.mk (bindsL_len hK)
    have HNE := Aside0.mk hne
    have HRG := Aside0.mk hrg
    clear h hpl hK hrg hne
    go_enter Try.func53, Try.ntmps53
    go_wp2_with (first
      | ((with_reducible refine gate_dst (N := 2) rfl ?_); refine box_event ?hg (N := 2) ?hd (cs := #[.slice A0 R.length c0, .slice A1 E.length c1]) (t := 25) ?hr ?_; (case hd => rfl); (case hg => rfl); (case hr => first | (go_simp; done) | (go_simp; rfl)); intro gb hg w2 hbox hb; have HB := Aside0.mk hb; have BX := Aside0.mk hbox; have p0 : w2.cell? ⟨gb, 0, none⟩ = some (.slice A0 R.length c0) := (blk_cell hbox 0).trans rfl; have p1 : w2.cell? ⟨gb, 1, none⟩ = some (.slice A1 E.length c1) := (blk_cell hbox 1).trans rfl; clear hb hbox hg)
      | (go_at_call 28; refine (rf_IsPlan.calls 1000 A0 c0 R A1 c1 E _ _ (Kd.C_below HR0.out HB.out) HC0.out (Kd.C_below HR1.out HB.out) HC1.out HI.out).mono ?_; rintro e w3 ⟨rfl, hb3⟩; have HB3 := Aside0.mk (below_step HB.out hb3); have BX3 := Aside0.mk (blk_below BX.out hb3); clear p0 p1; have p0 : w3.cell? ⟨gb, 0, none⟩ = some (.slice A0 R.length c0) := (blk_cell BX3.out 0).trans rfl; have p1 : w3.cell? ⟨gb, 1, none⟩ = some (.slice A1 E.length c1) := (blk_cell BX3.out 1).trans rfl; clear hb3)
      | (go_at_call 65; refine (rbinds_any R E A0 A1 c0 c1 _ (Kd.C_below HR0.out HB3.out) HC0.out (Kd.C_below HR1.out HB3.out) HC1.out HK.out).mono ?_; rintro e w4 ⟨v4, rfl, hO⟩; obtain ⟨A4, c4, e4, _, hC4⟩ := hO.reads; subst e4; have HB4 := Aside0.mk (below_step HB3.out hO.2); have BX4 := Aside0.mk (blk_below BX3.out hO.2); have HC4 := Aside0.mk hC4; clear hO hC4 p0 p1)
      | ((with_reducible refine gate_dst (N := 20) rfl ?_); refine Kd.R_lit (Kd.int .i64) (w0 := w4) w4.heap.size 3 ?hg (N := 20) ?hd (xs := ([0] : List Int)) (inner := [.int .i64 0]) (ok := fun _ => True) (okp := fun _ => True) ?hr (reps0 _ _ _) (fun _ hk => hk) trivial (Below.refl _ _) (Nat.le_refl _) (by simp) ?_; (case hd => rfl); (case hg => rfl); (case hr => first | (go_simp; done) | (go_simp; rfl)); intro v5 w5 hR5 hB5 _ _; have HT5 := Aside0.mk (show OutI w4 w5 v5 [0] from ⟨hR5, hB5⟩); clear hR5 hB5))
    generalize bindsL R E = bs at HOK HST HS0 HBN HRG HC4 HNE ⊢
    have hbn : bs.length ≤ 21000 := HBN.out
    go_loopw [8, 9] (fun v8 v9 wr => ∃ us : List Int, v9 = .int .i64 (us.length : Int) ∧ us.length ≤ E.length ∧ Aside0 (OutI w4 wr v8 us) ∧ Aside0 (runGo bs ch (E.length - us.length) us = some (ts, is) ∧ SoFar bs us)) (fun _ v9 _ => E.length - (intOf v9).toNat)
    case atStart => exact ⟨[0], rfl, by simpa using hp, HT5, ⟨by simpa using HRG.out, HS0.out⟩⟩
    case round =>
      clear HT5 HRG HS0
      obtain ⟨us, rfl, hus, HT, HG⟩ := hrel
      have p1 : wr.cell? ⟨gb, 1, none⟩ = some (.slice A1 E.length c1) := (blk_cell (blk_below BX4.out HT.out.2) 1).trans rfl
      by_cases hlt : us.length < E.length
      · have hltb : decide ((us.length : Int) < (E.length : Int)) = true := by simpa using hlt
        have hu1 := HG.out.2.pos
        obtain ⟨g8, c8, e8, _⟩ := Kd.R_form HT.out.1 hu1
        subst e8
        obtain ⟨wo, hwo⟩ : ∃ wo : World, wo = wr := ⟨_, rfl⟩
        subst hwo
        go_wp2_with fail
        clear p1
        go_loopw [10, 11, 12] (fun v10 v11 v12 wr2 => ∃ i : Nat, v12 = .int .i64 (i : Int) ∧ v10 = .int .i64 (wfold us us.length bs i).1 ∧ v11 = .int .i64 (wfold us us.length bs i).2 ∧ i ≤ bs.length ∧ Aside0 (Below wo.heap.size wo wr2)) (fun _ _ v12 _ => bs.length - (intOf v12).toNat)
        case atStart => exact ⟨0, rfl, rfl, rfl, by omega, ⟨Below.refl _ _⟩⟩
        case round =>
          obtain ⟨i, rfl, rfl, rfl, hi, HBI⟩ := hrel
          by_cases hit : i < bs.length
          · have hitb : decide ((i : Int) < (bs.length : Int)) = true := by simpa using hit
            have hi0 : (0 : Int) ≤ (i : Int) := by omega
            have hi1 : (i : Int) < (bs.length : Int) := by omega
            have hin : (0 ≤ (rd_T27 bs (i : Int)).f0 ∧ (rd_T27 bs (i : Int)).f0 < E.length) ∧ (0 ≤ (rd_T27 bs (i : Int)).f1 ∧ (rd_T27 bs (i : Int)).f1 < E.length) := in_rd HOK.out.inb i hit
            obtain ⟨_, e1, a0, a1, a2⟩ := at_T27 (Kd.C_below HC4.out (below_step HT.out.2 HBI.out)) (i : Int) hi0 hi1
            cases e1
            simp only [Int.toNat_natCast] at a0 a1 a2
            have HWS : Aside0 (wfold us us.length bs (i + 1) = wst us us.length (rd_T27 bs (i : Int)) (wfold us us.length bs i)) := ⟨rfl⟩
            have hnei := HNE.out i hit
            have HRD := Aside0.mk (Kd.R_below HT.out.1 HBI.out)
            generalize rd_T27 bs (i : Int) = b at a0 a1 a2 HWS hin hnei
            obtain ⟨f0, f1, f2⟩ := b
            simp only at a0 a1 a2 hin hnei
            obtain ⟨⟨q0, _⟩, q1, _⟩ := hin
            generalize wfold us us.length bs i = W at HWS ⊢
            obtain ⟨lo, hi_⟩ := W
            simp only at HWS ⊢
            unfold wst at HWS
            simp only at HWS
            by_cases k1 : f1 = (us.length : Int)
            · have k1b : (f1 == (us.length : Int)) = true := by simpa using k1
              have k3b : decide (f1 < (us.length : Int)) = false := by simp; omega
              by_cases k2 : f0 < (us.length : Int)
              · have k2b : decide (f0 < (us.length : Int)) = true := by simpa using k2
                have k4b : (f0 == (us.length : Int)) = false := by simp; omega
                have x0 := relt HRD.out f0.toNat (by omega)
                rw [Int.toNat_of_nonneg q0, add_plain] at x0
                have HV : Aside0 (wfold us us.length bs (i + 1) = (lo, mn hi_ (wrap64 (rd us f0 + f2)))) := ⟨by rw [HWS.out, if_pos ⟨k1, k2⟩]⟩
                clear k1 hnei HWS
                generalize rd us f0 = t at x0 HV
                by_cases k5 : wrap64 (t + f2) < hi_
                · have k5b : decide (wrap64 (t + f2) < hi_) = true := by simpa using k5
                  have HV2 : Aside0 (wfold us us.length bs (i + 1) = (lo, wrap64 (t + f2))) := ⟨by rw [HV.out]; unfold mn; rw [if_pos k5]⟩
                  clear HV k5
                  go_wp2_with fail
                  go_quiet (fail)
                  go_wp2_with fail
                  have HBu := Aside0.mk (below_step HBI.out (pw_below_drewN (Below.refl _ wr) nq))
                  replace a0 : (wr.drewN nq).cell? _ = _ := a0
                  replace a1 : (wr.drewN nq).cell? _ = _ := a1
                  replace a2 : (wr.drewN nq).cell? _ = _ := a2
                  (try replace x0 : (wr.drewN nq).cell? _ = _ := x0)
                  generalize wr.drewN nq = V0 at *
                  go_quiet (fail)
                  go_wp2_with fail
                  replace HBI := HBu
                  have HBv := Aside0.mk (below_step HBI.out (pw_below_drewN (Below.refl _ V0) nq))
                  replace a0 : (V0.drewN nq).cell? _ = _ := a0
                  replace a1 : (V0.drewN nq).cell? _ = _ := a1
                  replace a2 : (V0.drewN nq).cell? _ = _ := a2
                  (try replace x0 : (V0.drewN nq).cell? _ = _ := x0)
                  generalize V0.drewN nq = V1 at *
                  go_quiet (fail)
                  go_wp2_with fail
                  go_roundw
                  case rel => exact ⟨i + 1, by go_num, by rw [HV2.out], by rw [HV2.out], by omega, ⟨below_step HBv.out (pw_below_drewN (Below.refl _ V1) nq)⟩⟩
                  case measure => simp [intOf]; omega
                · have k5b : decide (wrap64 (t + f2) < hi_) = false := by simpa using k5
                  have HV2 : Aside0 (wfold us us.length bs (i + 1) = (lo, hi_)) := ⟨by rw [HV.out]; unfold mn; rw [if_neg k5]⟩
                  clear HV k5
                  go_wp2_with fail
                  go_quiet (fail)
                  go_wp2_with fail
                  have HBu := Aside0.mk (below_step HBI.out (pw_below_drewN (Below.refl _ wr) nq))
                  replace a0 : (wr.drewN nq).cell? _ = _ := a0
                  replace a1 : (wr.drewN nq).cell? _ = _ := a1
                  replace a2 : (wr.drewN nq).cell? _ = _ := a2
                  (try replace x0 : (wr.drewN nq).cell? _ = _ := x0)
                  generalize wr.drewN nq = V0 at *
                  go_quiet (fail)
                  go_wp2_with fail
                  go_roundw
                  case rel => exact ⟨i + 1, by go_num, by rw [HV2.out], by rw [HV2.out], by omega, ⟨below_step HBu.out (pw_below_drewN (Below.refl _ V0) nq)⟩⟩
                  case measure => simp [intOf]; omega
              · have k2b : decide (f0 < (us.length : Int)) = false := by simpa using k2
                have HV2 : Aside0 (wfold us us.length bs (i + 1) = (lo, hi_)) := ⟨by rw [HWS.out, if_neg (fun h => k2 h.2), if_neg (fun h => by omega)]⟩
                have k4b : (f0 == (us.length : Int)) = false := by simp; omega
                clear k1 k2 hnei HWS
                go_wp2_with fail
                go_quiet (fail)
                go_wp2_with fail
                have HBu := Aside0.mk (below_step HBI.out (pw_below_drewN (Below.refl _ wr) nq))
                replace a0 : (wr.drewN nq).cell? _ = _ := a0
                replace a1 : (wr.drewN nq).cell? _ = _ := a1
                replace a2 : (wr.drewN nq).cell? _ = _ := a2
                (try replace x0 : (wr.drewN nq).cell? _ = _ := x0)
                generalize wr.drewN nq = V0 at *
                go_quiet (fail)
                go_wp2_with fail
                go_roundw
                case rel => exact ⟨i + 1, by go_num, by rw [HV2.out], by rw [HV2.out], by omega, ⟨below_step HBu.out (pw_below_drewN (Below.refl _ V0) nq)⟩⟩
                case measure => simp [intOf]; omega
            · have k1b : (f1 == (us.length : Int)) = false := by simpa using k1
              by_cases k4 : f0 = (us.length : Int)
              · have k4b : (f0 == (us.length : Int)) = true := by simpa using k4
                by_cases k3 : f1 < (us.length : Int)
                · have k3b : decide (f1 < (us.length : Int)) = true := by simpa using k3
                  have x0 := relt HRD.out f1.toNat (by omega)
                  rw [Int.toNat_of_nonneg q1, add_plain] at x0
                  have HV : Aside0 (wfold us us.length bs (i + 1) = (mx lo (wrap64 (rd us f1 - f2)), hi_)) := ⟨by rw [HWS.out, if_neg (fun h => k1 h.1), if_pos ⟨k4, k3⟩]⟩
                  clear k1 k4 hnei HWS
                  generalize rd us f1 = t at x0 HV
                  by_cases k5 : lo < wrap64 (t - f2)
                  · have k5b : decide (wrap64 (t - f2) > lo) = true := by simpa using k5
                    have HV2 : Aside0 (wfold us us.length bs (i + 1) = (wrap64 (t - f2), hi_)) := ⟨by rw [HV.out]; unfold mx; rw [if_pos k5]⟩
                    clear HV k5
                    go_wp2_with fail
                    go_quiet (fail)
                    go_wp2_with fail
                    have HBu := Aside0.mk (below_step HBI.out (pw_below_drewN (Below.refl _ wr) nq))
                    replace a0 : (wr.drewN nq).cell? _ = _ := a0
                    replace a1 : (wr.drewN nq).cell? _ = _ := a1
                    replace a2 : (wr.drewN nq).cell? _ = _ := a2
                    (try replace x0 : (wr.drewN nq).cell? _ = _ := x0)
                    generalize wr.drewN nq = V0 at *
                    go_quiet (fail)
                    go_wp2_with fail
                    replace HBI := HBu
                    have HBv := Aside0.mk (below_step HBI.out (pw_below_drewN (Below.refl _ V0) nq))
                    replace a0 : (V0.drewN nq).cell? _ = _ := a0
                    replace a1 : (V0.drewN nq).cell? _ = _ := a1
                    replace a2 : (V0.drewN nq).cell? _ = _ := a2
                    (try replace x0 : (V0.drewN nq).cell? _ = _ := x0)
                    generalize V0.drewN nq = V1 at *
                    go_quiet (fail)
                    go_wp2_with fail
                    go_roundw
                    case rel => exact ⟨i + 1, by go_num, by rw [HV2.out], by rw [HV2.out], by omega, ⟨below_step HBv.out (pw_below_drewN (Below.refl _ V1) nq)⟩⟩
                    case measure => simp [intOf]; omega
                  · have k5b : decide (wrap64 (t - f2) > lo) = false := by simpa using k5
                    have HV2 : Aside0 (wfold us us.length bs (i + 1) = (lo, hi_)) := ⟨by rw [HV.out]; unfold mx; rw [if_neg k5]⟩
                    clear HV k5
                    go_wp2_with fail
                    go_quiet (fail)
                    go_wp2_with fail
                    have HBu := Aside0.mk (below_step HBI.out (pw_below_drewN (Below.refl _ wr) nq))
                    replace a0 : (wr.drewN nq).cell? _ = _ := a0
                    replace a1 : (wr.drewN nq).cell? _ = _ := a1
                    replace a2 : (wr.drewN nq).cell? _ = _ := a2
                    (try replace x0 : (wr.drewN nq).cell? _ = _ := x0)
                    generalize wr.drewN nq = V0 at *
                    go_quiet (fail)
                    go_wp2_with fail
                    go_roundw
                    case rel => exact ⟨i + 1, by go_num, by rw [HV2.out], by rw [HV2.out], by omega, ⟨below_step HBu.out (pw_below_drewN (Below.refl _ V0) nq)⟩⟩
                    case measure => simp [intOf]; omega
                · have k3b : decide (f1 < (us.length : Int)) = false := by simpa using k3
                  have HV2 : Aside0 (wfold us us.length bs (i + 1) = (lo, hi_)) := ⟨by rw [HWS.out, if_neg (fun h => k1 h.1), if_neg (fun h => k3 h.2)]⟩
                  clear k1 k4 k3 hnei HWS
                  go_wp2_with fail
                  go_quiet (fail)
                  go_wp2_with fail
                  have HBu := Aside0.mk (below_step HBI.out (pw_below_drewN (Below.refl _ wr) nq))
                  replace a0 : (wr.drewN nq).cell? _ = _ := a0
                  replace a1 : (wr.drewN nq).cell? _ = _ := a1
                  replace a2 : (wr.drewN nq).cell? _ = _ := a2
                  (try replace x0 : (wr.drewN nq).cell? _ = _ := x0)
                  generalize wr.drewN nq = V0 at *
                  go_quiet (fail)
                  go_wp2_with fail
                  go_roundw
                  case rel => exact ⟨i + 1, by go_num, by rw [HV2.out], by rw [HV2.out], by omega, ⟨below_step HBu.out (pw_below_drewN (Below.refl _ V0) nq)⟩⟩
                  case measure => simp [intOf]; omega
              · have k4b : (f0 == (us.length : Int)) = false := by simpa using k4
                have HV2 : Aside0 (wfold us us.length bs (i + 1) = (lo, hi_)) := ⟨by rw [HWS.out, if_neg (fun h => k1 h.1), if_neg (fun h => k4 h.1)]⟩
                clear k1 k4 hnei HWS
                go_wp2_with fail
                go_quiet (fail)
                go_wp2_with fail
                have HBu := Aside0.mk (below_step HBI.out (pw_below_drewN (Below.refl _ wr) nq))
                replace a0 : (wr.drewN nq).cell? _ = _ := a0
                replace a1 : (wr.drewN nq).cell? _ = _ := a1
                replace a2 : (wr.drewN nq).cell? _ = _ := a2
                (try replace x0 : (wr.drewN nq).cell? _ = _ := x0)
                generalize wr.drewN nq = V0 at *
                go_quiet (fail)
                go_wp2_with fail
                go_roundw
                case rel => exact ⟨i + 1, by go_num, by rw [HV2.out], by rw [HV2.out], by omega, ⟨below_step HBu.out (pw_below_drewN (Below.refl _ V0) nq)⟩⟩
                case measure => simp [intOf]; omega
          · have hitb : decide ((i : Int) < (bs.length : Int)) = false := by simpa using hit
            obtain rfl : i = bs.length := by omega
            have HRN := Aside0.mk (HST.out (E.length - us.length - 1) us HG.out.2 (wfold us us.length bs bs.length).1 (wfold us us.length bs bs.length).2 rfl)
            rw [show E.length - us.length - 1 + 1 = E.length - us.length from by omega] at HRN
            generalize wfold us us.length bs bs.length = W at HRN ⊢
            obtain ⟨lo, hi_⟩ := W
            simp only at HRN ⊢
            by_cases hlo : hi_ < lo
            · have hlob : decide (lo > hi_) = true := by simpa using hlo
              have hG := HG.out.1
              rw [HRN.out.1 hlo] at hG
              injection hG with hG; injection hG with e1 e2
              subst e1; subst e2
              clear HG HRN hlo
              go_wp2_with fail
              go_ret3
              exact ⟨_, rfl, Kd.R_nil _ _ _ _ _, below_step HB4.out (below_step HT.out.2 HBI.out)⟩
            · have hlob : decide (lo > hi_) = false := by simpa using hlo
              obtain ⟨n1, n2, n3⟩ := HRN.out.2 (by omega)
              have HN3 := Aside0.mk n3
              have HTI := Aside0.mk (HT.out.below HBI.out)
              have HTL : Aside0 (us.length < 1000000) := ⟨by omega⟩
              clear HRN hlo n3
              by_cases hch : us.length < ch.length
              · have hchb : decide ((us.length : Int) < (ch.length : Int)) = true := by simpa using hch
                have hc0 : (0 : Int) ≤ (us.length : Int) := by omega
                have hc1' : (us.length : Int) < (ch.length : Int) := by omega
                obtain ⟨_, e1, x0⟩ := Kd.at_int (Kd.C_below HR2.out (below_step HB4.out HTI.out.2)) (us.length : Int) hc0 hc1'
                cases e1
                simp only [Int.toNat_natCast] at x0
                have HKK := Aside0.mk n1
                have HKP := Aside0.mk n2
                have hk0 : ¬ (wrap64 (wrap64 (hi_ - lo) + 1) = 0) := by rw [n1]; omega
                have HPK : Aside0 (pickR (rd ch (us.length : Int)) (hi_ - lo + 1) = if Int.tmod (rd ch (us.length : Int)) (wrap64 (wrap64 (hi_ - lo) + 1)) < 0 then wrap64 (Int.tmod (rd ch (us.length : Int)) (wrap64 (wrap64 (hi_ - lo) + 1)) + wrap64 (wrap64 (hi_ - lo) + 1)) else Int.tmod (rd ch (us.length : Int)) (wrap64 (wrap64 (hi_ - lo) + 1))) := ⟨by rw [n1]; rfl⟩
                clear n1 n2
                generalize rd ch (us.length : Int) = cc at x0 HPK HN3
                by_cases hneg : Int.tmod cc (wrap64 (wrap64 (hi_ - lo) + 1)) < 0
                · have hnegb : decide (Int.tmod cc (wrap64 (wrap64 (hi_ - lo) + 1)) < 0) = true := by simpa using hneg
                  have HNX := Aside0.mk (HN3.out (pickR cc (hi_ - lo + 1)) (by rw [if_pos hch]))
                  rw [HPK.out, if_pos hneg] at HNX
                  clear hneg HN3 HPK
                  go_wp2_with ((with_reducible refine gate_builtin (b := .append) (xs := #[.tmp 152, .tmp 156]) rfl ?_); at_builtin; refine StopAt.mk ?_)
                  unfold StopAt
                  refine outI_append (w := w4) rfl (.tmp 152) (.tmp 156) rfl _ us _ rfl (by first | (go_simp; done) | (go_simp; rfl)) HTI.out HTL.out ?_
                  intro v8 w8 hT8
                  have HT8 := Aside0.mk hT8
                  clear hT8
                  go_wp2_with fail
                  go_roundw
                  case rel => exact ⟨us ++ [_], by simp, by simp; omega, HT8, ⟨by rw [← HG.out.1, HNX.out.1, List.length_append]; simp only [List.length_cons, List.length_nil]; rw [show E.length - (us.length + (0 + 1)) = E.length - us.length - 1 from by omega], HNX.out.2⟩⟩
                  case measure => simp [intOf]; omega
                · have hnegb : decide (Int.tmod cc (wrap64 (wrap64 (hi_ - lo) + 1)) < 0) = false := by simpa using hneg
                  have HNX := Aside0.mk (HN3.out (pickR cc (hi_ - lo + 1)) (by rw [if_pos hch]))
                  rw [HPK.out, if_neg hneg] at HNX
                  clear hneg HN3 HPK
                  go_wp2_with ((with_reducible refine gate_builtin (b := .append) (xs := #[.tmp 152, .tmp 156]) rfl ?_); at_builtin; refine StopAt.mk ?_)
                  unfold StopAt
                  refine outI_append (w := w4) rfl (.tmp 152) (.tmp 156) rfl _ us _ rfl (by first | (go_simp; done) | (go_simp; rfl)) HTI.out HTL.out ?_
                  intro v8 w8 hT8
                  have HT8 := Aside0.mk hT8
                  clear hT8
                  go_wp2_with fail
                  go_roundw
                  case rel => exact ⟨us ++ [_], by simp, by simp; omega, HT8, ⟨by rw [← HG.out.1, HNX.out.1, List.length_append]; simp only [List.length_cons, List.length_nil]; rw [show E.length - (us.length + (0 + 1)) = E.length - us.length - 1 from by omega], HNX.out.2⟩⟩
                  case measure => simp [intOf]; omega
              · have hchb : decide ((us.length : Int) < (ch.length : Int)) = false := by simpa using hch
                have HNX := Aside0.mk (HN3.out 0 (by rw [if_neg hch]))
                rw [Int.add_zero] at HNX
                clear HN3 n1 n2
                go_wp2_with ((with_reducible refine gate_builtin (b := .append) (xs := #[.tmp 152, .tmp 156]) rfl ?_); at_builtin; refine StopAt.mk ?_)
                unfold StopAt
                refine outI_append (w := w4) rfl (.tmp 152) (.tmp 156) rfl _ us _ rfl (by first | (go_simp; done) | (go_simp; rfl)) HTI.out HTL.out ?_
                intro v8 w8 hT8
                have HT8 := Aside0.mk hT8
                clear hT8
                go_wp2_with fail
                go_roundw
                case rel => exact ⟨us ++ [_], by simp, by simp; omega, HT8, ⟨by rw [← HG.out.1, HNX.out.1, List.length_append]; simp only [List.length_cons, List.length_nil]; rw [show E.length - (us.length + (0 + 1)) = E.length - us.length - 1 from by omega], HNX.out.2⟩⟩
                case measure => simp [intOf]; omega
      · have hltb : decide ((us.length : Int) < (E.length : Int)) = false := by simpa using hlt
        have he : us.length = E.length := by omega
        have hG := HG.out.1
        rw [he, Nat.sub_self, runGo] at hG
        injection hG with hG; injection hG with e1 e2
        subst e1; subst e2
        clear he HG
        go_wp2_with fail
        go_ret3
        exact ⟨_, rfl, Kd.R_lower HT.out.1 HB4.out.size, below_step HB4.out HT.out.2⟩
end Go.Proofs.Ytlfopemghafboaa.D
