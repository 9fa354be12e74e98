/- The contract of the reference's CheckCircle, by a walk through its code. No condition beyond each theorem's own hypotheses. -/
import Derived.Test.YtlfopemghafboaaDe9
namespace Go.Proofs.Ytlfopemghafboaa.D
open Go.RowKit Go.Proofs.YtlfopemghafboaaW.PrintWords Go.Proofs.YtlfopemghafboaaW.PrintLast Go.Proofs.YtlfopemghafboaaW.PrintMore
set_option linter.unusedVariables false
set_option linter.unusedSimpArgs false
theorem checkcircle_val {R : List S42} {E : List S80} (hK : PlanOK R E) (h24 : E.length ≤ 24) (ps : List Int) (r : Int) (h : dr_CheckCircle.f R E ps = some r) :
    ((¬ (1 ≤ ps.length ∧ ps.length ≤ 100) ∨ ¬ (0 ≤ rd ps 0 ∧ rd ps 0 < (bindsL R E).length)) → r = 313) ∧ ((1 ≤ ps.length ∧ ps.length ≤ 100) → ∀ s is, ChainOut (bindsL R E) (rd_T27 (bindsL R E) (rd ps 0)).f0 (rd_T27 (bindsL R E) (rd ps 0)).f0 ps s is → r = if is = true ∧ s < 0 then 0 else 313) := by
  have hO := bindsL_ok0 hK h24
  unfold dr_CheckCircle.f at h
  rw [if_pos ((planOK_iff R E).2 hK)] at h
  injection h with h
  subst h
  have key : ∀ a b s, chainF (bindsL R E) ps = (a, b, s, true) → FC (bindsL R E) a b ps ∧ s = wsum (bindsL R E) ps ∧ 1 ≤ ps.length ∧ ps.length ≤ 100 := fun a b s hh => chainF_to hO.bd hO.nn (by omega) ps a b s hh
  have self : (chainF (bindsL R E) ps).2.2.2 = true → chainF (bindsL R E) ps = ((chainF (bindsL R E) ps).1, (chainF (bindsL R E) ps).2.1, (chainF (bindsL R E) ps).2.2.1, true) := fun e => by rw [← e]
  constructor
  · intro hbad
    rw [if_neg]
    rintro ⟨e1, _⟩
    obtain ⟨k1, k2, k3, k4⟩ := key _ _ _ (self e1)
    have hm := FC_mem ps _ _ k1 (rd ps 0) (int_mem ps 0 (by omega) (by omega))
    rcases hbad with hb | hb
    · exact hb ⟨k3, k4⟩
    · exact hb hm
  · intro hl s is hc
    obtain ⟨c1, c2⟩ := hc
    by_cases hF : FC (bindsL R E) (rd_T27 (bindsL R E) (rd ps 0)).f0 (rd_T27 (bindsL R E) (rd ps 0)).f0 ps
    · have e1 := c1.2 hF
      have e2 := c2 e1
      subst e2
      rw [chainF_of hO.bd hO.nn (by omega) ps _ _ hF hl.1 hl.2]
      show (if true = true ∧ (rd_T27 (bindsL R E) (rd ps 0)).f0 = (rd_T27 (bindsL R E) (rd ps 0)).f0 ∧ wsum (bindsL R E) ps < 0 then (0 : Int) else 313) = _
      by_cases hm : wsum (bindsL R E) ps < 0
      · rw [if_pos ⟨rfl, rfl, hm⟩, if_pos ⟨e1, hm⟩]
      · rw [if_neg (fun h => hm h.2.2), if_neg (fun h => hm h.2)]
    · rw [if_neg, if_neg (fun h => hF (c1.1 h.1))]
      rintro ⟨e1, e2, _⟩
      obtain ⟨k1, _⟩ := key _ _ _ (self e1)
      rw [← e2] at k1
      have := FC_head ps _ _ k1 hl.1
      rw [← this] at k1
      exact hF k1
set_option maxHeartbeats 3200000 in
set_option maxRecDepth 100000 in
theorem rcheckcircle_any (R : List S42) (E : List S80) (A0 A1 : Option Addr) (c0 c1 : Nat) (w : World) (hr0 : Kd.C k42 w A0 R.length R) (hc0 : R.length ≤ c0) (hr1 : Kd.C k80 w A1 E.length E) (hc1 : E.length ≤ c1) (h24 : E.length ≤ 24) (A2 : Option Addr) (c2 : Nat) (ps : List Int) (hr2 : Kd.C (Kd.int .i64) w A2 ps.length ps) (r : Int) (h : dr_CheckCircle.f R E ps = some r) :
    Calls Try.prog 55 #[.agg #[.slice A0 R.length c0, .slice A1 E.length c1], .slice A2 ps.length c2] w fun e w' => e = .returned (.int .i64 r) ∧ Below w.heap.size w w' := by
  have HR0 := Aside0.mk hr0
  have HR1 := Aside0.mk hr1
  have HC0 := Aside0.mk hc0
  have HC1 := Aside0.mk hc1
  have HI : Aside0 (rf_IsPlan.f 1000 R E = some (planOK R E)) := ⟨isPlan_val R E 1000 (by omega)⟩
  clear hr0 hr1 hc0 hc1
  have HR2 := Aside0.mk hr2
  clear hr2
  cases hpl : planOK R E
  · rw [hpl] at HI
    unfold dr_CheckCircle.f at h
    rw [if_neg (by rw [hpl]; decide)] at h
    injection h with h
    subst h
    clear hpl
    go_enter Try.func55, Try.ntmps55
    go_wp2_with (first
      | ((with_reducible refine gate_dst (N := 2) rfl ?_); refine box_event ?hg (N := 2) ?hd (cs := #[.slice A0 R.length c0, .slice A1 E.length c1]) (t := 25) ?hr ?_; (case hd => rfl); (case hg => rfl); (case hr => first | (go_simp; done) | (go_simp; rfl)); intro gb hg w2 hbox hb; have HB := Aside0.mk hb; have BX := Aside0.mk hbox; have p0 : w2.cell? ⟨gb, 0, none⟩ = some (.slice A0 R.length c0) := (blk_cell hbox 0).trans rfl; have p1 : w2.cell? ⟨gb, 1, none⟩ = some (.slice A1 E.length c1) := (blk_cell hbox 1).trans rfl; clear hb hbox hg)
      | (go_at_call 28; refine (rf_IsPlan.calls 1000 A0 c0 R A1 c1 E _ _ (Kd.C_below HR0.out HB.out) HC0.out (Kd.C_below HR1.out HB.out) HC1.out HI.out).mono ?_; rintro e w3 ⟨rfl, hb3⟩; have HB3 := Aside0.mk (below_step HB.out hb3); have BX3 := Aside0.mk (blk_below BX.out hb3); clear p0 p1; have p0 : w3.cell? ⟨gb, 0, none⟩ = some (.slice A0 R.length c0) := (blk_cell BX3.out 0).trans rfl; have p1 : w3.cell? ⟨gb, 1, none⟩ = some (.slice A1 E.length c1) := (blk_cell BX3.out 1).trans rfl; clear hb3))
    go_ret
    exact ⟨rfl, HB3.out⟩
  · rw [hpl] at HI
    have hK := (planOK_iff R E).1 hpl
    obtain ⟨v1, v2⟩ := checkcircle_val hK h24 ps r h
    have V2 := Aside0.mk v2
    have HK := Aside0.mk hK
    clear h v2 hpl hK
    by_cases hl : 1 ≤ ps.length ∧ ps.length ≤ 100
    · obtain ⟨l1, l2⟩ := hl
      have c1_ : decide ((ps.length : Int) < 1) = false := by simp; omega
      have c2_ : decide ((ps.length : Int) > 100) = false := by simp; omega
      have hz1 : (0 : Int) < (ps.length : Int) := by omega
      have hz0 : 0 < ps.length := by omega
      obtain ⟨w_, e1, x0⟩ := Kd.at_int HR2.out 0 (by omega) hz1
      subst e1
      simp only [Int.toNat_zero, Addr.add_zero'] at x0
      have X0 := Aside0.mk x0
      clear x0
      by_cases hq : 0 ≤ rd ps 0 ∧ rd ps 0 < (bindsL R E).length
      · obtain ⟨q0, q1⟩ := hq
        have c3_ : decide (rd ps 0 < 0) = false := by simp; omega
        have c4_ : decide (rd ps 0 ≥ ((bindsL R E).length : Int)) = false := by simp; omega
        have HQ := Aside0.mk (And.intro q0 q1)
        clear v1
        go_enter Try.func55, Try.ntmps55
        go_wp2_with (first
      | ((with_reducible refine gate_dst (N := 2) rfl ?_); refine box_event ?hg (N := 2) ?hd (cs := #[.slice A0 R.length c0, .slice A1 E.length c1]) (t := 25) ?hr ?_; (case hd => rfl); (case hg => rfl); (case hr => first | (go_simp; done) | (go_simp; rfl)); intro gb hg w2 hbox hb; have HB := Aside0.mk hb; have BX := Aside0.mk hbox; have p0 : w2.cell? ⟨gb, 0, none⟩ = some (.slice A0 R.length c0) := (blk_cell hbox 0).trans rfl; have p1 : w2.cell? ⟨gb, 1, none⟩ = some (.slice A1 E.length c1) := (blk_cell hbox 1).trans rfl; clear hb hbox hg)
      | (go_at_call 28; refine (rf_IsPlan.calls 1000 A0 c0 R A1 c1 E _ _ (Kd.C_below HR0.out HB.out) HC0.out (Kd.C_below HR1.out HB.out) HC1.out HI.out).mono ?_; rintro e w3 ⟨rfl, hb3⟩; have HB3 := Aside0.mk (below_step HB.out hb3); have BX3 := Aside0.mk (blk_below BX.out hb3); clear p0 p1; have p0 : w3.cell? ⟨gb, 0, none⟩ = some (.slice A0 R.length c0) := (blk_cell BX3.out 0).trans rfl; have p1 : w3.cell? ⟨gb, 1, none⟩ = some (.slice A1 E.length c1) := (blk_cell BX3.out 1).trans rfl; clear hb3)
      | (go_at_call 65; refine (rbinds_any R E A0 A1 c0 c1 _ (Kd.C_below HR0.out HB3.out) HC0.out (Kd.C_below HR1.out HB3.out) HC1.out HK.out).mono ?_; rintro e w4 ⟨v4, rfl, hO⟩; obtain ⟨A4, c4, e4, _, hC4⟩ := hO.reads; subst e4; have HB4 := Aside0.mk (below_step HB3.out hO.2); have HC4 := Aside0.mk hC4; have x0 := (HB4.out.cell (World.block_lt_of_cell? _ _ X0.out)).trans X0.out; clear hO hC4 p0 p1))
        obtain ⟨v_, e1, y0, _, _⟩ := at_T27 HC4.out (rd ps 0) HQ.out.1 HQ.out.2
        subst e1
        have hS0 : w4.cell? w_ = some (.int .i64 (rd ps 0)) ∧ w4.cell? (v_.add ((rd ps 0).toNat * 3)) = some (.int .i64 (rd_T27 (bindsL R E) (rd ps 0)).f0) := ⟨x0, y0⟩
        go_region_held3 (fun w' => w'.cell? w_ = some (.int .i64 (rd ps 0)) ∧ w'.cell? (v_.add ((rd ps 0).toNat * 3)) = some (.int .i64 (rd_T27 (bindsL R E) (rd ps 0)).f0)) ((first | exact hS0 | exact hS1)) ((first
          | (go_at_call 64; refine (rchain_any (some v_) (some w_) c4 c2 (bindsL R E) _ _ ps _ (Kd.C_drew HC4.out) (Kd.C_below HR2.out (below_drew1 HB4.out)) (bindsL_ok0 HK.out h24).bd l2).mono ?_; rintro e w5 ⟨s, is, rfl, hb5, hCO⟩; have HB5 := Aside0.mk (below_step (below_drew1 HB4.out) hb5); have HCO := Aside0.mk hCO; have hS1 : w5.cell? w_ = some (.int .i64 (rd ps 0)) ∧ w5.cell? (v_.add ((rd ps 0).toNat * 3)) = some (.int .i64 (rd_T27 (bindsL R E) (rd ps 0)).f0) := ⟨bkeep_ hb5 hS0.1, bkeep_ hb5 hS0.2⟩; clear hb5 hCO)))
        have hr := V2.out ⟨l1, l2⟩ s is HCO.out
        clear V2 HCO hS0 hS1 x0 y0 HC4
        cases is
        · rw [if_neg (by rintro ⟨h, _⟩; cases h)] at hr
          subst hr
          go_wp2_with fail
          go_ret
          exact ⟨rfl, HB5.out⟩
        · by_cases hm : s < 0
          · have hmb : decide (s ≥ 0) = false := by simp; omega
            rw [if_pos ⟨rfl, hm⟩] at hr
            subst hr
            clear hm
            go_wp2_with fail
            go_ret
            exact ⟨rfl, HB5.out⟩
          · have hmb : decide (s ≥ 0) = true := by simp; omega
            rw [if_neg (fun h => hm h.2)] at hr
            subst hr
            clear hm
            go_wp2_with fail
            go_ret
            exact ⟨rfl, HB5.out⟩
      · have hr := v1 (.inr hq)
        subst hr
        rcases (show decide (rd ps 0 < 0) = true ∨ (decide (rd ps 0 < 0) = false ∧ decide (rd ps 0 ≥ ((bindsL R E).length : Int)) = true) by
          by_cases h1 : rd ps 0 < 0
          · left; simpa using h1
          · right; exact ⟨by simpa using h1, by simp; omega⟩) with c3_ | ⟨c3_, c4_⟩ <;> (
          clear hq v1 V2
          go_enter Try.func55, Try.ntmps55
          go_wp2_with (first
      | ((with_reducible refine gate_dst (N := 2) rfl ?_); refine box_event ?hg (N := 2) ?hd (cs := #[.slice A0 R.length c0, .slice A1 E.length c1]) (t := 25) ?hr ?_; (case hd => rfl); (case hg => rfl); (case hr => first | (go_simp; done) | (go_simp; rfl)); intro gb hg w2 hbox hb; have HB := Aside0.mk hb; have BX := Aside0.mk hbox; have p0 : w2.cell? ⟨gb, 0, none⟩ = some (.slice A0 R.length c0) := (blk_cell hbox 0).trans rfl; have p1 : w2.cell? ⟨gb, 1, none⟩ = some (.slice A1 E.length c1) := (blk_cell hbox 1).trans rfl; clear hb hbox hg)
      | (go_at_call 28; refine (rf_IsPlan.calls 1000 A0 c0 R A1 c1 E _ _ (Kd.C_below HR0.out HB.out) HC0.out (Kd.C_below HR1.out HB.out) HC1.out HI.out).mono ?_; rintro e w3 ⟨rfl, hb3⟩; have HB3 := Aside0.mk (below_step HB.out hb3); have BX3 := Aside0.mk (blk_below BX.out hb3); clear p0 p1; have p0 : w3.cell? ⟨gb, 0, none⟩ = some (.slice A0 R.length c0) := (blk_cell BX3.out 0).trans rfl; have p1 : w3.cell? ⟨gb, 1, none⟩ = some (.slice A1 E.length c1) := (blk_cell BX3.out 1).trans rfl; clear hb3)
      | (go_at_call 65; refine (rbinds_any R E A0 A1 c0 c1 _ (Kd.C_below HR0.out HB3.out) HC0.out (Kd.C_below HR1.out HB3.out) HC1.out HK.out).mono ?_; rintro e w4 ⟨v4, rfl, hO⟩; obtain ⟨A4, c4, e4, _, hC4⟩ := hO.reads; subst e4; have HB4 := Aside0.mk (below_step HB3.out hO.2); have HC4 := Aside0.mk hC4; have x0 := (HB4.out.cell (World.block_lt_of_cell? _ _ X0.out)).trans X0.out; clear hO hC4 p0 p1))
          go_ret
          exact ⟨rfl, HB4.out⟩)
    · have hr := v1 (.inl hl)
      subst hr
      rcases (show decide ((ps.length : Int) < 1) = true ∨ (decide ((ps.length : Int) < 1) = false ∧ decide ((ps.length : Int) > 100) = true) by
        by_cases h1 : ps.length < 1
        · left; simp; omega
        · right; exact ⟨by simp; omega, by simp; omega⟩) with c3_ | ⟨c3_, c4_⟩ <;> (
        clear hl v1 V2
        go_enter Try.func55, Try.ntmps55
        go_wp2_with (first
      | ((with_reducible refine gate_dst (N := 2) rfl ?_); refine box_event ?hg (N := 2) ?hd (cs := #[.slice A0 R.length c0, .slice A1 E.length c1]) (t := 25) ?hr ?_; (case hd => rfl); (case hg => rfl); (case hr => first | (go_simp; done) | (go_simp; rfl)); intro gb hg w2 hbox hb; have HB := Aside0.mk hb; have BX := Aside0.mk hbox; have p0 : w2.cell? ⟨gb, 0, none⟩ = some (.slice A0 R.length c0) := (blk_cell hbox 0).trans rfl; have p1 : w2.cell? ⟨gb, 1, none⟩ = some (.slice A1 E.length c1) := (blk_cell hbox 1).trans rfl; clear hb hbox hg)
      | (go_at_call 28; refine (rf_IsPlan.calls 1000 A0 c0 R A1 c1 E _ _ (Kd.C_below HR0.out HB.out) HC0.out (Kd.C_below HR1.out HB.out) HC1.out HI.out).mono ?_; rintro e w3 ⟨rfl, hb3⟩; have HB3 := Aside0.mk (below_step HB.out hb3); have BX3 := Aside0.mk (blk_below BX.out hb3); clear p0 p1; have p0 : w3.cell? ⟨gb, 0, none⟩ = some (.slice A0 R.length c0) := (blk_cell BX3.out 0).trans rfl; have p1 : w3.cell? ⟨gb, 1, none⟩ = some (.slice A1 E.length c1) := (blk_cell BX3.out 1).trans rfl; clear hb3)
      | (go_at_call 65; refine (rbinds_any R E A0 A1 c0 c1 _ (Kd.C_below HR0.out HB3.out) HC0.out (Kd.C_below HR1.out HB3.out) HC1.out HK.out).mono ?_; rintro e w4 ⟨v4, rfl, hO⟩; obtain ⟨A4, c4, e4, _, hC4⟩ := hO.reads; subst e4; have HB4 := Aside0.mk (below_step HB3.out hO.2); have HC4 := Aside0.mk hC4;  clear hO hC4 p0 p1))
        go_ret
        exact ⟨rfl, HB4.out⟩)
end Go.Proofs.Ytlfopemghafboaa.D
