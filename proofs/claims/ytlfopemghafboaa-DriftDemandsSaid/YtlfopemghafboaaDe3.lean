/- The contract of the law's helper reaches, by a walk through its code. No condition beyond each theorem's own hypotheses. -/
import Derived.Test.YtlfopemghafboaaDe2
namespace Go.Proofs.Ytlfopemghafboaa.D
open Go.RowKit Go.Proofs.YtlfopemghafboaaW.PrintWords Go.Proofs.YtlfopemghafboaaW.PrintLast Go.Proofs.YtlfopemghafboaaW.PrintMore
set_option linter.unusedVariables false
set_option linter.unusedSimpArgs false
set_option maxHeartbeats 3200000 in
set_option maxRecDepth 100000 in
theorem reaches_any (R : List S42) (E : List S80) (A0 A1 : Option Addr) (c0 c1 : Nat) (fr tt m d : Int) (w : World) (hr0 : Kd.C k42 w A0 R.length R) (hc0 : R.length ≤ c0) (hr1 : Kd.C k80 w A1 E.length E) (hc1 : E.length ≤ c1) (hK : PlanOK R E) (hd : IntKind.i64.wrap (m - 1) = d)
    (h : decide (m < 1) = true ∨ (decide (m < 1) = false ∧ decide (d > 1000000) = true) ∨ ((decide (m < 1) = false ∧ decide (d > 1000000) = false) ∧ ∃ ts, dr_Breach.f R E fr tt 0 d = some (ts, true, 0) ∧ isRunB R E ts = true)) :
    Calls Try.prog 51 #[.agg #[.slice A0 R.length c0, .slice A1 E.length c1], .int .i64 fr, .int .i64 tt, .int .i64 m] w fun e w' => e = .returned (.bool true) ∧ Below w.heap.size w w' := by
  have HK := Aside0.mk hK
  have HR0 := Aside0.mk hr0
  have HR1 := Aside0.mk hr1
  have HC0 := Aside0.mk hc0
  have HC1 := Aside0.mk hc1
  clear hr0 hr1 hc0 hc1 hK
  rcases h with c1_ | ⟨c1_, c2_⟩ | ⟨⟨c1_, c2_⟩, ts, hb1, hb2⟩
  · go_enter Try.func51, Try.ntmps51
    go_wp2_with (first | ((with_reducible refine gate_dst (N := 4) rfl ?_); refine box_event ?hg (N := 4) ?hd (cs := #[.slice A0 R.length c0, .slice A1 E.length c1]) (t := 25) ?hr ?_; (case hd => rfl); (case hg => rfl); (case hr => first | (go_simp; done) | (go_simp; rfl)); intro gb hg w2 hbox hb; have HB := Aside0.mk hb; clear hb hbox hg))
    go_ret
    exact ⟨rfl, HB.out⟩
  · go_enter Try.func51, Try.ntmps51
    go_wp2_with (first | ((with_reducible refine gate_dst (N := 4) rfl ?_); refine box_event ?hg (N := 4) ?hd (cs := #[.slice A0 R.length c0, .slice A1 E.length c1]) (t := 25) ?hr ?_; (case hd => rfl); (case hg => rfl); (case hr => first | (go_simp; done) | (go_simp; rfl)); intro gb hg w2 hbox hb; have HB := Aside0.mk hb; clear hb hbox hg))
    go_ret
    exact ⟨rfl, HB.out⟩
  · have HBR := Aside0.mk hb1
    have HRN := Aside0.mk hb2
    clear hb1 hb2
    go_enter Try.func51, Try.ntmps51
    go_wp2_with (first
      | ((with_reducible refine gate_dst (N := 4) rfl ?_); refine box_event ?hg (N := 4) ?hd (cs := #[.slice A0 R.length c0, .slice A1 E.length c1]) (t := 25) ?hr ?_; (case hd => rfl); (case hg => rfl); (case hr => first | (go_simp; done) | (go_simp; rfl)); intro gb hg w2 hbox hb; have HB := Aside0.mk hb; have BX := Aside0.mk hbox; have p0 : w2.cell? ⟨gb, 0, none⟩ = some (.slice A0 R.length c0) := (blk_cell hbox 0).trans rfl; have p1 : w2.cell? ⟨gb, 1, none⟩ = some (.slice A1 E.length c1) := (blk_cell hbox 1).trans rfl; clear hb hbox hg)
      | (go_at_call 30; refine (dr_Breach.calls A0 c0 R A1 c1 E fr tt 0 d ts true 0 _ (Kd.C_below HR0.out HB.out) HC0.out (Kd.C_below HR1.out HB.out) HC1.out HBR.out).mono ?_; rintro e w3 ⟨v3, rfl, hT3, hb3⟩; obtain ⟨A3, c3, e3, hc3, hC3⟩ := Kd.R_reads hT3; subst e3; have HC3 := Aside0.mk hC3; have HB3 := Aside0.mk (below_step HB.out hb3); have BX3 := Aside0.mk (blk_below BX.out hb3); clear p0 p1 hT3 hC3 hc3; have p0 : w3.cell? ⟨gb, 0, none⟩ = some (.slice A0 R.length c0) := (blk_cell BX3.out 0).trans rfl; have p1 : w3.cell? ⟨gb, 1, none⟩ = some (.slice A1 E.length c1) := (blk_cell BX3.out 1).trans rfl; clear hb3)
      | (go_at_call 32; refine (rIsRun_any R E A0 A1 A3 c0 c1 c3 ts _ (Kd.C_below HR0.out HB3.out) HC0.out (Kd.C_below HR1.out HB3.out) HC1.out HC3.out HK.out).mono ?_; rintro e w4 ⟨rfl, hb4⟩; rw [HRN.out]; have HB4 := Aside0.mk (below_step HB3.out hb4); clear hb4))
    go_ret
    exact ⟨rfl, HB4.out⟩
end Go.Proofs.Ytlfopemghafboaa.D
