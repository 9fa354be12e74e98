/- The contract of the law DriftBreaches, by a walk through its code. No condition beyond each theorem's own hypotheses. -/
import Derived.Test.YtlfopemghafboaaDe8
import Derived.Test.YtlfopemghafboaaDe7
import Derived.Test.YtlfopemghafboaaDe2
import Derived.Test.YtlfopemghafboaaDx8
import Derived.Test.YtlfopemghafboaaDsane
namespace Go.Proofs.Ytlfopemghafboaa.D
open Go.RowKit Go.Proofs.YtlfopemghafboaaW.PrintWords Go.Proofs.YtlfopemghafboaaW.PrintLast Go.Proofs.YtlfopemghafboaaW.PrintMore
set_option linter.unusedVariables false
set_option linter.unusedSimpArgs false
theorem litD1 {W : World} {h : Nat} {d : S56} (hN : W.heap[h]? = some (.cells #[.int .i64 d.f0, .int .i64 d.f1, .int .i64 d.f2, .int .i64 d.f3] 56 (0, 0))) : Kd.C k56 W (some ⟨h, 0, none⟩) [d].length [d] := by
  refine ⟨rfl, by simp, fun _ => ⟨_, rfl, fun j r hr => ?_⟩⟩
  have hc : ∀ k, W.cell? ⟨h, k, none⟩ = (#[Value.int .i64 d.f0, .int .i64 d.f1, .int .i64 d.f2, .int .i64 d.f3] : Array Value)[k]? := fun k => blk_cell hN k
  have hj : j < 1 := by
    have := (List.getElem?_eq_some_iff.1 hr).1
    simpa using this
  obtain rfl : j = 0 := by omega
  have hr' : d = r := by simpa using hr
  subst hr'
  refine ⟨_, rfl, k56_mk W d, fun k u hu => ?_⟩
  rw [show k56.sz = 4 from rfl, Nat.zero_mul, Nat.zero_add, add_plain, hc, ← hu]
  simp
set_option maxHeartbeats 3200000 in
set_option maxRecDepth 100000 in
theorem breaches_big (R : List S42) (E : List S80) (A0 A1 : Option Addr) (c0 c1 : Nat) (f0 f1 f2 f3 : Int) (w : World) (hr0 : Kd.C k42 w A0 R.length R) (hc0 : R.length ≤ c0) (hr1 : Kd.C k80 w A1 E.length E) (hc1 : E.length ≤ c1) (hS : lw_small.f R E = some false) :
    Calls Try.prog 6 #[.agg #[.slice A0 R.length c0, .slice A1 E.length c1], .agg #[.int .i64 f0, .int .i64 f1, .int .i64 f2, .int .i64 f3]] w fun e w' => e = .returned (.bool true) ∧ Below w.heap.size w w' := by
  have HR0 := Aside0.mk hr0
  have HR1 := Aside0.mk hr1
  have HC0 := Aside0.mk hc0
  have HC1 := Aside0.mk hc1
  have HS := Aside0.mk hS
  clear hr0 hc0 hr1 hc1 hS
  go_enter Try.func6, Try.ntmps6
  go_wp2_with (first
      | ((with_reducible refine gate_dst (N := 2) rfl ?_); refine box_event ?hg (N := 2) ?hd (cs := #[.slice A0 R.length c0, .slice A1 E.length c1]) (t := 25) ?hr ?_; (case hd => rfl); (case hg => rfl); (case hr => first | (go_simp; done) | (go_simp; rfl)); intro gb hg w2 hbox hb; have HB2 := Aside0.mk hb; have BX2 := Aside0.mk hbox; clear hb hbox hg)
      | ((with_reducible refine gate_dst (N := 3) rfl ?_); refine box_event ?hg (N := 3) ?hd (cs := #[.int .i64 f0, .int .i64 f1, .int .i64 f2, .int .i64 f3]) (t := 56) ?hr ?_; (case hd => rfl); (case hg => rfl); (case hr => first | (go_simp; done) | (go_simp; rfl)); intro gd hg w3 hbox hb; have HB3 := Aside0.mk (below_step HB2.out hb); have BX3 := Aside0.mk (blk_below BX2.out hb); have BD3 := Aside0.mk hbox; clear hb hbox hg)
      | (go_at_call 15; refine (lw_sane.calls true _ rfl).mono ?_; rintro e w4 ⟨rfl, hb⟩; have HB4 := Aside0.mk (below_step HB3.out hb); have BX4 := Aside0.mk (blk_below BX3.out hb); have BD4 := Aside0.mk (blk_below BD3.out hb); have p0 : w4.cell? ⟨gb, 0, none⟩ = some (.slice A0 R.length c0) := (blk_cell BX4.out 0).trans rfl; have p1 : w4.cell? ⟨gb, 1, none⟩ = some (.slice A1 E.length c1) := (blk_cell BX4.out 1).trans rfl; have d0 : w4.cell? ⟨gd, 0, none⟩ = some (.int .i64 f0) := (blk_cell BD4.out 0).trans rfl; have d1 : w4.cell? ⟨gd, 1, none⟩ = some (.int .i64 f1) := (blk_cell BD4.out 1).trans rfl; have d2 : w4.cell? ⟨gd, 2, none⟩ = some (.int .i64 f2) := (blk_cell BD4.out 2).trans rfl; have d3 : w4.cell? ⟨gd, 3, none⟩ = some (.int .i64 f3) := (blk_cell BD4.out 3).trans rfl; have HBE := Aside0.mk HB4.out; clear hb)
      | (go_at_call 16; refine (lw_small.calls A0 c0 R A1 c1 E _ _ (Kd.C_below HR0.out HB4.out) HC0.out (Kd.C_below HR1.out HB4.out) HC1.out HS.out).mono ?_; rintro e w5 ⟨rfl, hb⟩; have HB5 := Aside0.mk (below_step HB4.out hb); have BX5 := Aside0.mk (blk_below BX4.out hb); have BD5 := Aside0.mk (blk_below BD4.out hb); clear p0 p1 d0 d1 d2 d3; have p0 : w5.cell? ⟨gb, 0, none⟩ = some (.slice A0 R.length c0) := (blk_cell BX5.out 0).trans rfl; have p1 : w5.cell? ⟨gb, 1, none⟩ = some (.slice A1 E.length c1) := (blk_cell BX5.out 1).trans rfl; have d0 : w5.cell? ⟨gd, 0, none⟩ = some (.int .i64 f0) := (blk_cell BD5.out 0).trans rfl; have d1 : w5.cell? ⟨gd, 1, none⟩ = some (.int .i64 f1) := (blk_cell BD5.out 1).trans rfl; have d2 : w5.cell? ⟨gd, 2, none⟩ = some (.int .i64 f2) := (blk_cell BD5.out 2).trans rfl; have d3 : w5.cell? ⟨gd, 3, none⟩ = some (.int .i64 f3) := (blk_cell BD5.out 3).trans rfl; clear HBE; have HBE := Aside0.mk HB5.out; clear hb))
  go_ret
  exact ⟨rfl, HBE.out⟩
set_option maxHeartbeats 3200000 in
set_option maxRecDepth 100000 in
theorem breaches_err (R : List S42) (E : List S80) (A0 A1 : Option Addr) (c0 c1 : Nat) (f0 f1 f2 f3 : Int) (w : World) (hr0 : Kd.C k42 w A0 R.length R) (hc0 : R.length ≤ c0) (hr1 : Kd.C k80 w A1 E.length E) (hc1 : E.length ≤ c1) (h24 : E.length ≤ 24) (hS : lw_small.f R E = some true) (ts : List Int) (is : Bool) (k er : Int) (hbr : dr_Breach.f R E f0 f1 f2 f3 = some (ts, is, er)) (hho : dr_Holds.f R E [(⟨f0, f1, f2, f3⟩ : S56)] = some (k, er)) (he : er = 311 ∨ er = 314) :
    Calls Try.prog 6 #[.agg #[.slice A0 R.length c0, .slice A1 E.length c1], .agg #[.int .i64 f0, .int .i64 f1, .int .i64 f2, .int .i64 f3]] w fun e w' => e = .returned (.bool true) ∧ Below w.heap.size w w' := by
  have HR0 := Aside0.mk hr0
  have HR1 := Aside0.mk hr1
  have HC0 := Aside0.mk hc0
  have HC1 := Aside0.mk hc1
  have HS := Aside0.mk hS
  have HBR := Aside0.mk hbr
  have HHO := Aside0.mk hho
  clear hr0 hc0 hr1 hc1 hS hbr hho
  rcases he with rfl | rfl <;> (
    go_enter Try.func6, Try.ntmps6
    go_wp2_with (first
      | ((with_reducible refine gate_dst (N := 2) rfl ?_); refine box_event ?hg (N := 2) ?hd (cs := #[.slice A0 R.length c0, .slice A1 E.length c1]) (t := 25) ?hr ?_; (case hd => rfl); (case hg => rfl); (case hr => first | (go_simp; done) | (go_simp; rfl)); intro gb hg w2 hbox hb; have HB2 := Aside0.mk hb; have BX2 := Aside0.mk hbox; clear hb hbox hg)
      | ((with_reducible refine gate_dst (N := 3) rfl ?_); refine box_event ?hg (N := 3) ?hd (cs := #[.int .i64 f0, .int .i64 f1, .int .i64 f2, .int .i64 f3]) (t := 56) ?hr ?_; (case hd => rfl); (case hg => rfl); (case hr => first | (go_simp; done) | (go_simp; rfl)); intro gd hg w3 hbox hb; have HB3 := Aside0.mk (below_step HB2.out hb); have BX3 := Aside0.mk (blk_below BX2.out hb); have BD3 := Aside0.mk hbox; clear hb hbox hg)
      | (go_at_call 15; refine (lw_sane.calls true _ rfl).mono ?_; rintro e w4 ⟨rfl, hb⟩; have HB4 := Aside0.mk (below_step HB3.out hb); have BX4 := Aside0.mk (blk_below BX3.out hb); have BD4 := Aside0.mk (blk_below BD3.out hb); have p0 : w4.cell? ⟨gb, 0, none⟩ = some (.slice A0 R.length c0) := (blk_cell BX4.out 0).trans rfl; have p1 : w4.cell? ⟨gb, 1, none⟩ = some (.slice A1 E.length c1) := (blk_cell BX4.out 1).trans rfl; have d0 : w4.cell? ⟨gd, 0, none⟩ = some (.int .i64 f0) := (blk_cell BD4.out 0).trans rfl; have d1 : w4.cell? ⟨gd, 1, none⟩ = some (.int .i64 f1) := (blk_cell BD4.out 1).trans rfl; have d2 : w4.cell? ⟨gd, 2, none⟩ = some (.int .i64 f2) := (blk_cell BD4.out 2).trans rfl; have d3 : w4.cell? ⟨gd, 3, none⟩ = some (.int .i64 f3) := (blk_cell BD4.out 3).trans rfl; have HBE := Aside0.mk HB4.out; clear hb)
      | (go_at_call 16; refine (lw_small.calls A0 c0 R A1 c1 E _ _ (Kd.C_below HR0.out HB4.out) HC0.out (Kd.C_below HR1.out HB4.out) HC1.out HS.out).mono ?_; rintro e w5 ⟨rfl, hb⟩; have HB5 := Aside0.mk (below_step HB4.out hb); have BX5 := Aside0.mk (blk_below BX4.out hb); have BD5 := Aside0.mk (blk_below BD4.out hb); clear p0 p1 d0 d1 d2 d3; have p0 : w5.cell? ⟨gb, 0, none⟩ = some (.slice A0 R.length c0) := (blk_cell BX5.out 0).trans rfl; have p1 : w5.cell? ⟨gb, 1, none⟩ = some (.slice A1 E.length c1) := (blk_cell BX5.out 1).trans rfl; have d0 : w5.cell? ⟨gd, 0, none⟩ = some (.int .i64 f0) := (blk_cell BD5.out 0).trans rfl; have d1 : w5.cell? ⟨gd, 1, none⟩ = some (.int .i64 f1) := (blk_cell BD5.out 1).trans rfl; have d2 : w5.cell? ⟨gd, 2, none⟩ = some (.int .i64 f2) := (blk_cell BD5.out 2).trans rfl; have d3 : w5.cell? ⟨gd, 3, none⟩ = some (.int .i64 f3) := (blk_cell BD5.out 3).trans rfl; clear HBE; have HBE := Aside0.mk HB5.out; clear hb)
      | (go_at_call 30; refine (dr_Breach.calls A0 c0 R A1 c1 E f0 f1 f2 f3 ts is _ _ (Kd.C_below HR0.out HB5.out) HC0.out (Kd.C_below HR1.out HB5.out) HC1.out HBR.out).mono ?_; rintro e w6 ⟨v5, rfl, hT, hb⟩; obtain ⟨B5, d5, e5, hd5, hC5⟩ := Kd.R_reads hT; subst e5; have HT6 := Aside0.mk hC5; have HD5 := Aside0.mk hd5; have HB6 := Aside0.mk (below_step HB5.out hb); have BX6 := Aside0.mk (blk_below BX5.out hb); have BD6 := Aside0.mk (blk_below BD5.out hb); clear p0 p1 d0 d1 d2 d3; have p0 : w6.cell? ⟨gb, 0, none⟩ = some (.slice A0 R.length c0) := (blk_cell BX6.out 0).trans rfl; have p1 : w6.cell? ⟨gb, 1, none⟩ = some (.slice A1 E.length c1) := (blk_cell BX6.out 1).trans rfl; have d0 : w6.cell? ⟨gd, 0, none⟩ = some (.int .i64 f0) := (blk_cell BD6.out 0).trans rfl; have d1 : w6.cell? ⟨gd, 1, none⟩ = some (.int .i64 f1) := (blk_cell BD6.out 1).trans rfl; have d2 : w6.cell? ⟨gd, 2, none⟩ = some (.int .i64 f2) := (blk_cell BD6.out 2).trans rfl; have d3 : w6.cell? ⟨gd, 3, none⟩ = some (.int .i64 f3) := (blk_cell BD6.out 3).trans rfl; clear hb hT hd5 hC5)
      | (go_at_call 22; refine (rholds_any R E A0 A1 c0 c1 _ (Kd.C_below HR0.out (below_alloc HB6.out _)) HC0.out (Kd.C_below HR1.out (below_alloc HB6.out _)) HC1.out h24 (some ⟨w6.heap.size, 0, none⟩) 1 [(⟨f0, f1, f2, f3⟩ : S56)] (litD1 (blk_new w6 _)) (Nat.le_refl _) k _ HHO.out).mono ?_; rintro e w7 ⟨rfl, hb⟩; have HB7 := Aside0.mk (below_step (below_alloc HB6.out _) hb); have BX7 := Aside0.mk (blk_below (blk_below BX6.out (below_alloc (Below.refl _ _) _)) hb); have BD7 := Aside0.mk (blk_below (blk_below BD6.out (below_alloc (Below.refl _ _) _)) hb); have HT7 := Aside0.mk (Kd.C_below HT6.out (below_step (below_alloc (Below.refl _ _) _) hb)); clear p0 p1 d0 d1 d2 d3; have p0 : w7.cell? ⟨gb, 0, none⟩ = some (.slice A0 R.length c0) := (blk_cell BX7.out 0).trans rfl; have p1 : w7.cell? ⟨gb, 1, none⟩ = some (.slice A1 E.length c1) := (blk_cell BX7.out 1).trans rfl; have d0 : w7.cell? ⟨gd, 0, none⟩ = some (.int .i64 f0) := (blk_cell BD7.out 0).trans rfl; have d1 : w7.cell? ⟨gd, 1, none⟩ = some (.int .i64 f1) := (blk_cell BD7.out 1).trans rfl; have d2 : w7.cell? ⟨gd, 2, none⟩ = some (.int .i64 f2) := (blk_cell BD7.out 2).trans rfl; have d3 : w7.cell? ⟨gd, 3, none⟩ = some (.int .i64 f3) := (blk_cell BD7.out 3).trans rfl; clear HBE; have HBE := Aside0.mk HB7.out; clear hb))
    go_ret
    exact ⟨rfl, HBE.out⟩)
set_option maxHeartbeats 3200000 in
set_option maxRecDepth 100000 in
theorem breaches_main (R : List S42) (E : List S80) (A0 A1 : Option Addr) (c0 c1 : Nat) (f0 f1 f2 f3 : Int) (w : World) (hr0 : Kd.C k42 w A0 R.length R) (hc0 : R.length ≤ c0) (hr1 : Kd.C k80 w A1 E.length E) (hc1 : E.length ≤ c1) (h24 : E.length ≤ 24) (hK : PlanOK R E) (hS : lw_small.f R E = some true) (ts fs : List Int) (is som : Bool) (k : Int) (hbr : dr_Breach.f R E f0 f1 f2 f3 = some (ts, is, 0)) (hho : dr_Holds.f R E [(⟨f0, f1, f2, f3⟩ : S56)] = some (k, 0)) (hea : dr_Earliest.f R E = some (fs, som, 0))
    (h : (is = false ∧ (som = false ∨ (som = true ∧ (k == 0) = false))) ∨ (is = true ∧ som = true ∧ (k == 0) = true ∧ isRunB R E ts = true ∧ rf_Keeps.f ts f0 f1 f2 f3 = some false)) :
    Calls Try.prog 6 #[.agg #[.slice A0 R.length c0, .slice A1 E.length c1], .agg #[.int .i64 f0, .int .i64 f1, .int .i64 f2, .int .i64 f3]] w fun e w' => e = .returned (.bool true) ∧ Below w.heap.size w w' := by
  have HR0 := Aside0.mk hr0
  have HR1 := Aside0.mk hr1
  have HC0 := Aside0.mk hc0
  have HC1 := Aside0.mk hc1
  have HS := Aside0.mk hS
  have HBR := Aside0.mk hbr
  have HHO := Aside0.mk hho
  have HEA := Aside0.mk hea
  have HK := Aside0.mk hK
  clear hr0 hc0 hr1 hc1 hS hbr hho hea hK
  rcases h with ⟨rfl, rfl | ⟨rfl, hk⟩⟩ | ⟨rfl, rfl, hk, hrn, hke⟩
  · go_enter Try.func6, Try.ntmps6
    go_wp2_with (first
      | ((with_reducible refine gate_dst (N := 2) rfl ?_); refine box_event ?hg (N := 2) ?hd (cs := #[.slice A0 R.length c0, .slice A1 E.length c1]) (t := 25) ?hr ?_; (case hd => rfl); (case hg => rfl); (case hr => first | (go_simp; done) | (go_simp; rfl)); intro gb hg w2 hbox hb; have HB2 := Aside0.mk hb; have BX2 := Aside0.mk hbox; clear hb hbox hg)
      | ((with_reducible refine gate_dst (N := 3) rfl ?_); refine box_event ?hg (N := 3) ?hd (cs := #[.int .i64 f0, .int .i64 f1, .int .i64 f2, .int .i64 f3]) (t := 56) ?hr ?_; (case hd => rfl); (case hg => rfl); (case hr => first | (go_simp; done) | (go_simp; rfl)); intro gd hg w3 hbox hb; have HB3 := Aside0.mk (below_step HB2.out hb); have BX3 := Aside0.mk (blk_below BX2.out hb); have BD3 := Aside0.mk hbox; clear hb hbox hg)
      | (go_at_call 15; refine (lw_sane.calls true _ rfl).mono ?_; rintro e w4 ⟨rfl, hb⟩; have HB4 := Aside0.mk (below_step HB3.out hb); have BX4 := Aside0.mk (blk_below BX3.out hb); have BD4 := Aside0.mk (blk_below BD3.out hb); have p0 : w4.cell? ⟨gb, 0, none⟩ = some (.slice A0 R.length c0) := (blk_cell BX4.out 0).trans rfl; have p1 : w4.cell? ⟨gb, 1, none⟩ = some (.slice A1 E.length c1) := (blk_cell BX4.out 1).trans rfl; have d0 : w4.cell? ⟨gd, 0, none⟩ = some (.int .i64 f0) := (blk_cell BD4.out 0).trans rfl; have d1 : w4.cell? ⟨gd, 1, none⟩ = some (.int .i64 f1) := (blk_cell BD4.out 1).trans rfl; have d2 : w4.cell? ⟨gd, 2, none⟩ = some (.int .i64 f2) := (blk_cell BD4.out 2).trans rfl; have d3 : w4.cell? ⟨gd, 3, none⟩ = some (.int .i64 f3) := (blk_cell BD4.out 3).trans rfl; have HBE := Aside0.mk HB4.out; clear hb)
      | (go_at_call 16; refine (lw_small.calls A0 c0 R A1 c1 E _ _ (Kd.C_below HR0.out HB4.out) HC0.out (Kd.C_below HR1.out HB4.out) HC1.out HS.out).mono ?_; rintro e w5 ⟨rfl, hb⟩; have HB5 := Aside0.mk (below_step HB4.out hb); have BX5 := Aside0.mk (blk_below BX4.out hb); have BD5 := Aside0.mk (blk_below BD4.out hb); clear p0 p1 d0 d1 d2 d3; have p0 : w5.cell? ⟨gb, 0, none⟩ = some (.slice A0 R.length c0) := (blk_cell BX5.out 0).trans rfl; have p1 : w5.cell? ⟨gb, 1, none⟩ = some (.slice A1 E.length c1) := (blk_cell BX5.out 1).trans rfl; have d0 : w5.cell? ⟨gd, 0, none⟩ = some (.int .i64 f0) := (blk_cell BD5.out 0).trans rfl; have d1 : w5.cell? ⟨gd, 1, none⟩ = some (.int .i64 f1) := (blk_cell BD5.out 1).trans rfl; have d2 : w5.cell? ⟨gd, 2, none⟩ = some (.int .i64 f2) := (blk_cell BD5.out 2).trans rfl; have d3 : w5.cell? ⟨gd, 3, none⟩ = some (.int .i64 f3) := (blk_cell BD5.out 3).trans rfl; clear HBE; have HBE := Aside0.mk HB5.out; clear hb)
      | (go_at_call 30; refine (dr_Breach.calls A0 c0 R A1 c1 E f0 f1 f2 f3 ts _ 0 _ (Kd.C_below HR0.out HB5.out) HC0.out (Kd.C_below HR1.out HB5.out) HC1.out HBR.out).mono ?_; rintro e w6 ⟨v5, rfl, hT, hb⟩; obtain ⟨B5, d5, e5, hd5, hC5⟩ := Kd.R_reads hT; subst e5; have HT6 := Aside0.mk hC5; have HD5 := Aside0.mk hd5; have HB6 := Aside0.mk (below_step HB5.out hb); have BX6 := Aside0.mk (blk_below BX5.out hb); have BD6 := Aside0.mk (blk_below BD5.out hb); clear p0 p1 d0 d1 d2 d3; have p0 : w6.cell? ⟨gb, 0, none⟩ = some (.slice A0 R.length c0) := (blk_cell BX6.out 0).trans rfl; have p1 : w6.cell? ⟨gb, 1, none⟩ = some (.slice A1 E.length c1) := (blk_cell BX6.out 1).trans rfl; have d0 : w6.cell? ⟨gd, 0, none⟩ = some (.int .i64 f0) := (blk_cell BD6.out 0).trans rfl; have d1 : w6.cell? ⟨gd, 1, none⟩ = some (.int .i64 f1) := (blk_cell BD6.out 1).trans rfl; have d2 : w6.cell? ⟨gd, 2, none⟩ = some (.int .i64 f2) := (blk_cell BD6.out 2).trans rfl; have d3 : w6.cell? ⟨gd, 3, none⟩ = some (.int .i64 f3) := (blk_cell BD6.out 3).trans rfl; clear hb hT hd5 hC5)
      | (go_at_call 22; refine (rholds_any R E A0 A1 c0 c1 _ (Kd.C_below HR0.out (below_alloc HB6.out _)) HC0.out (Kd.C_below HR1.out (below_alloc HB6.out _)) HC1.out h24 (some ⟨w6.heap.size, 0, none⟩) 1 [(⟨f0, f1, f2, f3⟩ : S56)] (litD1 (blk_new w6 _)) (Nat.le_refl _) k 0 HHO.out).mono ?_; rintro e w7 ⟨rfl, hb⟩; have HB7 := Aside0.mk (below_step (below_alloc HB6.out _) hb); have BX7 := Aside0.mk (blk_below (blk_below BX6.out (below_alloc (Below.refl _ _) _)) hb); have BD7 := Aside0.mk (blk_below (blk_below BD6.out (below_alloc (Below.refl _ _) _)) hb); have HT7 := Aside0.mk (Kd.C_below HT6.out (below_step (below_alloc (Below.refl _ _) _) hb)); clear p0 p1 d0 d1 d2 d3; have p0 : w7.cell? ⟨gb, 0, none⟩ = some (.slice A0 R.length c0) := (blk_cell BX7.out 0).trans rfl; have p1 : w7.cell? ⟨gb, 1, none⟩ = some (.slice A1 E.length c1) := (blk_cell BX7.out 1).trans rfl; have d0 : w7.cell? ⟨gd, 0, none⟩ = some (.int .i64 f0) := (blk_cell BD7.out 0).trans rfl; have d1 : w7.cell? ⟨gd, 1, none⟩ = some (.int .i64 f1) := (blk_cell BD7.out 1).trans rfl; have d2 : w7.cell? ⟨gd, 2, none⟩ = some (.int .i64 f2) := (blk_cell BD7.out 2).trans rfl; have d3 : w7.cell? ⟨gd, 3, none⟩ = some (.int .i64 f3) := (blk_cell BD7.out 3).trans rfl; clear HBE; have HBE := Aside0.mk HB7.out; clear hb)
      | (go_at_call 31; refine (rearliest_any R E A0 A1 c0 c1 _ (Kd.C_below HR0.out HB7.out) HC0.out (Kd.C_below HR1.out HB7.out) HC1.out h24 fs _ 0 HEA.out).mono ?_; rintro e w8 ⟨v8, rfl, _, hb⟩; have HB8 := Aside0.mk (below_step HB7.out hb); have BX8 := Aside0.mk (blk_below BX7.out hb); have BD8 := Aside0.mk (blk_below BD7.out hb); have HT8 := Aside0.mk (Kd.C_below HT7.out hb); clear p0 p1 d0 d1 d2 d3; have p0 : w8.cell? ⟨gb, 0, none⟩ = some (.slice A0 R.length c0) := (blk_cell BX8.out 0).trans rfl; have p1 : w8.cell? ⟨gb, 1, none⟩ = some (.slice A1 E.length c1) := (blk_cell BX8.out 1).trans rfl; have d0 : w8.cell? ⟨gd, 0, none⟩ = some (.int .i64 f0) := (blk_cell BD8.out 0).trans rfl; have d1 : w8.cell? ⟨gd, 1, none⟩ = some (.int .i64 f1) := (blk_cell BD8.out 1).trans rfl; have d2 : w8.cell? ⟨gd, 2, none⟩ = some (.int .i64 f2) := (blk_cell BD8.out 2).trans rfl; have d3 : w8.cell? ⟨gd, 3, none⟩ = some (.int .i64 f3) := (blk_cell BD8.out 3).trans rfl; clear HBE; have HBE := Aside0.mk HB8.out; clear hb))
    go_ret
    exact ⟨rfl, HBE.out⟩
  · go_enter Try.func6, Try.ntmps6
    go_wp2_with (first
      | ((with_reducible refine gate_dst (N := 2) rfl ?_); refine box_event ?hg (N := 2) ?hd (cs := #[.slice A0 R.length c0, .slice A1 E.length c1]) (t := 25) ?hr ?_; (case hd => rfl); (case hg => rfl); (case hr => first | (go_simp; done) | (go_simp; rfl)); intro gb hg w2 hbox hb; have HB2 := Aside0.mk hb; have BX2 := Aside0.mk hbox; clear hb hbox hg)
      | ((with_reducible refine gate_dst (N := 3) rfl ?_); refine box_event ?hg (N := 3) ?hd (cs := #[.int .i64 f0, .int .i64 f1, .int .i64 f2, .int .i64 f3]) (t := 56) ?hr ?_; (case hd => rfl); (case hg => rfl); (case hr => first | (go_simp; done) | (go_simp; rfl)); intro gd hg w3 hbox hb; have HB3 := Aside0.mk (below_step HB2.out hb); have BX3 := Aside0.mk (blk_below BX2.out hb); have BD3 := Aside0.mk hbox; clear hb hbox hg)
      | (go_at_call 15; refine (lw_sane.calls true _ rfl).mono ?_; rintro e w4 ⟨rfl, hb⟩; have HB4 := Aside0.mk (below_step HB3.out hb); have BX4 := Aside0.mk (blk_below BX3.out hb); have BD4 := Aside0.mk (blk_below BD3.out hb); have p0 : w4.cell? ⟨gb, 0, none⟩ = some (.slice A0 R.length c0) := (blk_cell BX4.out 0).trans rfl; have p1 : w4.cell? ⟨gb, 1, none⟩ = some (.slice A1 E.length c1) := (blk_cell BX4.out 1).trans rfl; have d0 : w4.cell? ⟨gd, 0, none⟩ = some (.int .i64 f0) := (blk_cell BD4.out 0).trans rfl; have d1 : w4.cell? ⟨gd, 1, none⟩ = some (.int .i64 f1) := (blk_cell BD4.out 1).trans rfl; have d2 : w4.cell? ⟨gd, 2, none⟩ = some (.int .i64 f2) := (blk_cell BD4.out 2).trans rfl; have d3 : w4.cell? ⟨gd, 3, none⟩ = some (.int .i64 f3) := (blk_cell BD4.out 3).trans rfl; have HBE := Aside0.mk HB4.out; clear hb)
      | (go_at_call 16; refine (lw_small.calls A0 c0 R A1 c1 E _ _ (Kd.C_below HR0.out HB4.out) HC0.out (Kd.C_below HR1.out HB4.out) HC1.out HS.out).mono ?_; rintro e w5 ⟨rfl, hb⟩; have HB5 := Aside0.mk (below_step HB4.out hb); have BX5 := Aside0.mk (blk_below BX4.out hb); have BD5 := Aside0.mk (blk_below BD4.out hb); clear p0 p1 d0 d1 d2 d3; have p0 : w5.cell? ⟨gb, 0, none⟩ = some (.slice A0 R.length c0) := (blk_cell BX5.out 0).trans rfl; have p1 : w5.cell? ⟨gb, 1, none⟩ = some (.slice A1 E.length c1) := (blk_cell BX5.out 1).trans rfl; have d0 : w5.cell? ⟨gd, 0, none⟩ = some (.int .i64 f0) := (blk_cell BD5.out 0).trans rfl; have d1 : w5.cell? ⟨gd, 1, none⟩ = some (.int .i64 f1) := (blk_cell BD5.out 1).trans rfl; have d2 : w5.cell? ⟨gd, 2, none⟩ = some (.int .i64 f2) := (blk_cell BD5.out 2).trans rfl; have d3 : w5.cell? ⟨gd, 3, none⟩ = some (.int .i64 f3) := (blk_cell BD5.out 3).trans rfl; clear HBE; have HBE := Aside0.mk HB5.out; clear hb)
      | (go_at_call 30; refine (dr_Breach.calls A0 c0 R A1 c1 E f0 f1 f2 f3 ts _ 0 _ (Kd.C_below HR0.out HB5.out) HC0.out (Kd.C_below HR1.out HB5.out) HC1.out HBR.out).mono ?_; rintro e w6 ⟨v5, rfl, hT, hb⟩; obtain ⟨B5, d5, e5, hd5, hC5⟩ := Kd.R_reads hT; subst e5; have HT6 := Aside0.mk hC5; have HD5 := Aside0.mk hd5; have HB6 := Aside0.mk (below_step HB5.out hb); have BX6 := Aside0.mk (blk_below BX5.out hb); have BD6 := Aside0.mk (blk_below BD5.out hb); clear p0 p1 d0 d1 d2 d3; have p0 : w6.cell? ⟨gb, 0, none⟩ = some (.slice A0 R.length c0) := (blk_cell BX6.out 0).trans rfl; have p1 : w6.cell? ⟨gb, 1, none⟩ = some (.slice A1 E.length c1) := (blk_cell BX6.out 1).trans rfl; have d0 : w6.cell? ⟨gd, 0, none⟩ = some (.int .i64 f0) := (blk_cell BD6.out 0).trans rfl; have d1 : w6.cell? ⟨gd, 1, none⟩ = some (.int .i64 f1) := (blk_cell BD6.out 1).trans rfl; have d2 : w6.cell? ⟨gd, 2, none⟩ = some (.int .i64 f2) := (blk_cell BD6.out 2).trans rfl; have d3 : w6.cell? ⟨gd, 3, none⟩ = some (.int .i64 f3) := (blk_cell BD6.out 3).trans rfl; clear hb hT hd5 hC5)
      | (go_at_call 22; refine (rholds_any R E A0 A1 c0 c1 _ (Kd.C_below HR0.out (below_alloc HB6.out _)) HC0.out (Kd.C_below HR1.out (below_alloc HB6.out _)) HC1.out h24 (some ⟨w6.heap.size, 0, none⟩) 1 [(⟨f0, f1, f2, f3⟩ : S56)] (litD1 (blk_new w6 _)) (Nat.le_refl _) k 0 HHO.out).mono ?_; rintro e w7 ⟨rfl, hb⟩; have HB7 := Aside0.mk (below_step (below_alloc HB6.out _) hb); have BX7 := Aside0.mk (blk_below (blk_below BX6.out (below_alloc (Below.refl _ _) _)) hb); have BD7 := Aside0.mk (blk_below (blk_below BD6.out (below_alloc (Below.refl _ _) _)) hb); have HT7 := Aside0.mk (Kd.C_below HT6.out (below_step (below_alloc (Below.refl _ _) _) hb)); clear p0 p1 d0 d1 d2 d3; have p0 : w7.cell? ⟨gb, 0, none⟩ = some (.slice A0 R.length c0) := (blk_cell BX7.out 0).trans rfl; have p1 : w7.cell? ⟨gb, 1, none⟩ = some (.slice A1 E.length c1) := (blk_cell BX7.out 1).trans rfl; have d0 : w7.cell? ⟨gd, 0, none⟩ = some (.int .i64 f0) := (blk_cell BD7.out 0).trans rfl; have d1 : w7.cell? ⟨gd, 1, none⟩ = some (.int .i64 f1) := (blk_cell BD7.out 1).trans rfl; have d2 : w7.cell? ⟨gd, 2, none⟩ = some (.int .i64 f2) := (blk_cell BD7.out 2).trans rfl; have d3 : w7.cell? ⟨gd, 3, none⟩ = some (.int .i64 f3) := (blk_cell BD7.out 3).trans rfl; clear HBE; have HBE := Aside0.mk HB7.out; clear hb)
      | (go_at_call 31; refine (rearliest_any R E A0 A1 c0 c1 _ (Kd.C_below HR0.out HB7.out) HC0.out (Kd.C_below HR1.out HB7.out) HC1.out h24 fs _ 0 HEA.out).mono ?_; rintro e w8 ⟨v8, rfl, _, hb⟩; have HB8 := Aside0.mk (below_step HB7.out hb); have BX8 := Aside0.mk (blk_below BX7.out hb); have BD8 := Aside0.mk (blk_below BD7.out hb); have HT8 := Aside0.mk (Kd.C_below HT7.out hb); clear p0 p1 d0 d1 d2 d3; have p0 : w8.cell? ⟨gb, 0, none⟩ = some (.slice A0 R.length c0) := (blk_cell BX8.out 0).trans rfl; have p1 : w8.cell? ⟨gb, 1, none⟩ = some (.slice A1 E.length c1) := (blk_cell BX8.out 1).trans rfl; have d0 : w8.cell? ⟨gd, 0, none⟩ = some (.int .i64 f0) := (blk_cell BD8.out 0).trans rfl; have d1 : w8.cell? ⟨gd, 1, none⟩ = some (.int .i64 f1) := (blk_cell BD8.out 1).trans rfl; have d2 : w8.cell? ⟨gd, 2, none⟩ = some (.int .i64 f2) := (blk_cell BD8.out 2).trans rfl; have d3 : w8.cell? ⟨gd, 3, none⟩ = some (.int .i64 f3) := (blk_cell BD8.out 3).trans rfl; clear HBE; have HBE := Aside0.mk HB8.out; clear hb))
    go_ret
    exact ⟨rfl, HBE.out⟩
  · have HRN := Aside0.mk hrn
    have HKE := Aside0.mk hke
    clear hrn hke
    go_enter Try.func6, Try.ntmps6
    go_wp2_with (first
      | ((with_reducible refine gate_dst (N := 2) rfl ?_); refine box_event ?hg (N := 2) ?hd (cs := #[.slice A0 R.length c0, .slice A1 E.length c1]) (t := 25) ?hr ?_; (case hd => rfl); (case hg => rfl); (case hr => first | (go_simp; done) | (go_simp; rfl)); intro gb hg w2 hbox hb; have HB2 := Aside0.mk hb; have BX2 := Aside0.mk hbox; clear hb hbox hg)
      | ((with_reducible refine gate_dst (N := 3) rfl ?_); refine box_event ?hg (N := 3) ?hd (cs := #[.int .i64 f0, .int .i64 f1, .int .i64 f2, .int .i64 f3]) (t := 56) ?hr ?_; (case hd => rfl); (case hg => rfl); (case hr => first | (go_simp; done) | (go_simp; rfl)); intro gd hg w3 hbox hb; have HB3 := Aside0.mk (below_step HB2.out hb); have BX3 := Aside0.mk (blk_below BX2.out hb); have BD3 := Aside0.mk hbox; clear hb hbox hg)
      | (go_at_call 15; refine (lw_sane.calls true _ rfl).mono ?_; rintro e w4 ⟨rfl, hb⟩; have HB4 := Aside0.mk (below_step HB3.out hb); have BX4 := Aside0.mk (blk_below BX3.out hb); have BD4 := Aside0.mk (blk_below BD3.out hb); have p0 : w4.cell? ⟨gb, 0, none⟩ = some (.slice A0 R.length c0) := (blk_cell BX4.out 0).trans rfl; have p1 : w4.cell? ⟨gb, 1, none⟩ = some (.slice A1 E.length c1) := (blk_cell BX4.out 1).trans rfl; have d0 : w4.cell? ⟨gd, 0, none⟩ = some (.int .i64 f0) := (blk_cell BD4.out 0).trans rfl; have d1 : w4.cell? ⟨gd, 1, none⟩ = some (.int .i64 f1) := (blk_cell BD4.out 1).trans rfl; have d2 : w4.cell? ⟨gd, 2, none⟩ = some (.int .i64 f2) := (blk_cell BD4.out 2).trans rfl; have d3 : w4.cell? ⟨gd, 3, none⟩ = some (.int .i64 f3) := (blk_cell BD4.out 3).trans rfl; have HBE := Aside0.mk HB4.out; clear hb)
      | (go_at_call 16; refine (lw_small.calls A0 c0 R A1 c1 E _ _ (Kd.C_below HR0.out HB4.out) HC0.out (Kd.C_below HR1.out HB4.out) HC1.out HS.out).mono ?_; rintro e w5 ⟨rfl, hb⟩; have HB5 := Aside0.mk (below_step HB4.out hb); have BX5 := Aside0.mk (blk_below BX4.out hb); have BD5 := Aside0.mk (blk_below BD4.out hb); clear p0 p1 d0 d1 d2 d3; have p0 : w5.cell? ⟨gb, 0, none⟩ = some (.slice A0 R.length c0) := (blk_cell BX5.out 0).trans rfl; have p1 : w5.cell? ⟨gb, 1, none⟩ = some (.slice A1 E.length c1) := (blk_cell BX5.out 1).trans rfl; have d0 : w5.cell? ⟨gd, 0, none⟩ = some (.int .i64 f0) := (blk_cell BD5.out 0).trans rfl; have d1 : w5.cell? ⟨gd, 1, none⟩ = some (.int .i64 f1) := (blk_cell BD5.out 1).trans rfl; have d2 : w5.cell? ⟨gd, 2, none⟩ = some (.int .i64 f2) := (blk_cell BD5.out 2).trans rfl; have d3 : w5.cell? ⟨gd, 3, none⟩ = some (.int .i64 f3) := (blk_cell BD5.out 3).trans rfl; clear HBE; have HBE := Aside0.mk HB5.out; clear hb)
      | (go_at_call 30; refine (dr_Breach.calls A0 c0 R A1 c1 E f0 f1 f2 f3 ts _ 0 _ (Kd.C_below HR0.out HB5.out) HC0.out (Kd.C_below HR1.out HB5.out) HC1.out HBR.out).mono ?_; rintro e w6 ⟨v5, rfl, hT, hb⟩; obtain ⟨B5, d5, e5, hd5, hC5⟩ := Kd.R_reads hT; subst e5; have HT6 := Aside0.mk hC5; have HD5 := Aside0.mk hd5; have HB6 := Aside0.mk (below_step HB5.out hb); have BX6 := Aside0.mk (blk_below BX5.out hb); have BD6 := Aside0.mk (blk_below BD5.out hb); clear p0 p1 d0 d1 d2 d3; have p0 : w6.cell? ⟨gb, 0, none⟩ = some (.slice A0 R.length c0) := (blk_cell BX6.out 0).trans rfl; have p1 : w6.cell? ⟨gb, 1, none⟩ = some (.slice A1 E.length c1) := (blk_cell BX6.out 1).trans rfl; have d0 : w6.cell? ⟨gd, 0, none⟩ = some (.int .i64 f0) := (blk_cell BD6.out 0).trans rfl; have d1 : w6.cell? ⟨gd, 1, none⟩ = some (.int .i64 f1) := (blk_cell BD6.out 1).trans rfl; have d2 : w6.cell? ⟨gd, 2, none⟩ = some (.int .i64 f2) := (blk_cell BD6.out 2).trans rfl; have d3 : w6.cell? ⟨gd, 3, none⟩ = some (.int .i64 f3) := (blk_cell BD6.out 3).trans rfl; clear hb hT hd5 hC5)
      | (go_at_call 22; refine (rholds_any R E A0 A1 c0 c1 _ (Kd.C_below HR0.out (below_alloc HB6.out _)) HC0.out (Kd.C_below HR1.out (below_alloc HB6.out _)) HC1.out h24 (some ⟨w6.heap.size, 0, none⟩) 1 [(⟨f0, f1, f2, f3⟩ : S56)] (litD1 (blk_new w6 _)) (Nat.le_refl _) k 0 HHO.out).mono ?_; rintro e w7 ⟨rfl, hb⟩; have HB7 := Aside0.mk (below_step (below_alloc HB6.out _) hb); have BX7 := Aside0.mk (blk_below (blk_below BX6.out (below_alloc (Below.refl _ _) _)) hb); have BD7 := Aside0.mk (blk_below (blk_below BD6.out (below_alloc (Below.refl _ _) _)) hb); have HT7 := Aside0.mk (Kd.C_below HT6.out (below_step (below_alloc (Below.refl _ _) _) hb)); clear p0 p1 d0 d1 d2 d3; have p0 : w7.cell? ⟨gb, 0, none⟩ = some (.slice A0 R.length c0) := (blk_cell BX7.out 0).trans rfl; have p1 : w7.cell? ⟨gb, 1, none⟩ = some (.slice A1 E.length c1) := (blk_cell BX7.out 1).trans rfl; have d0 : w7.cell? ⟨gd, 0, none⟩ = some (.int .i64 f0) := (blk_cell BD7.out 0).trans rfl; have d1 : w7.cell? ⟨gd, 1, none⟩ = some (.int .i64 f1) := (blk_cell BD7.out 1).trans rfl; have d2 : w7.cell? ⟨gd, 2, none⟩ = some (.int .i64 f2) := (blk_cell BD7.out 2).trans rfl; have d3 : w7.cell? ⟨gd, 3, none⟩ = some (.int .i64 f3) := (blk_cell BD7.out 3).trans rfl; clear HBE; have HBE := Aside0.mk HB7.out; clear hb)
      | (go_at_call 31; refine (rearliest_any R E A0 A1 c0 c1 _ (Kd.C_below HR0.out HB7.out) HC0.out (Kd.C_below HR1.out HB7.out) HC1.out h24 fs _ 0 HEA.out).mono ?_; rintro e w8 ⟨v8, rfl, _, hb⟩; have HB8 := Aside0.mk (below_step HB7.out hb); have BX8 := Aside0.mk (blk_below BX7.out hb); have BD8 := Aside0.mk (blk_below BD7.out hb); have HT8 := Aside0.mk (Kd.C_below HT7.out hb); clear p0 p1 d0 d1 d2 d3; have p0 : w8.cell? ⟨gb, 0, none⟩ = some (.slice A0 R.length c0) := (blk_cell BX8.out 0).trans rfl; have p1 : w8.cell? ⟨gb, 1, none⟩ = some (.slice A1 E.length c1) := (blk_cell BX8.out 1).trans rfl; have d0 : w8.cell? ⟨gd, 0, none⟩ = some (.int .i64 f0) := (blk_cell BD8.out 0).trans rfl; have d1 : w8.cell? ⟨gd, 1, none⟩ = some (.int .i64 f1) := (blk_cell BD8.out 1).trans rfl; have d2 : w8.cell? ⟨gd, 2, none⟩ = some (.int .i64 f2) := (blk_cell BD8.out 2).trans rfl; have d3 : w8.cell? ⟨gd, 3, none⟩ = some (.int .i64 f3) := (blk_cell BD8.out 3).trans rfl; clear HBE; have HBE := Aside0.mk HB8.out; clear hb)
      | (go_at_call 32; refine (rIsRun_any R E A0 A1 B5 c0 c1 d5 ts _ (Kd.C_below HR0.out HB8.out) HC0.out (Kd.C_below HR1.out HB8.out) HC1.out HT8.out HK.out).mono ?_; rintro e w9 ⟨rfl, hb⟩; rw [HRN.out]; have HB9 := Aside0.mk (below_step HB8.out hb); have BD9 := Aside0.mk (blk_below BD8.out hb); have HT9 := Aside0.mk (Kd.C_below HT8.out hb); clear p0 p1 d0 d1 d2 d3; have d0 : w9.cell? ⟨gd, 0, none⟩ = some (.int .i64 f0) := (blk_cell BD9.out 0).trans rfl; have d1 : w9.cell? ⟨gd, 1, none⟩ = some (.int .i64 f1) := (blk_cell BD9.out 1).trans rfl; have d2 : w9.cell? ⟨gd, 2, none⟩ = some (.int .i64 f2) := (blk_cell BD9.out 2).trans rfl; have d3 : w9.cell? ⟨gd, 3, none⟩ = some (.int .i64 f3) := (blk_cell BD9.out 3).trans rfl; clear hb)
      | (go_at_call 33; refine (rf_Keeps.calls B5 d5 ts _ _ _ _ false _ HT9.out HD5.out HKE.out).mono ?_; rintro e wA ⟨rfl, hb⟩; clear HBE; have HBE := Aside0.mk (below_step HB9.out hb); clear hb))
    go_ret
    exact ⟨rfl, HBE.out⟩
/-- A demand that does not hold in a run. -/
theorem breach_keeps {n : Nat} {ts : List Int} {d : S56} (hl : ts.length = n) (hd : demOK n d = true) (ht : ∀ x : Int, 0 ≤ x → x < n → 0 ≤ rd ts x ∧ rd ts x ≤ 1000000000000000) (b : S27) (hb : b ∈ againstL d) (hle : rd ts b.f1 - rd ts b.f0 ≤ b.f2) : rf_Keeps.f ts d.f0 d.f1 d.f2 d.f3 = some false := by
  obtain ⟨h0, h1, h2, h3⟩ := (demOK_iff _ d).1 hd
  have t0 := ht d.f0 h0.1 h0.2
  have t1 := ht d.f1 h1.1 h1.2
  rw [againstL_val hd] at hb
  unfold rf_Keeps.f
  rw [wrap64_id' (rd ts d.f1 - rd ts d.f0) (by omega) (by omega), if_pos h1.1, if_pos (by omega), if_pos h0.1, if_pos (by omega)]
  rcases List.mem_cons.1 hb with rfl | hb
  · simp only at hle
    rw [if_neg (by omega)]
  · by_cases c3 : d.f3 = -1
    · rw [if_pos c3] at hb; cases hb
    · rw [if_neg c3] at hb
      simp only [List.mem_cons, List.not_mem_nil, or_false] at hb
      subst hb
      simp only at hle
      by_cases c : rd ts d.f1 - rd ts d.f0 ≥ d.f2
      · rw [if_pos c, if_neg c3, decide_eq_false (by omega)]
      · rw [if_neg c]
theorem lw_DriftBreaches.calls (k : Nat) (A0 : Option Addr) (c0 : Nat) (R : List S42) (A1 : Option Addr) (c1 : Nat) (E : List S80) (f0 f1 f2 f3 : Int) (r : Bool) (w : World) (hr0 : Kd.C k42 w A0 R.length R) (hc0 : R.length ≤ c0) (hr1 : Kd.C k80 w A1 E.length E) (hc1 : E.length ≤ c1) (h : r = true) :
    Calls Try.prog 6 #[.agg #[.slice A0 R.length c0, .slice A1 E.length c1], .agg #[.int .i64 f0, .int .i64 f1, .int .i64 f2, .int .i64 f3]] w fun e w' => e = .returned (.bool r) ∧ Below w.heap.size w w' := by
  subst h
  by_cases h24 : E.length ≤ 24
  · have hS : lw_small.f R E = some true := by unfold lw_small.f; rw [decide_eq_true (by omega)]
    cases hpl : planOK R E
    · refine breaches_err R E A0 A1 c0 c1 f0 f1 f2 f3 w hr0 hc0 hr1 hc1 h24 hS [] false 0 311 ?_ ?_ (.inl rfl)
      · unfold dr_Breach.f; rw [if_neg (by rw [hpl]; decide)]
      · unfold dr_Holds.f; rw [if_neg (by rw [hpl]; decide)]
    · have hK := (planOK_iff R E).1 hpl
      cases hd : demOK E.length (⟨f0, f1, f2, f3⟩ : S56)
      · refine breaches_err R E A0 A1 c0 c1 f0 f1 f2 f3 w hr0 hc0 hr1 hc1 h24 hS [] false 0 314 ?_ (holds_bad hpl 0 (by simp) hd) (.inr rfl)
        unfold dr_Breach.f; rw [if_pos hpl, if_neg (by rw [hd]; decide)]
      · obtain ⟨ts, is, b1, b2, b3⟩ := breach_val hK h24 ⟨f0, f1, f2, f3⟩ hd
        have hbr : dr_Breach.f R E f0 f1 f2 f3 = some (ts, is, 0) := by unfold dr_Breach.f; rw [if_pos hpl, if_pos hd, b1]
        have hbb : breachB R E ⟨f0, f1, f2, f3⟩ = is := by unfold breachB; rw [b1]
        have hho := holds_all hK h24 (l := [(⟨f0, f1, f2, f3⟩ : S56)]) (by simp) (fun j hj => by
          have : j = 0 := by simpa using hj
          subst this; exact hd)
        have hix : idxOf (breachB R E) [(⟨f0, f1, f2, f3⟩ : S56)] = if is = true then 0 else -1 := by
          rw [idxOf_cons, hbb]
          rfl
        rw [hix] at hho
        have hex : ∃ fs som, dr_Earliest.f R E = some (fs, som, 0) ∧ (som = false → ∀ p, ¬ Feas (bindsL R E) p) := by
          rcases circle_api hK h24 with ⟨_, h2, h3, _⟩ | ⟨_, ⟨us, h2, _, _⟩, _, _⟩
          · exact ⟨_, _, h2, fun _ => h3⟩
          · exact ⟨_, _, h2, fun h => by cases h⟩
        obtain ⟨fs, som, hea, hno⟩ := hex
        refine breaches_main R E A0 A1 c0 c1 f0 f1 f2 f3 w hr0 hc0 hr1 hc1 h24 hK hS ts fs is som _ hbr hho hea ?_
        cases is with
        | false =>
          left
          refine ⟨rfl, ?_⟩
          cases som with
          | false => exact .inl rfl
          | true => exact .inr ⟨rfl, rfl⟩
        | true =>
          right
          obtain ⟨r1, b, hb, hle⟩ := b3 rfl
          obtain ⟨b', hb', p, hp⟩ := b2.1 rfl
          have hs : som = true := by
            cases som with
            | true => rfl
            | false => exact absurd (feas_append.1 hp).1 (hno rfl p)
          obtain ⟨x1, x2, x3, x4⟩ := (isRun_iff hK h24 ts).1 r1
          exact ⟨rfl, hs, rfl, r1, breach_keeps x1 hd x3 b hb hle⟩
  · refine breaches_big R E A0 A1 c0 c1 f0 f1 f2 f3 w hr0 hc0 hr1 hc1 ?_
    unfold lw_small.f; rw [decide_eq_false (by omega)]
end Go.Proofs.Ytlfopemghafboaa.D
