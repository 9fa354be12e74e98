/- The contract of the law DriftClock, by a walk through its code. No condition beyond each theorem's own hypotheses. -/
import Derived.Test.YtlfopemghafboaaDk0
import Derived.Test.YtlfopemghafboaaDsane
import Derived.WalkSpells
import Derived.Handy
import Derived.StillTailTactics
import Derived.IntWalk
import Derived.Deep.LoopGhost
import Derived.Deep.RegionWith
import Derived.Deep.RegionHeld3
import Derived.Shelf.Abstract
namespace Go.Proofs.Ytlfopemghafboaa.D
open Go.RowKit Go.Proofs.YtlfopemghafboaaW.PrintWords Go.Proofs.YtlfopemghafboaaW.PrintLast Go.Proofs.YtlfopemghafboaaW.PrintMore
set_option linter.unusedVariables false
set_option linter.unusedSimpArgs false
/-- A row of moments of the call's own, beside what stood at w. -/
def OutT (w W : World) (v : Value) (xs : List S82) : Prop := Kd.R k82 82 W w.heap.size (fun _ => True) v xs ∧ Below w.heap.size w W
theorem OutT.nil (w : World) : OutT w w (.slice none 0 0) [] := ⟨Kd.R_nil _ _ _ _ _, Below.refl _ _⟩
theorem OutT.below {w W W1 : World} {v : Value} {xs : List S82} (h : OutT w W v xs) (hb : Below W.heap.size W W1) : OutT w W1 v xs := ⟨Kd.R_below h.1 hb, below_step h.2 hb⟩
section
variable {ops : Array Oper} {rest : List Oper} {o : Oper} {a : Act} {Q : Exit → Act → World → Prop} {Kc : Act → World → Prop}
theorem outT_append {w W : World} (hgd : o.guard = none) (s x : Operand) (ho : o.op = .call { callee := .builtin .append, args := #[s, x], argTypes := #[43, 43] }) (v : Value) (xs : List S82) (p : S82) (hs : a.eval s = v) (hx : a.eval x = .slice (some ⟨W.heap.size, 0, none⟩) 1 1)
    (hT : OutT w W v xs) (hl : xs.length < 1000000) (h : ∀ v1 w1, OutT w w1 v1 (xs ++ [p]) → wpList Try.prog ops Q rest (a.put o.dst v1) w1) : wpList Try.prog ops Q (o :: rest) a (W.alloc (.cells #[.int .i64 p.f0, .int .i64 p.f1] 82)) :=
  Kd.R_append k82 (w0 := w) w.heap.size hgd s x 43 82 (.agg #[(.int .i64 0), (.int .i64 0)]) 16 ho Try.underlying43 info82 rfl (by decide) (by omega) v xs p [.int .i64 p.f0, .int .i64 p.f1] (fun _ => True) (fun _ => False) hs hx (k82_mkM _ _ _ p) (fun _ hk => hk.elim) (fun _ _ => trivial) hT.1 hT.2 hT.2.size (by omega)
    (fun v1 w1 h1 h2 h3 _ => h v1 w1 ⟨h1, h2⟩)
theorem outT_append_step {w W : World} (hw : Region.wanted o (yielded ops a.tmps) = true) (s x : Operand) (ho : o.op = .call { callee := .builtin .append, args := #[s, x], argTypes := #[43, 43] }) (v : Value) (xs : List S82) (p : S82) (hs : a.eval s = v) (hx : a.eval x = .slice (some ⟨W.heap.size, 0, none⟩) 1 1)
    (hT : OutT w W v xs) (hl : xs.length < 1000000) (h : ∀ v1 w1, OutT w w1 v1 (xs ++ [p]) → Kc (a.put o.dst v1) w1) :
    if Region.wanted o (yielded ops a.tmps) = true then Oper.wp Try.prog o a (W.alloc (.cells #[.int .i64 p.f0, .int .i64 p.f1] 82)) Kc Q else Kc (a.put o.dst undef) (W.alloc (.cells #[.int .i64 p.f0, .int .i64 p.f1] 82)) :=
  Kd.R_append_step k82 (w0 := w) w.heap.size hw s x 43 82 (.agg #[(.int .i64 0), (.int .i64 0)]) 16 ho Try.underlying43 info82 rfl (by decide) (by omega) v xs p [.int .i64 p.f0, .int .i64 p.f1] (fun _ => True) (fun _ => False) hs hx (k82_mkM _ _ _ p) (fun _ hk => hk.elim) (fun _ _ => trivial) hT.1 hT.2 hT.2.size (by omega)
    (fun v1 w1 h1 h2 h3 _ => h v1 w1 ⟨h1, h2⟩)
end
theorem clk_wrap (m : Nat) (h : m ≤ 1000000) : IntKind.i64.wrap (((m + 1 : Nat) : Int) - 1) = (m : Int) ∧ IntKind.i64.wrap ((m : Int) + 1 - 1) = (m : Int) ∧ wrap64 (m : Int) = (m : Int) ∧ (0 : Int) ≤ (m : Int) + 1 := by
  refine ⟨?_, ?_, wrap64_id' _ (by omega) (by omega), by omega⟩
  · rw [i64_w, wrap64_id' _ (by omega) (by omega)]; omega
  · rw [i64_w, wrap64_id' _ (by omega) (by omega)]; omega
theorem clk_ne (m : Nat) : (¬ ((m + 1) * 2 = m * 2) ∧ ¬ (m * 2 = (m + 1) * 2) ∧ ¬ ((m + 1) * 2 + 1 = m * 2) ∧ ¬ (m * 2 = (m + 1) * 2 + 1)) ∧ (¬ ((m + 1) * 2 = m * 2 + 1) ∧ ¬ (m * 2 + 1 = (m + 1) * 2) ∧ ¬ ((m + 1) * 2 + 1 = m * 2 + 1) ∧ ¬ (m * 2 + 1 = (m + 1) * 2 + 1)) := by omega
theorem outT_put {w W : World} {go n c : Nat} {l : List S82} (h : OutT w W (.slice (some ⟨go, 0, none⟩) n c) l) (i : Nat) (hi : i < l.length) (x : S82) : OutT w ((W.setCell ⟨go, i * 2, none⟩ (.int .i64 x.f0)).setCell ⟨go, i * 2 + 1, none⟩ (.int .i64 x.f1)) (.slice (some ⟨go, 0, none⟩) n c) (l.set i x) := by
  have hn := (Kd.R_reads' h.1).1
  obtain ⟨g, cN, eN, hg, _, _⟩ := Kd.R_form h.1 (by omega)
  injection eN with e1 _ _
  injection e1 with e1
  injection e1 with e1 _ _
  subst e1
  obtain ⟨ce, hcl, hM, hcc, hfr⟩ := Kd.R_elem h.1 z82 (i : Int) (by omega) (by omega)
  obtain rfl := k82_openM hM
  have hp := (Kd.R_seg h.1 (i : Int) (by omega) (by omega) (seg := [.int .i64 x.f0, .int .i64 x.f1]) (j := 0) hcl hcc (show 2 ≤ 2 from by decide) (x' := x) (k82_mkM _ _ _ x) (fun _ hk => hk)).1
  exact ⟨hp, below_set (below_set h.2 hg) hg⟩
def clk_T29 : Bool × List (List Nat × List Nat) := (true,[([],[]),([],[]),([],[]),([],[]),([3],[3]),([],[]),([],[]),([6],[6]),([5,7],[5,7]),([8],[8]),([],[]),([],[]),([10,11],[10,11]),([12],[12]),([0,1,0,1,5,6,7,8,9,13],[0,1]),([14,9,0,1,5,6,7,8,9,13],[9,14]),([2,4,0,1,2,3,4,5,6,7,8,9,10,11,12,13,14,15],[2,4]),([16,13,15,0,1,2,3,4,5,6,7,8,9,10,11,12,13,14,15],[13,16])])
def clk_B29 : List Nat := [0,0,0,0,8,0,0,64,224,480,0,0,3072,7168,16355,32739,65535,131071]
theorem clk_tab29 : rtab .any (opsOf Try.f13 29) = clk_T29 := by kernel_rfl
theorem clk_bits29 : waitsOk clk_T29.2 clk_B29 = true := by kernel_rfl
/-- What the law keeps in memory: the plan's box, and the three rows that were told. -/
structure CMem (w0 W : World) (gb : Nat) (A0 A1 : Option Addr) (n0 n1 c0 c1 : Nat) (v7 v10 v11 : Value) (ts os ks : List Int) : Prop where
  box : W.heap[gb]? = some (.cells #[.slice A0 n0 c0, .slice A1 n1 c1] 25 (0, 0))
  t : Kd.R (Kd.int .i64) 3 W w0.heap.size (fun _ => True) v7 ts
  o : Kd.R (Kd.int .i64) 3 W w0.heap.size (fun _ => True) v10 os
  k : Kd.R (Kd.int .i64) 3 W w0.heap.size (fun _ => True) v11 ks
  bel : Below w0.heap.size w0 W
theorem CMem.below {w0 W W1 : World} {gb : Nat} {A0 A1 : Option Addr} {n0 n1 c0 c1 : Nat} {v7 v10 v11 : Value} {ts os ks : List Int} (h : CMem w0 W gb A0 A1 n0 n1 c0 c1 v7 v10 v11 ts os ks) (hb : Below W.heap.size W W1) : CMem w0 W1 gb A0 A1 n0 n1 c0 c1 v7 v10 v11 ts os ks :=
  ⟨blk_below h.box hb, Kd.R_below h.t hb, Kd.R_below h.o hb, Kd.R_below h.k hb, below_step h.bel hb⟩
set_option maxHeartbeats 3200000 in
set_option maxRecDepth 100000 in
theorem clock_early (R : List S42) (E : List S80) (A0 A1 A : Option Addr) (c0 c1 c : Nat) (ch : List Int) (pl : Int) (w : World) (hr0 : Kd.C k42 w A0 R.length R) (hc0 : R.length ≤ c0) (hr1 : Kd.C k80 w A1 E.length E) (hc1 : E.length ≤ c1)
    (h : decide ((E.length : Int) ≤ 24) = false ∨ (decide ((E.length : Int) ≤ 24) = true ∧ (planOK R E = false ∨ (planOK R E = true ∧ (decide (pl < 0) = true ∨ (decide (pl < 0) = false ∧ decide (pl ≥ (R.length : Int)) = true)))))) :
    Calls Try.prog 13 #[.agg #[.slice A0 R.length c0, .slice A1 E.length c1], .slice A ch.length c, .int .i64 pl] w fun e w' => e = .returned (.bool true) ∧ Below w.heap.size w w' := by
  have HR0 := Aside0.mk hr0
  have HR1 := Aside0.mk hr1
  have HC0 := Aside0.mk hc0
  have HC1 := Aside0.mk hc1
  have HS : Aside0 (lw_small.f R E = some (decide ((E.length : Int) ≤ 24))) := ⟨rfl⟩
  have HI : Aside0 (rf_IsPlan.f 1000 R E = some (planOK R E)) := ⟨isPlan_val R E 1000 (by omega)⟩
  clear hr0 hr1 hc0 hc1
  rcases h with d1 | ⟨d1, d2 | ⟨d2, d3 | ⟨d3, d4⟩⟩⟩ <;> (
    (try rw [d1] at HS)
    (try rw [d2] at HI)
    go_enter Try.func13, Try.ntmps13
    go_wp2_with (first
      | ((with_reducible refine gate_dst (N := 3) rfl ?_); refine box_event ?hg (N := 3) ?hd (cs := #[.slice A0 R.length c0, .slice A1 E.length c1]) (t := 25) ?hr ?_; (case hd => rfl); (case hg => rfl); (case hr => first | (go_simp; done) | (go_simp; rfl)); intro gb hg w2 hbox hb; have HB := Aside0.mk hb; have BX := Aside0.mk hbox; clear hb hbox hg)
      | (go_at_call 15; refine (lw_sane.calls true _ rfl).mono ?_; rintro e w4 ⟨rfl, hb4⟩; have HB4 := Aside0.mk (below_step HB.out hb4); have BX4 := Aside0.mk (blk_below BX.out hb4); have p0 : w4.cell? ⟨gb, 0, none⟩ = some (.slice A0 R.length c0) := (blk_cell BX4.out 0).trans rfl; have p1 : w4.cell? ⟨gb, 1, none⟩ = some (.slice A1 E.length c1) := (blk_cell BX4.out 1).trans rfl; clear hb4)
      | (go_at_call 16; refine (lw_small.calls A0 c0 R A1 c1 E _ _ (Kd.C_below HR0.out HB4.out) HC0.out (Kd.C_below HR1.out HB4.out) HC1.out HS.out).mono ?_; rintro e w5 ⟨rfl, hb5⟩; have HB5 := Aside0.mk (below_step HB4.out hb5); have BX5 := Aside0.mk (blk_below BX4.out hb5); have r0 : w5.cell? ⟨gb, 0, none⟩ = some (.slice A0 R.length c0) := (blk_cell BX5.out 0).trans rfl; have r1 : w5.cell? ⟨gb, 1, none⟩ = some (.slice A1 E.length c1) := (blk_cell BX5.out 1).trans rfl; have HBE := Aside0.mk HB5.out; clear hb5)
      | (go_at_call 28; refine (rf_IsPlan.calls 1000 A0 c0 R A1 c1 E _ _ (Kd.C_below HR0.out HB5.out) HC0.out (Kd.C_below HR1.out HB5.out) HC1.out HI.out).mono ?_; rintro e w6 ⟨rfl, hb6⟩; have HB6 := Aside0.mk (below_step HB5.out hb6); have BX6 := Aside0.mk (blk_below BX5.out hb6); have u0 : w6.cell? ⟨gb, 0, none⟩ = some (.slice A0 R.length c0) := (blk_cell BX6.out 0).trans rfl; have u1 : w6.cell? ⟨gb, 1, none⟩ = some (.slice A1 E.length c1) := (blk_cell BX6.out 1).trans rfl; clear HBE; have HBE := Aside0.mk HB6.out; clear hb6))
    go_ret
    exact ⟨rfl, HBE.out⟩)

set_option maxHeartbeats 3200000 in
set_option maxRecDepth 100000 in
theorem clock_norun (R : List S42) (E : List S80) (A0 A1 A : Option Addr) (c0 c1 c : Nat) (ch ts os ks : List Int) (pl : Int) (w : World) (hr0 : Kd.C k42 w A0 R.length R) (hc0 : R.length ≤ c0) (hr1 : Kd.C k80 w A1 E.length E) (hc1 : E.length ≤ c1) (hl : Kd.C (Kd.int .i64) w A ch.length ch) (hcl : ch.length ≤ c)
    (hE1 : 1 ≤ E.length) (hS : lw_small.f R E = some true) (hI : rf_IsPlan.f 1000 R E = some true) (hrun : dr_Run.f R E ch = some (ts, false, 0)) (hrd : dr_Readings.f R E = some (os, ks, 0)) (hos : os.length = E.length) (hks : ks.length = E.length) (d3 : decide (pl < 0) = false) (d4 : decide (pl ≥ (R.length : Int)) = false) :
    Calls Try.prog 13 #[.agg #[.slice A0 R.length c0, .slice A1 E.length c1], .slice A ch.length c, .int .i64 pl] w fun e w' => e = .returned (.bool true) ∧ Below w.heap.size w w' := by
  have HR0 := Aside0.mk hr0
  have HR1 := Aside0.mk hr1
  have HC0 := Aside0.mk hc0
  have HC1 := Aside0.mk hc1
  have HL := Aside0.mk hl
  have HCL := Aside0.mk hcl
  have HS := Aside0.mk hS
  have HI := Aside0.mk hI
  have HRUN := Aside0.mk hrun
  have HRD := Aside0.mk hrd
  have HLo : Aside0 (os.length = E.length ∧ 1 ≤ E.length) := ⟨⟨hos, hE1⟩⟩
  have HLk : Aside0 (ks.length = E.length ∧ 1 ≤ E.length) := ⟨⟨hks, hE1⟩⟩
  have b10 : ((os.length : Int) != (E.length : Int)) = false := by simp [hos]
  have b11 : ((ks.length : Int) != (E.length : Int)) = false := by simp [hks]
  clear hr0 hc0 hr1 hc1 hl hcl hS hI hrun hrd hos hks
  go_enter Try.func13, Try.ntmps13
  go_wp2_with (first
        | ((with_reducible refine gate_dst (N := 3) rfl ?_); refine box_event ?hg (N := 3) ?hd (cs := #[.slice A0 R.length c0, .slice A1 E.length c1]) (t := 25) ?hr ?_; (case hd => rfl); (case hg => rfl); (case hr => first | (go_simp; done) | (go_simp; rfl)); intro gb hg w2 hbox hb; have HB := Aside0.mk hb; have BX := Aside0.mk hbox; clear hb hbox hg)
        | (go_at_call 15; refine (lw_sane.calls true _ rfl).mono ?_; rintro e w4 ⟨rfl, hb4⟩; have HB4 := Aside0.mk (below_step HB.out hb4); have BX4 := Aside0.mk (blk_below BX.out hb4); have p0 : w4.cell? ⟨gb, 0, none⟩ = some (.slice A0 R.length c0) := (blk_cell BX4.out 0).trans rfl; have p1 : w4.cell? ⟨gb, 1, none⟩ = some (.slice A1 E.length c1) := (blk_cell BX4.out 1).trans rfl; clear hb4)
        | (go_at_call 16; refine (lw_small.calls A0 c0 R A1 c1 E _ _ (Kd.C_below HR0.out HB4.out) HC0.out (Kd.C_below HR1.out HB4.out) HC1.out HS.out).mono ?_; rintro e w5 ⟨rfl, hb5⟩; have HB5 := Aside0.mk (below_step HB4.out hb5); have BX5 := Aside0.mk (blk_below BX4.out hb5); clear p0 p1; have p0 : w5.cell? ⟨gb, 0, none⟩ = some (.slice A0 R.length c0) := (blk_cell BX5.out 0).trans rfl; have p1 : w5.cell? ⟨gb, 1, none⟩ = some (.slice A1 E.length c1) := (blk_cell BX5.out 1).trans rfl; clear hb5)
        | (go_at_call 28; refine (rf_IsPlan.calls 1000 A0 c0 R A1 c1 E _ _ (Kd.C_below HR0.out HB5.out) HC0.out (Kd.C_below HR1.out HB5.out) HC1.out HI.out).mono ?_; rintro e w6 ⟨rfl, hb6⟩; have HB6 := Aside0.mk (below_step HB5.out hb6); have BX6 := Aside0.mk (blk_below BX5.out hb6); clear p0 p1; have p0 : w6.cell? ⟨gb, 0, none⟩ = some (.slice A0 R.length c0) := (blk_cell BX6.out 0).trans rfl; have p1 : w6.cell? ⟨gb, 1, none⟩ = some (.slice A1 E.length c1) := (blk_cell BX6.out 1).trans rfl; clear hb6)
        | (go_at_call 49; refine (dr_Run.calls A0 c0 R A1 c1 E A c ch ts false 0 _ (Kd.C_below HR0.out HB6.out) HC0.out (Kd.C_below HR1.out HB6.out) HC1.out (Kd.C_below HL.out HB6.out) HCL.out HRUN.out).mono ?_; rintro e w7 ⟨v7, rfl, hT7, hb7⟩; have HT7 := Aside0.mk hT7; have HB7 := Aside0.mk (below_step HB6.out hb7); have BX7 := Aside0.mk (blk_below BX6.out hb7); clear p0 p1; have p0 : w7.cell? ⟨gb, 0, none⟩ = some (.slice A0 R.length c0) := (blk_cell BX7.out 0).trans rfl; have p1 : w7.cell? ⟨gb, 1, none⟩ = some (.slice A1 E.length c1) := (blk_cell BX7.out 1).trans rfl; clear hb7 hT7)
        | (go_at_call 43; refine (dr_Readings.calls A0 c0 R A1 c1 E _ _ 0 _ (Kd.C_below HR0.out HB7.out) HC0.out (Kd.C_below HR1.out HB7.out) HC1.out HRD.out).mono ?_; rintro e w8 ⟨v10, v11, rfl, hT10, hT11, hb8⟩; obtain ⟨ad10, c10, e10⟩ := rform hT10 (by have := HLo.out; omega); obtain ⟨ad11, c11, e11⟩ := rform hT11 (by have := HLk.out; omega); subst e10; subst e11; have CM : Aside0 (CMem w w8 gb A0 A1 R.length E.length c0 c1 v7 (.slice (some ad10) os.length c10) (.slice (some ad11) ks.length c11) ts os ks) := ⟨⟨blk_below BX7.out hb8, Kd.R_below (Kd.R_mono (Kd.R_lower HT7.out HB6.out.size) (fun _ _ => trivial)) hb8, Kd.R_mono (Kd.R_lower hT10 HB7.out.size) (fun _ _ => trivial), Kd.R_mono (Kd.R_lower hT11 HB7.out.size) (fun _ _ => trivial), below_step HB7.out hb8⟩⟩; clear p0 p1; have p0 : w8.cell? ⟨gb, 0, none⟩ = some (.slice A0 R.length c0) := (blk_cell CM.out.box 0).trans rfl; have p1 : w8.cell? ⟨gb, 1, none⟩ = some (.slice A1 E.length c1) := (blk_cell CM.out.box 1).trans rfl; clear hb8 hT10 hT11))
  go_ret
  exact ⟨rfl, CM.out.bel⟩
set_option maxHeartbeats 3200000 in
set_option maxRecDepth 100000 in
theorem clock_run (R : List S42) (E : List S80) (A0 A1 A : Option Addr) (c0 c1 c : Nat) (ch ts os ks : List Int) (pl : Int) (w : World) (hr0 : Kd.C k42 w A0 R.length R) (hc0 : R.length ≤ c0) (hr1 : Kd.C k80 w A1 E.length E) (hc1 : E.length ≤ c1) (hl : Kd.C (Kd.int .i64) w A ch.length ch) (hcl : ch.length ≤ c)
    (hK : PlanOK R E) (h24 : E.length ≤ 24) (hS : lw_small.f R E = some true) (hI : rf_IsPlan.f 1000 R E = some true) (hrun : dr_Run.f R E ch = some (ts, true, 0)) (hrd : dr_Readings.f R E = some (os, ks, 0)) (hos : os = (rdL E E.length).1) (hks : ks = (rdL E E.length).2) (hR : isRunB R E ts = true) (hpl : 0 ≤ pl ∧ pl < R.length) :
    Calls Try.prog 13 #[.agg #[.slice A0 R.length c0, .slice A1 E.length c1], .slice A ch.length c, .int .i64 pl] w fun e w' => e = .returned (.bool true) ∧ Below w.heap.size w w' := by
  have d3 : decide (pl < 0) = false := by simp; omega
  have d4 : decide (pl ≥ (R.length : Int)) = false := by simp; omega
  have hE1 := hK.pos
  have HK := Aside0.mk hK
  have HRN := Aside0.mk hR
  have HPL := Aside0.mk hpl
  obtain ⟨hlt, _, htb, _⟩ := (isRun_iff hK h24 ts).1 hR
  have HR0 := Aside0.mk hr0
  have HR1 := Aside0.mk hr1
  have HC0 := Aside0.mk hc0
  have HC1 := Aside0.mk hc1
  have HL := Aside0.mk hl
  have HCL := Aside0.mk hcl
  have HS := Aside0.mk hS
  have HI := Aside0.mk hI
  have HRUN := Aside0.mk hrun
  have HRD := Aside0.mk hrd
  have hol : os.length = E.length := by rw [hos]; exact (rdL_len E E.length).1
  have hkl : ks.length = E.length := by rw [hks]; exact (rdL_len E E.length).2
  have HLo : Aside0 (os.length = E.length ∧ 1 ≤ E.length) := ⟨⟨hol, hE1⟩⟩
  have HLk : Aside0 (ks.length = E.length ∧ 1 ≤ E.length) := ⟨⟨hkl, hE1⟩⟩
  have HLt : Aside0 (ts.length = E.length ∧ 1 ≤ E.length) := ⟨⟨hlt, hE1⟩⟩
  have b7 : ((ts.length : Int) != (E.length : Int)) = false := by simp [hlt]
  have b10 : ((os.length : Int) != (E.length : Int)) = false := by simp [hol]
  have b11 : ((ks.length : Int) != (E.length : Int)) = false := by simp [hkl]
  have HOS := Aside0.mk hos
  have HKS := Aside0.mk hks
  have HON : Aside0 (∀ j : Nat, j < E.length → 0 ≤ rd os j) := ⟨fun j hj => by rw [hos]; exact origin_nonneg R E hK E.length (Nat.le_refl _) j hj⟩
  obtain ⟨ad0, eR, _⟩ := at_T42 hr0 pl hpl.1 hpl.2
  obtain ⟨ad1, eE, _⟩ := at_T80 hr1 0 (by omega) (by omega)
  cases eR
  cases eE
  clear hr0 hc0 hr1 hc1 hl hcl hS hI hrun hrd hos hks hR hK htb hpl
  go_enter Try.func13, Try.ntmps13
  go_wp2_with (first
        | ((with_reducible refine gate_dst (N := 3) rfl ?_); refine box_event ?hg (N := 3) ?hd (cs := #[.slice (some ad0) R.length c0, .slice (some ad1) E.length c1]) (t := 25) ?hr ?_; (case hd => rfl); (case hg => rfl); (case hr => first | (go_simp; done) | (go_simp; rfl)); intro gb hg w2 hbox hb; have HB := Aside0.mk hb; have BX := Aside0.mk hbox; clear hb hbox hg)
        | (go_at_call 15; refine (lw_sane.calls true _ rfl).mono ?_; rintro e w4 ⟨rfl, hb4⟩; have HB4 := Aside0.mk (below_step HB.out hb4); have BX4 := Aside0.mk (blk_below BX.out hb4); have p0 : w4.cell? ⟨gb, 0, none⟩ = some (.slice (some ad0) R.length c0) := (blk_cell BX4.out 0).trans rfl; have p1 : w4.cell? ⟨gb, 1, none⟩ = some (.slice (some ad1) E.length c1) := (blk_cell BX4.out 1).trans rfl; clear hb4)
        | (go_at_call 16; refine (lw_small.calls (some ad0) c0 R (some ad1) c1 E _ _ (Kd.C_below HR0.out HB4.out) HC0.out (Kd.C_below HR1.out HB4.out) HC1.out HS.out).mono ?_; rintro e w5 ⟨rfl, hb5⟩; have HB5 := Aside0.mk (below_step HB4.out hb5); have BX5 := Aside0.mk (blk_below BX4.out hb5); clear p0 p1; have p0 : w5.cell? ⟨gb, 0, none⟩ = some (.slice (some ad0) R.length c0) := (blk_cell BX5.out 0).trans rfl; have p1 : w5.cell? ⟨gb, 1, none⟩ = some (.slice (some ad1) E.length c1) := (blk_cell BX5.out 1).trans rfl; clear hb5)
        | (go_at_call 28; refine (rf_IsPlan.calls 1000 (some ad0) c0 R (some ad1) c1 E _ _ (Kd.C_below HR0.out HB5.out) HC0.out (Kd.C_below HR1.out HB5.out) HC1.out HI.out).mono ?_; rintro e w6 ⟨rfl, hb6⟩; have HB6 := Aside0.mk (below_step HB5.out hb6); have BX6 := Aside0.mk (blk_below BX5.out hb6); clear p0 p1; have p0 : w6.cell? ⟨gb, 0, none⟩ = some (.slice (some ad0) R.length c0) := (blk_cell BX6.out 0).trans rfl; have p1 : w6.cell? ⟨gb, 1, none⟩ = some (.slice (some ad1) E.length c1) := (blk_cell BX6.out 1).trans rfl; clear hb6)
        | (go_at_call 49; refine (dr_Run.calls (some ad0) c0 R (some ad1) c1 E A c ch ts true 0 _ (Kd.C_below HR0.out HB6.out) HC0.out (Kd.C_below HR1.out HB6.out) HC1.out (Kd.C_below HL.out HB6.out) HCL.out HRUN.out).mono ?_; rintro e w7 ⟨v7, rfl, hT7, hb7⟩; obtain ⟨ad7, c7, e7⟩ := rform hT7 (by have := HLt.out; omega); subst e7; have HT7 := Aside0.mk hT7; have HB7 := Aside0.mk (below_step HB6.out hb7); have BX7 := Aside0.mk (blk_below BX6.out hb7); clear p0 p1; have p0 : w7.cell? ⟨gb, 0, none⟩ = some (.slice (some ad0) R.length c0) := (blk_cell BX7.out 0).trans rfl; have p1 : w7.cell? ⟨gb, 1, none⟩ = some (.slice (some ad1) E.length c1) := (blk_cell BX7.out 1).trans rfl; clear hb7 hT7)
        | (go_at_call 43; refine (dr_Readings.calls (some ad0) c0 R (some ad1) c1 E _ _ 0 _ (Kd.C_below HR0.out HB7.out) HC0.out (Kd.C_below HR1.out HB7.out) HC1.out HRD.out).mono ?_; rintro e w8 ⟨v10, v11, rfl, hT10, hT11, hb8⟩; obtain ⟨ad10, c10, e10⟩ := rform hT10 (by have := HLo.out; omega); obtain ⟨ad11, c11, e11⟩ := rform hT11 (by have := HLk.out; omega); subst e10; subst e11; have CM : Aside0 (CMem w w8 gb (some ad0) (some ad1) R.length E.length c0 c1 (.slice (some ad7) ts.length c7) (.slice (some ad10) os.length c10) (.slice (some ad11) ks.length c11) ts os ks) := ⟨⟨blk_below BX7.out hb8, Kd.R_below (Kd.R_mono (Kd.R_lower HT7.out HB6.out.size) (fun _ _ => trivial)) hb8, Kd.R_mono (Kd.R_lower hT10 HB7.out.size) (fun _ _ => trivial), Kd.R_mono (Kd.R_lower hT11 HB7.out.size) (fun _ _ => trivial), below_step HB7.out hb8⟩⟩; clear p0 p1; have p0 : w8.cell? ⟨gb, 0, none⟩ = some (.slice (some ad0) R.length c0) := (blk_cell CM.out.box 0).trans rfl; have p1 : w8.cell? ⟨gb, 1, none⟩ = some (.slice (some ad1) E.length c1) := (blk_cell CM.out.box 1).trans rfl; clear hb8 hT10 hT11))
  clear p0 p1
  go_loopw [13, 14, 15] (fun v13 v14 v15 wr => ∃ (l : List S82) (wi : Int) (i : Nat), v14 = .int .i64 wi ∧ v15 = .int .i64 (i : Int) ∧ (Taken R E ts pl i l wi ∧ i ≤ E.length) ∧ Aside0 (OutT w8 wr v13 l)) (fun _ _ v15 _ => E.length - (intOf v15).toNat)
  case atStart => exact ⟨[], -1, 0, rfl, rfl, ⟨⟨by simp, fun _ => rfl, by simp⟩, by omega⟩, ⟨OutT.nil w8⟩⟩
  case round =>
    obtain ⟨l, wi, i, rfl, rfl, ⟨hTK, hi⟩, HT⟩ := hrel
    have CW := Aside0.mk (CM.out.below HT.out.2)
    have p0 : wr.cell? ⟨gb, 0, none⟩ = some (.slice (some ad0) R.length c0) := (blk_cell CW.out.box 0).trans rfl
    have p1 : wr.cell? ⟨gb, 1, none⟩ = some (.slice (some ad1) E.length c1) := (blk_cell CW.out.box 1).trans rfl
    by_cases hlt : i < E.length
    · have hltb : decide ((i : Int) < (E.length : Int)) = true := by simpa using hlt
      obtain ⟨_, eq1, s0, _⟩ := at_T80 HR1.out (i : Int) (by omega) (by omega)
      cases eq1
      replace s0 := (CW.out.bel.cell (World.block_lt_of_cell? w _ s0)).trans s0
      simp only [Int.toNat_natCast] at s0
      have x7 := relt CW.out.t i (by omega)
      have x10 := relt CW.out.o i (by omega)
      have x11 := relt CW.out.k i (by omega)
      have hii : (i : Int) < (E.length : Int) := by omega
      by_cases hp : (rd_T80 E (i : Int)).f0 = pl
      · have hpb : ((rd_T80 E (i : Int)).f0 != pl) = false := by simpa using hp
        by_cases hst : 0 ≤ wi ∧ rd os (i : Int) ≠ wi
        · have f1 : decide (wi ≥ 0) = true := by simpa using hst.1
          have f2 : (rd os (i : Int) != wi) = true := by simpa using hst.2
          go_wp2_with fail
          go_ret
          exact ⟨rfl, CW.out.bel⟩
        · have hTX : ∀ x ∈ l, ∃ j : Nat, j < i ∧ (rd_T80 E j).f0 = pl ∧ rd (rdL E E.length).1 j = rd os (i : Int) ∧ x = ⟨rd ts j, rd (rdL E E.length).2 j⟩ ∧ rd ts j ≤ 1000000 := by
            intro x hx
            by_cases hw0 : wi < 0
            · rw [hTK.none hw0] at hx; cases hx
            · have hwe : rd os (i : Int) = wi := by
                by_cases hq : rd os (i : Int) = wi
                · exact hq
                · exact absurd ⟨by omega, hq⟩ hst
              rw [hwe]; exact hTK.at_ x hx
          by_cases hb : rd ts (i : Int) > 1000000
          · have hbb : decide (rd ts (i : Int) > 1000000) = true := by simpa using hb
            rcases (show decide (wi ≥ 0) = false ∨ (decide (wi ≥ 0) = true ∧ (rd os (i : Int) != wi) = false) from by
              by_cases hw0 : wi < 0
              · left; simp; omega
              · right; refine ⟨by simp; omega, ?_⟩
                by_cases hq : rd os (i : Int) = wi
                · simp [hq]
                · exact absurd ⟨by omega, hq⟩ hst) with f1 | ⟨f1, f2⟩ <;> (
              go_wp2_with fail
              go_ret
              exact ⟨rfl, CW.out.bel⟩)
          · have hbb : decide (rd ts (i : Int) > 1000000) = false := by simpa using hb
            have HTX : Aside0 (Taken R E ts pl (i + 1) (l ++ [(⟨rd ts (i : Int), rd ks (i : Int)⟩ : S82)]) (rd os (i : Int))) := ⟨⟨by have := hTK.len; simp; omega, fun h => by have := HON.out i hlt; omega, fun x hx => by
              rcases List.mem_append.1 hx with hx | hx
              · obtain ⟨j, j0, j1⟩ := hTX x hx
                exact ⟨j, by omega, j1⟩
              · simp only [List.mem_cons, List.not_mem_nil, or_false] at hx
                exact ⟨i, by omega, hp, by rw [HOS.out], by rw [hx, HKS.out], by omega⟩⟩⟩
            have HLN : Aside0 (l.length < 1000000) := ⟨by have := hTK.len; omega⟩
            rcases (show decide (wi ≥ 0) = false ∨ (decide (wi ≥ 0) = true ∧ (rd os (i : Int) != wi) = false) from by
              by_cases hw0 : wi < 0
              · left; simp; omega
              · right; refine ⟨by simp; omega, ?_⟩
                by_cases hq : rd os (i : Int) = wi
                · simp [hq]
                · exact absurd ⟨by omega, hq⟩ hst) with f1 | ⟨f1, f2⟩ <;> (
              clear hTX hst hTK
              go_wp2_with fail
              have hS0 : wr.cell? (ad7.add i) = some (.int .i64 (rd ts (i : Int))) ∧ wr.cell? (ad11.add i) = some (.int .i64 (rd ks (i : Int))) := ⟨x7, x11⟩
              have ne0 := World.new_ne wr _ hS0.1
              have ne1 := World.new_ne wr _ hS0.2
              have Y7 := Aside0.mk (relt CM.out.t i (by omega))
              have Y11 := Aside0.mk (relt CM.out.k i (by omega))
              obtain ⟨s1, s2⟩ := hS0
              have hS0 : wr.cell? (ad7.add i) = some (.int .i64 (rd ts (i : Int))) ∧ wr.cell? (ad11.add i) = some (.int .i64 (rd ks (i : Int))) := ⟨s1, s2⟩
              go_region_held3 (fun w' => w'.cell? (ad7.add i) = some (.int .i64 (rd ts (i : Int))) ∧ w'.cell? (ad11.add i) = some (.int .i64 (rd ks (i : Int)))) ((first | exact hS0 | exact hS5 | go_keep)) ((first
                | (refine outT_append_step (w := w8) (W := wr.drew) (by rfl) (.tmp 123) (.tmp 133) rfl u13 l (⟨rd ts (i : Int), rd ks (i : Int)⟩ : S82) rfl rfl (HT.out.below (below_drew1 (Below.refl _ wr))) HLN.out ?_; intro v5 w5 hT5; have HT5 := Aside0.mk hT5; have hS5 : w5.cell? (ad7.add i) = some (.int .i64 (rd ts (i : Int))) ∧ w5.cell? (ad11.add i) = some (.int .i64 (rd ks (i : Int))) := ⟨(hT5.2.cell (World.block_lt_of_cell? _ _ Y7.out)).trans Y7.out, (hT5.2.cell (World.block_lt_of_cell? _ _ Y11.out)).trans Y11.out⟩; clear hT5)))
              go_wp2_with fail
              go_roundw
              case rel => exact ⟨_, _, i + 1, rfl, by go_num, ⟨HTX.out, by omega⟩, HT5⟩
              case measure => simp [intOf]; omega)
      · have hpb : ((rd_T80 E (i : Int)).f0 != pl) = true := by simpa using hp
        go_wp2_with fail
        go_roundw
        case rel => exact ⟨l, wi, i + 1, rfl, by go_num, ⟨⟨by have := hTK.len; omega, hTK.none, fun x hx => by obtain ⟨j, j0, j1⟩ := hTK.at_ x hx; exact ⟨j, by omega, j1⟩⟩, by omega⟩, HT⟩
        case measure => simp [intOf]; omega
    · have hltb : decide ((i : Int) < (E.length : Int)) = false := by simpa using hlt
      have hie : i = E.length := by omega
      have HON2 := Aside0.mk (taken_clock HK.out h24 ts HRN.out pl i hi l wi hTK)
      have HLN : Aside0 (l.length ≤ 24) := ⟨by have := hTK.len; omega⟩
      clear hTK hie
      go_wp2_with fail
      clear p0 p1
      go_loopw [16] (fun v16 wr2 => ∃ (l2 : List S82) (i2 : Nat), v16 = .int .i64 (i2 : Int) ∧ (l2.length = l.length ∧ 1 ≤ i2 ∧ i2 ≤ l.length + 1) ∧ Aside0 (OneClock (rd_T42 R pl).f0 (rd_T42 R pl).f1 l2 ∧ SortedTo l2 i2) ∧ Aside0 (OutT w8 wr2 u13 l2)) (fun v16 _ => l.length + 1 - (intOf v16).toNat)
      case atStart => exact ⟨l, 1, rfl, by omega, ⟨HON2.out, fun a b h1 h2 h3 => by omega⟩, HT⟩
      case round =>
        clear HT CW
        obtain ⟨l2, i2, rfl, hi2, HSO, HT⟩ := hrel
        have hN24 : l2.length ≤ 24 ∧ l.length ≤ 24 := by have := HLN.out; omega
        have hle2 : l2.length ≤ l.length ∧ l.length ≤ l2.length := by omega
        have hi2f : 1 ≤ i2 ∧ i2 ≤ l.length + 1 := by omega
        clear hi2
        obtain ⟨wq, hwq⟩ : ∃ wq : World, wq = wr := ⟨_, rfl⟩
        subst hwq
        by_cases hlt2 : i2 < l2.length
        · have hlt2b : decide ((i2 : Int) < (l2.length : Int)) = true := by simpa using hlt2
          obtain ⟨go, cN, eN, _, _, _⟩ := Kd.R_form HT.out.1 (by omega)
          subst eN
          go_wp2_with fail
          go_loopw [17] (fun v17 wr3 => ∃ (l3 : List S82) (k : Nat), v17 = .int .i64 (k : Int) ∧ (l3.length = l2.length ∧ k ≤ i2) ∧ Aside0 (OneClock (rd_T42 R pl).f0 (rd_T42 R pl).f1 l3 ∧ Sinking l3 i2 k) ∧ Aside0 (OutT w8 wr3 (.slice (some ⟨go, 0, none⟩) l2.length cN) l3)) (fun v17 _ => (intOf v17).toNat)
          case atStart => exact ⟨l2, i2, rfl, by omega, ⟨HSO.out.1, sink_start hlt2 HSO.out.2⟩, HT⟩
          case round =>
            clear HSO HT
            obtain ⟨l3, k, rfl, hk, HSO, HT⟩ := hrel
            have hki : k ≤ i2 := hk.2
            have hle3 : l3.length ≤ l2.length ∧ l2.length ≤ l3.length := by omega
            clear hk
            cases k with
            | zero =>
              go_wp2_with fail
              go_quiet (fail)
              go_wp2_with fail
              go_roundw
              case rel => exact ⟨l3, i2 + 1, by go_num, by omega, ⟨HSO.out.1, sink_zero HSO.out.2⟩, ⟨HT.out.below (pw_below_drewN (Below.refl _ _) _)⟩⟩
              case measure => simp [intOf]; omega
            | succ m =>
              have HMW := Aside0.mk (clk_wrap m (by omega))
              obtain ⟨_, eqa, a0, a1⟩ := at_T82 (Kd.R_reads' HT.out.1).2.2 ((m + 1 : Nat) : Int) (by omega) (by omega)
              cases eqa
              obtain ⟨_, eqb, b0, b1⟩ := at_T82 (Kd.R_reads' HT.out.1).2.2 (m : Int) (by omega) (by omega)
              cases eqb
              simp only [add_plain, Int.toNat_natCast] at a0 a1 b0 b1
              have hm1 : ((m + 1 : Nat) : Int) < (l2.length : Int) := by omega
              have hm0 : (m : Int) < (l2.length : Int) := by omega
              have hm2 : (m : Int) + 1 < (l2.length : Int) := by omega
              by_cases hc : (rd_T82 l3 ((m + 1 : Nat) : Int)).f0 < (rd_T82 l3 (m : Int)).f0
              · have hcb : decide ((rd_T82 l3 ((m + 1 : Nat) : Int)).f0 < (rd_T82 l3 (m : Int)).f0) = true := by simpa using hc
                have HCN := Aside0.mk hc
                generalize hA : (rd_T82 l3 ((m + 1 : Nat) : Int)).f0 = ta at a0 hcb
                generalize hB : (rd_T82 l3 (m : Int)).f0 = tb at b0 hcb
                have hmw := HMW.out.1; have hmw2 := HMW.out.2.1
                go_wp2_with fail
                go_quiet (fail)
                have HT1 := Aside0.mk (HT.out.below (pw_below_drewN (Below.refl _ wr) nq))
                go_wp2_with fail
                clear a0 a1 b0 b1 hcb hc hA hB HT hmw hmw2
                generalize wr.drewN nq = V1 at HT1 ⊢
                obtain ⟨_, eqa, a0, a1⟩ := at_T82 (Kd.R_reads' HT1.out.1).2.2 ((m + 1 : Nat) : Int) (by omega) (by omega)
                cases eqa
                obtain ⟨_, eqb, b0, b1⟩ := at_T82 (Kd.R_reads' HT1.out.1).2.2 (m : Int) (by omega) (by omega)
                cases eqb
                simp only [add_plain, Int.toNat_natCast] at a0 a1 b0 b1
                have HT2 := Aside0.mk (HT1.out.below (below_drew1 (Below.refl _ V1)))
                refine start_ (n := 18) (S := fun w' => w'.cell? ⟨go, m * 2, none⟩ = some (.int .i64 (rd_T82 l3 (m : Int)).f0) ∧ w'.cell? ⟨go, m * 2 + 1, none⟩ = some (.int .i64 (rd_T82 l3 (m : Int)).f1) ∧ w'.cell? ⟨go, (m + 1) * 2, none⟩ = some (.int .i64 (rd_T82 l3 ((m + 1 : Nat) : Int)).f0) ∧ w'.cell? ⟨go, (m + 1) * 2 + 1, none⟩ = some (.int .i64 (rd_T82 l3 ((m + 1 : Nat) : Int)).f1)) (ds := [15,17]) #[false,false,false,false,false,false,false,false,false,false,false,false,false,false,false,false,false,false] (by kernel_rfl) rfl rfl ⟨b0, b1, a0, a1⟩ (fun hHeld => ?_); refine with_tabW clk_tab29 clk_bits29 (fun HT_ HW_ => ?_)
                clear a0 a1 b0 b1
                generalize V1.drew = V2 at HT2 hHeld ⊢
                obtain ⟨b0, b1, a0, a1⟩ := hHeld
                have hHeld : V2.cell? ⟨go, m * 2, none⟩ = some (.int .i64 (rd_T82 l3 (m : Int)).f0) ∧ V2.cell? ⟨go, m * 2 + 1, none⟩ = some (.int .i64 (rd_T82 l3 (m : Int)).f1) ∧ V2.cell? ⟨go, (m + 1) * 2, none⟩ = some (.int .i64 (rd_T82 l3 ((m + 1 : Nat) : Int)).f0) ∧ V2.cell? ⟨go, (m + 1) * 2 + 1, none⟩ = some (.int .i64 (rd_T82 l3 ((m + 1 : Nat) : Int)).f1) := ⟨b0, b1, a0, a1⟩
                obtain ⟨_, _, _, _, hfa⟩ := Kd.R_elem HT2.out.1 z82 ((m + 1 : Nat) : Int) (by omega) (by omega)
                have fa0 : V2.frozen? ⟨go, (m + 1) * 2, none⟩ = false := hfa 0
                have fa1 : V2.frozen? ⟨go, (m + 1) * 2 + 1, none⟩ = false := hfa 1
                obtain ⟨_, _, _, _, hfb⟩ := Kd.R_elem HT2.out.1 z82 (m : Int) (by omega) (by omega)
                have fb0 : V2.frozen? ⟨go, m * 2, none⟩ = false := hfb 0
                have fb1 : V2.frozen? ⟨go, m * 2 + 1, none⟩ = false := hfb 1
                obtain ⟨⟨ne1, ne2, ne3, ne4⟩, ne5, ne6, ne7, ne8⟩ := clk_ne m
                clear hfa hfb
                have hmw := HMW.out.1; have hmw2 := HMW.out.2.1; have hmw3 := HMW.out.2.2.1
                refine pure_ (i := 0) (N := some 160) (v := ?_) (a' := ?_) #[true,false,false,false,false,false,false,false,false,false,false,false,false,false,false,false,false,false] rfl rfl (any_of HT_.out (by kernel_rfl)) (fun _ _ _ h => h) (Or.inl ⟨by rfl, ?_⟩) ?_ ?_
                rotate_left
                · intro w'
                  go_simp
                  with_reducible rfl
                rotate_left
                · simp only [Act.put, List.setIfInBounds_toArray, List.set_cons_zero, List.set_cons_succ, i64_w, i32_w]
                  rfl
                refine pure_ (i := 1) (N := some 161) (v := ?_) (a' := ?_) #[true,true,false,false,false,false,false,false,false,false,false,false,false,false,false,false,false,false] rfl rfl (any_of HT_.out (by kernel_rfl)) (fun _ _ _ h => h) (Or.inl ⟨by rfl, ?_⟩) ?_ ?_
                rotate_left
                · intro w'
                  go_simp
                  with_reducible rfl
                rotate_left
                · simp only [Act.put, List.setIfInBounds_toArray, List.set_cons_zero, List.set_cons_succ, i64_w, i32_w]
                  rfl
                refine pure_ (i := 2) (N := some 162) (v := ?_) (a' := ?_) #[true,true,true,false,false,false,false,false,false,false,false,false,false,false,false,false,false,false] rfl rfl (any_of HT_.out (by kernel_rfl)) (fun _ _ _ h => h) (Or.inl ⟨by rfl, ?_⟩) ?_ ?_
                rotate_left
                · intro w'
                  go_simp
                  with_reducible rfl
                rotate_left
                · simp only [Act.put, List.setIfInBounds_toArray, List.set_cons_zero, List.set_cons_succ, i64_w, i32_w]
                  rfl
                refine pure_ (i := 3) (N := some 163) (v := ?_) (a' := ?_) #[true,true,true,true,false,false,false,false,false,false,false,false,false,false,false,false,false,false] rfl rfl (any_of HT_.out (by kernel_rfl)) (fun _ _ _ h => h) (Or.inl ⟨by rfl, ?_⟩) ?_ ?_
                rotate_left
                · intro w'
                  go_simp
                  with_reducible rfl
                rotate_left
                · simp only [Act.put, List.setIfInBounds_toArray, List.set_cons_zero, List.set_cons_succ, i64_w, i32_w]
                  rfl
                refine pure_ (i := 4) (N := some 164) (v := ?_) (a' := ?_) #[true,true,true,true,true,false,false,false,false,false,false,false,false,false,false,false,false,false] rfl rfl (any_of HT_.out (by kernel_rfl)) (fun _ _ _ h => h) (Or.inl ⟨by rfl, ?_⟩) ?_ ?_
                rotate_left
                · intro w'
                  go_simp
                  with_reducible rfl
                rotate_left
                · simp only [Act.put, List.setIfInBounds_toArray, List.set_cons_zero, List.set_cons_succ, i64_w, i32_w]
                  rfl
                refine pure_ (i := 5) (N := some 165) (v := ?_) (a' := ?_) #[true,true,true,true,true,true,false,false,false,false,false,false,false,false,false,false,false,false] rfl rfl (any_of HT_.out (by kernel_rfl)) (fun _ _ _ h => h) (Or.inl ⟨by rfl, ?_⟩) ?_ ?_
                rotate_left
                · intro w'
                  go_simp
                  with_reducible rfl
                rotate_left
                · simp only [Act.put, List.setIfInBounds_toArray, List.set_cons_zero, List.set_cons_succ, i64_w, i32_w]
                  rfl
                refine pure_ (i := 6) (N := some 166) (v := ?_) (a' := ?_) #[true,true,true,true,true,true,true,false,false,false,false,false,false,false,false,false,false,false] rfl rfl (any_of HT_.out (by kernel_rfl)) (fun _ _ _ h => h) (Or.inl ⟨by rfl, ?_⟩) ?_ ?_
                rotate_left
                · intro w'
                  go_simp
                  with_reducible rfl
                rotate_left
                · simp only [Act.put, List.setIfInBounds_toArray, List.set_cons_zero, List.set_cons_succ, i64_w, i32_w]
                  rfl
                refine pure_ (i := 7) (N := some 167) (v := ?_) (a' := ?_) #[true,true,true,true,true,true,true,true,false,false,false,false,false,false,false,false,false,false] rfl rfl (any_of HT_.out (by kernel_rfl)) (fun _ _ _ h => h) (Or.inl ⟨by rfl, ?_⟩) ?_ ?_
                rotate_left
                · intro w'
                  go_simp
                  with_reducible rfl
                rotate_left
                · simp only [Act.put, List.setIfInBounds_toArray, List.set_cons_zero, List.set_cons_succ, i64_w, i32_w]
                  rfl
                refine pure_ (i := 8) (N := some 168) (v := ?_) (a' := ?_) #[true,true,true,true,true,true,true,true,true,false,false,false,false,false,false,false,false,false] rfl rfl (any_of HT_.out (by kernel_rfl)) (fun _ _ _ h => h) (Or.inl ⟨by rfl, ?_⟩) ?_ ?_
                rotate_left
                · intro w'
                  go_simp
                  with_reducible rfl
                rotate_left
                · simp only [Act.put, List.setIfInBounds_toArray, List.set_cons_zero, List.set_cons_succ, i64_w, i32_w]
                  rfl
                refine pure_ (i := 10) (N := some 170) (v := ?_) (a' := ?_) #[true,true,true,true,true,true,true,true,true,false,true,false,false,false,false,false,false,false] rfl rfl (any_of HT_.out (by kernel_rfl)) (fun _ _ _ h => h) (Or.inl ⟨by rfl, ?_⟩) ?_ ?_
                rotate_left
                · intro w'
                  go_simp
                  with_reducible rfl
                rotate_left
                · simp only [Act.put, List.setIfInBounds_toArray, List.set_cons_zero, List.set_cons_succ, i64_w, i32_w]
                  rfl
                refine pure_ (i := 11) (N := some 171) (v := ?_) (a' := ?_) #[true,true,true,true,true,true,true,true,true,false,true,true,false,false,false,false,false,false] rfl rfl (any_of HT_.out (by kernel_rfl)) (fun _ _ _ h => h) (Or.inl ⟨by rfl, ?_⟩) ?_ ?_
                rotate_left
                · intro w'
                  go_simp
                  with_reducible rfl
                rotate_left
                · simp only [Act.put, List.setIfInBounds_toArray, List.set_cons_zero, List.set_cons_succ, i64_w, i32_w]
                  rfl
                refine pure_ (i := 12) (N := some 172) (v := ?_) (a' := ?_) #[true,true,true,true,true,true,true,true,true,false,true,true,true,false,false,false,false,false] rfl rfl (any_of HT_.out (by kernel_rfl)) (fun _ _ _ h => h) (Or.inl ⟨by rfl, ?_⟩) ?_ ?_
                rotate_left
                · intro w'
                  go_simp
                  first | (with_reducible rfl) | (rw [if_pos HMW.out.2.2.2]; done) | (rw [if_pos HMW.out.2.2.2]; with_reducible rfl)
                rotate_left
                · simp only [Act.put, List.setIfInBounds_toArray, List.set_cons_zero, List.set_cons_succ, i64_w, i32_w]
                  rfl
                refine take_ (i := 9) (N := some 169) (v := ?_) (a' := ?_) #[true,true,true,true,true,true,true,true,true,true,true,true,true,false,false,false,false,false] rfl rfl (take_ofW HT_.out HW_.out (by kernel_rfl)) (fun _ _ _ h => h) (Or.inl ⟨by rfl, ?_⟩) hHeld ?_ ?_
                rotate_left
                · rintro w' ⟨s0, s1, s2, s3⟩
                  go_simp
                  with_reducible rfl
                rotate_left
                · simp only [Act.put, List.setIfInBounds_toArray, List.set_cons_zero, List.set_cons_succ, i64_w, i32_w]
                  rfl
                refine take_ (i := 13) (N := some 173) (v := ?_) (a' := ?_) #[true,true,true,true,true,true,true,true,true,true,true,true,true,true,false,false,false,false] rfl rfl (take_ofW HT_.out HW_.out (by kernel_rfl)) (fun _ _ _ h => h) (Or.inl ⟨by rfl, ?_⟩) hHeld ?_ ?_
                rotate_left
                · rintro w' ⟨s0, s1, s2, s3⟩
                  go_simp
                  with_reducible rfl
                rotate_left
                · simp only [Act.put, List.setIfInBounds_toArray, List.set_cons_zero, List.set_cons_succ, i64_w, i32_w]
                  rfl
                refine pure_ (i := 14) (N := some 174) (v := ?_) (a' := ?_) #[true,true,true,true,true,true,true,true,true,true,true,true,true,true,true,false,false,false] rfl rfl (any_of HT_.out (by kernel_rfl)) (fun _ _ _ h => h) (Or.inl ⟨by rfl, ?_⟩) ?_ ?_
                rotate_left
                · intro w'
                  go_simp
                  first | (with_reducible rfl) | (rw [if_pos HMW.out.2.2.2]; done) | (rw [if_pos HMW.out.2.2.2]; with_reducible rfl)
                rotate_left
                · simp only [Act.put, List.setIfInBounds_toArray, List.set_cons_zero, List.set_cons_succ, i64_w, i32_w]
                  rfl
                refine last_ (i := 15) (N := none) #[true,true,true,true,true,true,true,true,true,true,true,true,true,true,true,true,false,false] rfl rfl (one_of HT_.out (by kernel_rfl)) (by decide) (fun K hK => ?_)
                refine skip_ (w1 := ?_) (by rfl) rfl ?_ ?_
                rotate_left
                · go_simp
                  rfl
                refine hK.out _ _ ?_
                clear hK K
                refine pure_ (i := 16) (N := some 175) (v := ?_) (a' := ?_) #[true,true,true,true,true,true,true,true,true,true,true,true,true,true,true,true,true,false] rfl rfl (any_of HT_.out (by kernel_rfl)) (fun _ _ _ h => h) (Or.inl ⟨by rfl, ?_⟩) ?_ ?_
                rotate_left
                · intro w'
                  go_simp
                  with_reducible rfl
                rotate_left
                · simp only [Act.put, List.setIfInBounds_toArray, List.set_cons_zero, List.set_cons_succ, i64_w, i32_w]
                  rfl
                refine last_ (i := 17) (N := none) #[true,true,true,true,true,true,true,true,true,true,true,true,true,true,true,true,true,true] rfl rfl (one_of HT_.out (by kernel_rfl)) (by decide) (fun K hK => ?_)
                refine skip_ (w1 := ?_) (by rfl) rfl ?_ ?_
                rotate_left
                · go_simp
                  rfl
                refine hK.out _ _ ?_
                clear hK K
                refine done_ (done_of HT_.out (by kernel_rfl)) ?_
                clear hmw hmw2 hmw3 ne1 ne2 ne3 ne4 ne5 ne6 ne7 ne8
                have HT3 := Aside0.mk (outT_put (outT_put HT2.out (m + 1) (by omega) (rd_T82 l3 (m : Int))) m (by simp; omega) (rd_T82 l3 ((m + 1 : Nat) : Int)))
                have hmw := HMW.out.1; have hmw2 := HMW.out.2.1
                go_wp2_with fail
                clear hmw hmw2
                go_roundw
                case rel => exact ⟨swapped l3 m, m, by go_num, by simp [swapped]; omega, ⟨HSO.out.1.sub (swapped_mem (by omega)), sink_swap (by omega) hki HSO.out.2 HCN.out⟩, HT3⟩
                case measure => first | (simp [intOf]; done) | (simp [intOf]; omega)
              · have hcb : decide ((rd_T82 l3 ((m + 1 : Nat) : Int)).f0 < (rd_T82 l3 (m : Int)).f0) = false := by simpa using hc
                generalize hA : (rd_T82 l3 ((m + 1 : Nat) : Int)).f0 = ta at a0 hcb
                generalize hB : (rd_T82 l3 (m : Int)).f0 = tb at b0 hcb
                have hmw := HMW.out.1; have hmw2 := HMW.out.2.1
                go_wp2_with fail
                go_quiet (fail)
                go_wp2_with fail
                clear hmw hmw2
                go_roundw
                case rel => exact ⟨l3, i2 + 1, by go_num, by omega, ⟨HSO.out.1, sink_stop hki HSO.out.2 (Int.not_lt.2 hc)⟩, ⟨HT.out.below (pw_below_drewN (Below.refl _ _) _)⟩⟩
                case measure => simp [intOf]; omega
        · have hlt2b : decide ((i2 : Int) < (l2.length : Int)) = false := by simpa using hlt2
          obtain ⟨vN, cN, eN, hcN, hCN⟩ := Kd.R_reads HT.out.1
          subst eN
          have HN3 : Aside0 (l2.length ≤ i2) := ⟨by omega⟩
          have HCN := Aside0.mk hCN
          clear hCN
          go_wp2_with fail
          clear hle2 hi2f hlt2 hlt2b
          have HSF : Aside0 (∀ a b : Nat, a < b → b < l2.length → (rd_T82 l2 a).f0 ≤ (rd_T82 l2 b).f0) := ⟨fun a b h1 h2 => HSO.out.2 a b h1 (by have := HN3.out; omega) h2⟩
          have HOC := Aside0.mk HSO.out.1
          have HW8 := Aside0.mk HT.out.2
          clear HSO
          go_loopw [18, 19] (fun v18 v19 wr4 => ∃ (once : List S82) (i3 : Nat), v19 = .int .i64 (i3 : Int) ∧ (i3 ≤ l2.length) ∧ Aside0 (Once l2 i3 once) ∧ Aside0 (OutT wq wr4 v18 once)) (fun _ v19 _ => l2.length - (intOf v19).toNat)
          case atStart => exact ⟨[], 0, rfl, by omega, ⟨⟨by simp, by simp, by simp, fun h => by omega⟩⟩, ⟨OutT.nil wq⟩⟩
          case round =>
            obtain ⟨once, i3, rfl, hi3, HO, HT3⟩ := hrel
            by_cases hlt3 : i3 < l2.length
            · have hlt3b : decide ((i3 : Int) < (l2.length : Int)) = true := by simpa using hlt3
              have CL := Aside0.mk (Kd.C_below HCN.out HT3.out.2)
              cases i3 with
              | zero =>
                obtain ⟨adN, eqa, a0, a1⟩ := at_T82 CL.out 0 (by omega) (by omega)
                cases eqa
                simp only [add_plain, Int.toNat_zero, Nat.zero_mul, Addr.add_zero'] at a0 a1
                have HNO := Aside0.mk HO.out
                have hoe : once = [] := List.length_eq_zero_iff.1 (by have := HO.out.len; omega)
                subst hoe
                clear a0 a1
                go_wp2_with fail
                go_quiet (fail)
                have HT4 := Aside0.mk (HT3.out.below (pw_below_drewN (Below.refl _ wr) nq))
                obtain ⟨_, eqa, a0, a1⟩ := at_T82 (Kd.C_below HCN.out HT4.out.2) 0 (by omega) (by omega)
                cases eqa
                simp only [add_plain, Int.toNat_zero, Nat.zero_mul, Addr.add_zero'] at a0 a1
                generalize wr.drewN nq = V1 at HT4 a0 a1 ⊢
                go_wp2_with (at_builtin; refine outT_append rfl _ _ rfl _ [] (rd_T82 l2 0) rfl (by first | (go_simp; done) | (go_simp; rfl)) HT4.out (by decide) ?_; intro v5 w5 hT5; have HT5 := Aside0.mk hT5; clear hT5 a0 a1)
                go_roundw
                case rel => exact ⟨_, 1, by go_num, by omega, ⟨⟨fun x hx => by simp at hx; subst hx; exact rd82_mem l2 0 (by omega) (by omega), fun j hj => by simp at hj, by simp, fun _ => ⟨by simp, by simp [rd_T82]⟩⟩⟩, HT5⟩
                case measure => first | (simp [intOf]; done) | (simp [intOf]; omega)
              | succ m =>
                have HMW := Aside0.mk (clk_wrap m (by omega))
                have hm1 : ((m + 1 : Nat) : Int) < (l2.length : Int) := by omega
                have hm0 : (m : Int) < (l2.length : Int) := by omega
                have hm2 : (m : Int) + 1 < (l2.length : Int) := by omega
                obtain ⟨adN, eqx, _, _⟩ := at_T82 CL.out ((m + 1 : Nat) : Int) (by omega) (by omega)
                cases eqx
                clear CL
                obtain ⟨_, eqa, a0, a1⟩ := at_T82 (Kd.C_below HCN.out HT3.out.2) ((m + 1 : Nat) : Int) (by omega) (by omega)
                cases eqa
                obtain ⟨_, eqb, b0, b1⟩ := at_T82 (Kd.C_below HCN.out HT3.out.2) (m : Int) (by omega) (by omega)
                cases eqb
                simp only [add_plain, Int.toNat_natCast] at a0 a1 b0 b1
                by_cases he : (rd_T82 l2 ((m + 1 : Nat) : Int)).f0 = (rd_T82 l2 (m : Int)).f0
                · have hec : (rd_T82 l2 ((m + 1 : Nat) : Int)).f1 = (rd_T82 l2 (m : Int)).f1 := by
                    have h3 := HOC.out.2 _ (rd82_mem l2 (m : Int) (by omega) (by omega)) _ (rd82_mem l2 ((m + 1 : Nat) : Int) (by omega) (by omega)) (by omega)
                    rw [he, Int.sub_self, Int.mul_zero, Int.mul_zero] at h3
                    omega
                  have HNO := Aside0.mk (once_same HO.out he)
                  have heb : ((rd_T82 l2 ((m + 1 : Nat) : Int)).f0 == (rd_T82 l2 (m : Int)).f0) = true := by simpa using he
                  have hcb : ((rd_T82 l2 ((m + 1 : Nat) : Int)).f1 != (rd_T82 l2 (m : Int)).f1) = false := by simpa using hec
                  clear he hec
                  generalize hA : (rd_T82 l2 ((m + 1 : Nat) : Int)).f0 = ta at a0 heb
                  generalize hB : (rd_T82 l2 (m : Int)).f0 = tb at b0 heb
                  have hmw := HMW.out.1; have hmw2 := HMW.out.2.1
                  go_wp2_with fail
                  go_quiet (fail)
                  have HT4 := Aside0.mk (HT3.out.below (pw_below_drewN (Below.refl _ wr) nq))
                  go_wp2_with fail
                  clear a0 a1 b0 b1 hA hB heb hmw hmw2
                  generalize wr.drewN nq = V1 at HT4 ⊢
                  obtain ⟨_, eqa, a0, a1⟩ := at_T82 (Kd.C_below HCN.out HT4.out.2) ((m + 1 : Nat) : Int) (by omega) (by omega)
                  cases eqa
                  obtain ⟨_, eqb, b0, b1⟩ := at_T82 (Kd.C_below HCN.out HT4.out.2) (m : Int) (by omega) (by omega)
                  cases eqb
                  simp only [add_plain, Int.toNat_natCast] at a0 a1 b0 b1
                  generalize hC : (rd_T82 l2 ((m + 1 : Nat) : Int)).f1 = ka at a1 hcb
                  generalize hD : (rd_T82 l2 (m : Int)).f1 = kb at b1 hcb
                  have hmw := HMW.out.1; have hmw2 := HMW.out.2.1
                  go_quiet (fail)
                  have HT5 := Aside0.mk (HT4.out.below (pw_below_drewN (Below.refl _ V1) nq))
                  go_wp2_with fail
                  clear hmw hmw2
                  go_roundw
                  case rel => exact ⟨once, m + 1 + 1, by go_num, by omega, HNO, HT5⟩
                  case measure => first | (simp [intOf]; done) | (simp [intOf]; omega)
                · have hlt : ∀ q : Nat, m + 1 = q + 1 → (rd_T82 l2 (q : Int)).f0 < (rd_T82 l2 ((m + 1 : Nat) : Int)).f0 := by
                    intro q hq
                    obtain rfl : q = m := by omega
                    have h3 := HSF.out q (q + 1) (by omega) (by omega)
                    omega
                  have HNO := Aside0.mk (once_next HO.out hlt3 hlt)
                  have HLO : Aside0 (once.length < 1000000) := ⟨by have := HO.out.len; omega⟩
                  have heb : ((rd_T82 l2 ((m + 1 : Nat) : Int)).f0 == (rd_T82 l2 (m : Int)).f0) = false := by simpa using he
                  clear he hlt
                  generalize hA : (rd_T82 l2 ((m + 1 : Nat) : Int)).f0 = ta at a0 heb
                  generalize hB : (rd_T82 l2 (m : Int)).f0 = tb at b0 heb
                  have hmw := HMW.out.1; have hmw2 := HMW.out.2.1
                  go_wp2_with fail
                  go_quiet (fail)
                  have HT4 := Aside0.mk (HT3.out.below (pw_below_drewN (Below.refl _ wr) nq))
                  clear a0 a1 b0 b1 hA hB heb hmw hmw2
                  generalize wr.drewN nq = V1 at HT4 ⊢
                  obtain ⟨_, eqa, a0, a1⟩ := at_T82 (Kd.C_below HCN.out HT4.out.2) ((m + 1 : Nat) : Int) (by omega) (by omega)
                  cases eqa
                  obtain ⟨_, eqb, b0, b1⟩ := at_T82 (Kd.C_below HCN.out HT4.out.2) (m : Int) (by omega) (by omega)
                  cases eqb
                  simp only [add_plain, Int.toNat_natCast] at a0 a1 b0 b1
                  go_wp2_with (at_builtin; refine outT_append rfl _ _ rfl _ once (rd_T82 l2 ((m + 1 : Nat) : Int)) rfl (by first | (go_simp; done) | (go_simp; rfl)) HT4.out HLO.out ?_; intro v5 w5 hT5; have HT5 := Aside0.mk hT5; clear hT5 a0 a1 b0 b1)
                  go_roundw
                  case rel => exact ⟨_, m + 1 + 1, by go_num, by omega, HNO, HT5⟩
                  case measure => first | (simp [intOf]; done) | (simp [intOf]; omega)
            · have hlt3b : decide ((i3 : Int) < (l2.length : Int)) = false := by simpa using hlt3
              have hi3e : l2.length ≤ i3 := by omega
              obtain ⟨vO, cO, eO, hcO, hCO⟩ := Kd.R_reads HT3.out.1
              subst eO
              have HCO := Aside0.mk hCO
              have HCZ := Aside0.mk hcO
              have HBW := Aside0.mk (below_step HW8.out HT3.out.2)
              have CW2 := Aside0.mk (CM.out.below HBW.out)
              have p0 : wr.cell? ⟨gb, 0, none⟩ = some (.slice (some ad0) R.length c0) := (blk_cell CW2.out.box 0).trans rfl
              have p1 : wr.cell? ⟨gb, 1, none⟩ = some (.slice (some ad1) E.length c1) := (blk_cell CW2.out.box 1).trans rfl
              obtain ⟨_, eqr, s5, s6⟩ := at_T42 HR0.out pl HPL.out.1 HPL.out.2
              cases eqr
              replace s5 := (CW2.out.bel.cell (World.block_lt_of_cell? w _ s5)).trans s5
              replace s6 := (CW2.out.bel.cell (World.block_lt_of_cell? w _ s6)).trans s6
              have hq0 := HPL.out.1
              have hq1 := HPL.out.2
              have HZ := Aside0.mk (clock_zero (rd_T42 R pl).f0 (rd_T42 R pl).f1 (HK.out.rates pl HPL.out.1 HPL.out.2) once (by have := HO.out.len; have := HLN.out; omega) (HOC.out.sub HO.out.sub) HO.out.up 300 (by have := HO.out.len; have := HLN.out; omega))
              generalize (rd_T42 R pl).f0 = r0 at s5 HZ HOC
              generalize (rd_T42 R pl).f1 = r1 at s6 HZ HOC
              clear hCO hcO
              go_wp2_with (go_at_call 36; refine (dr_CheckClock.calls 300 r0 r1 vO cO once 0 _ HCO.out HCZ.out HZ.out).mono ?_; rintro e9 w9 ⟨rfl, hb9⟩; have HB9 := Aside0.mk (below_step CW2.out.bel hb9); clear hb9 p0 p1 s5 s6)
              go_ret
              exact ⟨rfl, HB9.out⟩
/-- The law, for every input. -/
theorem lw_DriftClock.calls (k : Nat) (A0 : Option Addr) (c0 : Nat) (R : List S42) (A1 : Option Addr) (c1 : Nat) (E : List S80) (A : Option Addr) (c : Nat) (ch : List Int) (pl : Int) (r : Bool) (w : World) (hr0 : Kd.C k42 w A0 R.length R) (hc0 : R.length ≤ c0) (hr1 : Kd.C k80 w A1 E.length E) (hc1 : E.length ≤ c1) (hl : Kd.C (Kd.int .i64) w A ch.length ch) (hcl : ch.length ≤ c) (h : r = true) :
    Calls Try.prog 13 #[.agg #[.slice A0 R.length c0, .slice A1 E.length c1], .slice A ch.length c, .int .i64 pl] w fun e w' => e = .returned (.bool r) ∧ Below w.heap.size w w' := by
  subst h
  have early := clock_early R E A0 A1 A c0 c1 c ch pl w hr0 hc0 hr1 hc1
  by_cases d1 : (E.length : Int) ≤ 24
  · cases d2 : planOK R E with
    | false => exact early (.inr ⟨decide_eq_true d1, .inl d2⟩)
    | true =>
      by_cases d3 : pl < 0
      · exact early (.inr ⟨decide_eq_true d1, .inr ⟨d2, .inl (decide_eq_true d3)⟩⟩)
      · by_cases d4 : pl ≥ (R.length : Int)
        · exact early (.inr ⟨decide_eq_true d1, .inr ⟨d2, .inr ⟨decide_eq_false d3, decide_eq_true d4⟩⟩⟩)
        · have hK := (planOK_iff R E).1 d2
          have h24 : E.length ≤ 24 := by omega
          have hS : lw_small.f R E = some true := by unfold lw_small.f; rw [decide_eq_true d1]
          have hI : rf_IsPlan.f 1000 R E = some true := by rw [isPlan_val R E 1000 (by omega), d2]
          have hrd : dr_Readings.f R E = some ((rdL E E.length).1, (rdL E E.length).2, 0) := by unfold dr_Readings.f; rw [if_pos d2]
          have hlen := rdL_len E E.length
          obtain ⟨ts, ran, r1, r2⟩ := run_api hK h24 ch
          cases ran with
          | false => exact clock_norun R E A0 A1 A c0 c1 c ch ts _ _ pl w hr0 hc0 hr1 hc1 hl hcl hK.pos hS hI r1 hrd hlen.1 hlen.2 (decide_eq_false d3) (decide_eq_false d4)
          | true => exact clock_run R E A0 A1 A c0 c1 c ch ts _ _ pl w hr0 hc0 hr1 hc1 hl hcl hK h24 hS hI r1 hrd rfl rfl (r2 rfl) (by omega)
  · exact early (.inl (decide_eq_false d1))
end Go.Proofs.Ytlfopemghafboaa.D
