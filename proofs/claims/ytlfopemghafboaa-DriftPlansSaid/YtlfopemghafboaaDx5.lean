/- Contracts of functions that the law reaches, each a walk through its code, printed by a program. No condition beyond each theorem's own hypotheses. -/
-- Written by a program of this session (wip/patch_print.py over the kit's printer).
import Derived.Test.YtlfopemghafboaaDx0
import Derived.Test.YtlfopemghafboaaDx4
namespace Go.Proofs.Ytlfopemghafboaa.D
open Go.RowKit Go.Proofs.YtlfopemghafboaaW.PrintWords Go.Proofs.YtlfopemghafboaaW.PrintLast Go.Proofs.YtlfopemghafboaaW.PrintMore
attribute [local go_sem] max2_int min2_int max_two min_two max_three min_three max_four min_four   -- for this text's walks alone
set_option linter.unusedVariables false
set_option linter.unusedSimpArgs false

/-! ### rf_binds: function 65 -/
mutual
def rf_binds.l0 : Nat → List (S27) → Int → List (S42) → List (S80) → Option ((List (S27)))
 | 0,_,_,_,_ => none
 | k + 1,x3,x4,x170000,x170001 => if x4 < (x170001.length : Int) then (if 0 ≤ x4 then (if ((rd_T80 x170001 x4).f1) = 1 then (rf_binds.j1 k x3 x4 (decide (x4 > 0)) x170000 x170001 ((rd_T80 x170001 x4).f0) ((rd_T80 x170001 x4).f1) ((rd_T80 x170001 x4).f2) ((rd_T80 x170001 x4).f3) ((rd_T80 x170001 x4).f4) ((rd_T80 x170001 x4).f5)) else (rf_binds.j1 k x3 x4 false x170000 x170001 ((rd_T80 x170001 x4).f0) ((rd_T80 x170001 x4).f1) ((rd_T80 x170001 x4).f2) ((rd_T80 x170001 x4).f3) ((rd_T80 x170001 x4).f4) ((rd_T80 x170001 x4).f5))) else (none)) else ((rf_readings.f k x170000 x170001).bind fun bt190 => (rf_binds.l1 k x3 bt190.1 bt190.2 0 x170000 x170001))
def rf_binds.j1 : Nat → List (S27) → Int → Bool → List (S42) → List (S80) → Int → Int → Int → Int → Int → Int → Option ((List (S27)))
 | 0,_,_,_,_,_,_,_,_,_,_,_ => none
 | k + 1,x3,x4,x33,x170000,x170001,x172000,x172001,x172002,x172003,x172004,x172005 => if x33 = true then ((some (([(⟨0,x4,0⟩ : S27),(⟨x4,0,0⟩ : S27)] : List (S27)) : List (S27))).bind fun y172 => (if x3.length + y172.length < 5864062014805 then ((some (x3 ++ y172 : List (S27))).bind fun y175 => (if x172001 = 3 then ((some (([(⟨x172002,x4,x172005⟩ : S27),(⟨x4,x172002,wrap64 (-x172004)⟩ : S27)] : List (S27)) : List (S27))).bind fun y178 => (if y175.length + y178.length < 5864062014805 then (rf_binds.l0 k (y175 ++ y178) (wrap64 (x4 + 1)) x170000 x170001) else (none))) else (rf_binds.l0 k y175 (wrap64 (x4 + 1)) x170000 x170001))) else (none))) else (if x172001 = 3 then ((some (([(⟨x172002,x4,x172005⟩ : S27),(⟨x4,x172002,wrap64 (-x172004)⟩ : S27)] : List (S27)) : List (S27))).bind fun y184 => (if x3.length + y184.length < 5864062014805 then (rf_binds.l0 k (x3 ++ y184) (wrap64 (x4 + 1)) x170000 x170001) else (none))) else (rf_binds.l0 k x3 (wrap64 (x4 + 1)) x170000 x170001))
def rf_binds.l1 : Nat → List (S27) → List Int → List Int → Int → List (S42) → List (S80) → Option ((List (S27)))
 | 0,_,_,_,_,_,_ => none
 | k + 1,x3,x6,x7,x8,x170000,x170001 => if x8 < (x170001.length : Int) then (rf_binds.l2 k x3 x6 x7 x8 (wrap64 (x8 + 1)) x170000 x170001) else (rf_binds.l3 k x3 1 x170000 x170001)
def rf_binds.l2 : Nat → List (S27) → List Int → List Int → Int → Int → List (S42) → List (S80) → Option ((List (S27)))
 | 0,_,_,_,_,_,_,_ => none
 | k + 1,x3,x6,x7,x8,x9,x170000,x170001 => if x9 < (x170001.length : Int) then (if 0 ≤ x8 then (if x8 < (x6.length : Int) then (if 0 ≤ x9 then (if x9 < (x6.length : Int) then (if (rd x6 x8) = (rd x6 x9) then (if x9 < (x7.length : Int) then (if x8 < (x7.length : Int) then (if (rd x7 x9) < (rd x7 x8) then (if x8 < (x170001.length : Int) then (if 0 ≤ ((rd_T80 x170001 x8).f0) then (if ((rd_T80 x170001 x8).f0) < (x170000.length : Int) then (if ((rd_T42 x170000 ((rd_T80 x170001 x8).f0)).f0) = 0 then (none) else ((rf_up.f (wrap64 ((rd x7 x8) - (rd x7 x9))) ((rd_T42 x170000 ((rd_T80 x170001 x8).f0)).f1)).bind fun t205 => ((some (([(⟨x9,x8,wrap64 (Int.tdiv (wrap64 ((rd x7 x8) - (rd x7 x9))) ((rd_T42 x170000 ((rd_T80 x170001 x8).f0)).f0))⟩ : S27),(⟨x8,x9,wrap64 (-t205)⟩ : S27)] : List (S27)) : List (S27))).bind fun y206 => (if x3.length + y206.length < 5864062014805 then (rf_binds.l2 k (x3 ++ y206) x6 x7 x8 (wrap64 (x9 + 1)) x170000 x170001) else (none))))) else (none)) else (none)) else (none)) else (if x8 < (x170001.length : Int) then (if 0 ≤ ((rd_T80 x170001 x8).f0) then (if ((rd_T80 x170001 x8).f0) < (x170000.length : Int) then (if ((rd_T42 x170000 ((rd_T80 x170001 x8).f0)).f0) = 0 then (none) else ((rf_up.f (wrap64 ((rd x7 x9) - (rd x7 x8))) ((rd_T42 x170000 ((rd_T80 x170001 x8).f0)).f1)).bind fun t217 => ((some (([(⟨x8,x9,wrap64 (Int.tdiv (wrap64 ((rd x7 x9) - (rd x7 x8))) ((rd_T42 x170000 ((rd_T80 x170001 x8).f0)).f0))⟩ : S27),(⟨x9,x8,wrap64 (-t217)⟩ : S27)] : List (S27)) : List (S27))).bind fun y218 => (if x3.length + y218.length < 5864062014805 then (rf_binds.l2 k (x3 ++ y218) x6 x7 x8 (wrap64 (x9 + 1)) x170000 x170001) else (none))))) else (none)) else (none)) else (none))) else (none)) else (none)) else (rf_binds.l2 k x3 x6 x7 x8 (wrap64 (x9 + 1)) x170000 x170001)) else (none)) else (none)) else (none)) else (none)) else (rf_binds.l1 k x3 x6 x7 (wrap64 (x8 + 1)) x170000 x170001)
def rf_binds.l3 : Nat → List (S27) → Int → List (S42) → List (S80) → Option ((List (S27)))
 | 0,_,_,_,_ => none
 | k + 1,x3,x14,x170000,x170001 => if x14 < (x170001.length : Int) then (if x3.length < 5864062014805 then (rf_binds.l3 k (x3 ++ [(⟨x14,0,0⟩ : S27)]) (wrap64 (x14 + 1)) x170000 x170001) else (none)) else (some x3)
end
def rf_binds.f (k : Nat) (l0_0 : List (S42)) (l0_1 : List (S80)) : Option ((List (S27))) := rf_binds.l0 k ([] : List (S27)) 0 l0_0 l0_1
def rf_binds.T17 : Bool × List (List Nat × List Nat) := (true,[([],[]),([],[]),([0,1],[0,1]),([2],[2]),([],[]),([],[]),([4,5],[4,5]),([6],[6]),([3,7],[3,7])])
def rf_binds.B17 : List Nat := [0,0,3,7,0,0,48,112,255]
theorem rf_binds.tab17 : rtab .any (opsOf Try.f65 17) = rf_binds.T17 := by kernel_rfl
theorem rf_binds.bits17 : waitsOk rf_binds.T17.2 rf_binds.B17 = true := by kernel_rfl
def rf_binds.T20 : Bool × List (List Nat × List Nat) := (true,[([],[]),([],[]),([0,1],[0,1]),([2],[2]),([],[]),([],[]),([4,5],[4,5]),([6],[6]),([3,7],[3,7])])
def rf_binds.B20 : List Nat := [0,0,3,7,0,0,48,112,255]
theorem rf_binds.tab20 : rtab .any (opsOf Try.f65 20) = rf_binds.T20 := by kernel_rfl
theorem rf_binds.bits20 : waitsOk rf_binds.T20.2 rf_binds.B20 = true := by kernel_rfl
def rf_binds.T23 : Bool × List (List Nat × List Nat) := (true,[([],[]),([0],[0]),([],[]),([2],[2]),([],[]),([3,4],[3,4]),([5],[5]),([6],[6]),([1,7],[1,7]),([8],[8]),([],[]),([10,9,0,1,2,3,4,5,6,7,8,9,10],[9,10])])
def rf_binds.B23 : List Nat := [0,1,0,4,0,28,60,124,255,511,0,2047]
theorem rf_binds.tab23 : rtab .any (opsOf Try.f65 23) = rf_binds.T23 := by kernel_rfl
theorem rf_binds.bits23 : waitsOk rf_binds.T23.2 rf_binds.B23 = true := by kernel_rfl
def rf_binds.T24 : Bool × List (List Nat × List Nat) := (true,[([],[]),([],[]),([0,1],[0,1]),([2],[2]),([],[]),([],[]),([4,5],[4,5]),([6],[6]),([3,7],[3,7]),([8,0,1,2,3,4,5,6,7,8],[8])])
def rf_binds.B24 : List Nat := [0,0,3,7,0,0,48,112,255,511]
theorem rf_binds.tab24 : rtab .any (opsOf Try.f65 24) = rf_binds.T24 := by kernel_rfl
theorem rf_binds.bits24 : waitsOk rf_binds.T24.2 rf_binds.B24 = true := by kernel_rfl
def rf_binds.T25 : Bool × List (List Nat × List Nat) := (true,[([],[]),([],[]),([],[]),([],[]),([],[]),([4],[4]),([3,5],[3,5]),([1,2,6],[1,2,6]),([],[]),([],[]),([],[]),([],[]),([11],[11]),([10,12],[10,12]),([13],[13]),([8,9,14],[8,9,14]),([7,15],[7,15]),([0,16,13],[0,16]),([17,17,0,1,2,3,4,5,6,7,8,9,10,11,12,13,14,15,16,17],[0,17])])
def rf_binds.B25 : List Nat := [0,0,0,0,0,16,56,126,0,0,0,0,2048,7168,15360,32512,65534,131071,262143]
theorem rf_binds.tab25 : rtab .any (opsOf Try.f65 25) = rf_binds.T25 := by kernel_rfl
theorem rf_binds.bits25 : waitsOk rf_binds.T25.2 rf_binds.B25 = true := by kernel_rfl
set_option maxHeartbeats 8000000 in
set_option maxRecDepth 100000 in
theorem rf_binds.calls (k : Nat) (A0_0 : Option Addr) (c0_0 : Nat) (l0_0 : List (S42)) (A0_1 : Option Addr) (c0_1 : Nat) (l0_1 : List (S80)) (r : List (S27)) (w : World) (hr0_0 : Kd.C k42 w A0_0 l0_0.length l0_0) (hc0_0 : l0_0.length ≤ c0_0) (hr0_1 : Kd.C k80 w A0_1 l0_1.length l0_1) (hc0_1 : l0_1.length ≤ c0_1) (h : rf_binds.f k l0_0 l0_1 = some r) :
  Calls Try.prog 65 #[.agg #[.slice A0_0 l0_0.length c0_0,.slice A0_1 l0_1.length c0_1]] w fun e w' => ∃ v0_ : Value,e = .returned (v0_) ∧ Kd.R k27 27 w' w.heap.size (fun _ => True) v0_ r ∧ Below w.heap.size w w' := by
 have hu25 := Try.underlying25
 have hu80 := Try.underlying80
 have hu27 := Try.underlying27
 have hu42 := Try.underlying42
 have HR0_0 := Aside0.mk hr0_0
 have HC0_0 := Aside0.mk hc0_0
 clear hr0_0 hc0_0
 have HR0_1 := Aside0.mk hr0_1
 have HC0_1 := Aside0.mk hc0_1
 clear hr0_1 hc0_1
 have HB := Aside0.mk (Below.refl w.heap.size w)
 have H : (rf_binds.l0 k ([] : List (S27)) 0 l0_0 l0_1) = some r := h
 clear h
 have H' := Aside0.mk H
 clear H
 go_enter Try.func65,Try.ntmps65
 go_wp2_with (first | ((with_reducible refine gate_dst (N := 1) rfl ?_); refine box_event ?hg (N := 1) ?hd (cs := #[.slice A0_0 l0_0.length c0_0,.slice A0_1 l0_1.length c0_1]) (t := 25) ?hr ?_; (case hd => rfl); (case hg => rfl); (case hr => first | (go_simp; done) | (go_simp; rfl)); intro gb169 hg w2 hbox hb; have n0_ := Aside0.mk (below_step (by repeat (first | (with_reducible first | exact HB.out | apply below_alloc | apply pw_below_drewN | apply below_drew1) | exact HB.out)) hb); have n1_ := Aside0.mk (hbox); have n2_ := Aside0.mk ((by rw [hg]; exact (below_size (by repeat (first | (with_reducible first | exact HB.out | apply below_alloc | apply pw_below_drewN | apply below_drew1) | exact HB.out))) : w.heap.size ≤ gb169)); have n3_ := Aside0.mk ((by rw [hg]; exact (below_size (by repeat (first | (with_reducible first | exact HB.out | apply below_alloc | apply pw_below_drewN | apply below_drew1) | exact HB.out))) : w.heap.size ≤ gb169)); clear HB; have HB := n0_; have BK169 := n1_; have GW169 := n2_; have GE169 := n3_; clear n0_ n1_ n2_ n3_; clear hb hbox hg))
 go_loopg [3,4] k (fun kq v3 v4 w' => ∃ (x3_1 : List (S27)) (x4_1 : Int),v4 = .int .i64 x4_1 ∧ Aside0 (rf_binds.l0 kq x3_1 x4_1 l0_0 l0_1 = some r) ∧ Aside0 (kq ≤ k) ∧ Aside0 (Kd.R k27 27 w' w.heap.size (fun _ => True) v3 x3_1) ∧ Aside0 (w'.heap[gb169]? = some (.cells #[(.slice A0_0 l0_0.length c0_0),(.slice A0_1 l0_1.length c0_1)] 25 (0,0))) ∧ Aside0 (Below w.heap.size w w'))
 case atStart => exact ⟨(([] : List (S27))),(0),(by first | rfl | (simp; done) | (simp [*]; done)),H',⟨Nat.le_refl _⟩,⟨by first | exact Kd.R_nil _ _ _ _ _ | exact Kd.N_nil _ _ _ _ _ | exact Kd.V_nil _ _ _ _ _ | exact Kd.Q_nil _ _ _ _ _ | exact Kd.S_nil _ _ _ _ _⟩,⟨by (with_reducible repeat (first | refine blk_drewN ?_ _ | refine blk_drew ?_ | refine blk_alloc ?_ _)); exact BK169.out⟩,⟨by repeat (first | (with_reducible first | exact HB.out | apply below_alloc | apply pw_below_drewN | apply below_drew1 | refine below_set ?_ GE169.out) | exact HB.out)⟩⟩
 case round =>
  clear H'
  try clear p2
  obtain ⟨x3_1,x4_1,rfl,HA,HK1,HO_3,BK169,HB⟩ := hrel
  cases gk with
  | zero => exact absurd HA.out (by simp [rf_binds.l0])
  | succ k1 =>
   have H := HA.out
   clear HA
   simp only [rf_binds.l0] at H
   by_cases c3 : x4_1 < (l0_1.length : Int)
   ·rw [if_pos c3] at H
    have c3b0 : decide (x4_1 < (l0_1.length : Int)) = true := decide_eq_true c3
    clear c3
    by_cases c4 : 0 ≤ x4_1
    ·rw [if_pos c4] at H
     have c4b0 : decide (0 ≤ x4_1) = true := decide_eq_true c4
     clear c4
     have HC5 := Aside0.mk H
     clear H
     have hcz6_0 : wr.cell? ⟨gb169,0,none⟩ = some (.slice A0_0 l0_0.length c0_0) := (blk_cell BK169.out 0).trans rfl
     have hcz6_1 : wr.cell? ⟨gb169,1,none⟩ = some (.slice A0_1 l0_1.length c0_1) := (blk_cell BK169.out 1).trans rfl
     have hfz6_0 := blk_frozen BK169.out 0
     have hfz6_1 := blk_frozen BK169.out 1
     have p170 : 0 ≤ (x4_1 : Int) := of_decide_eq_true (by first | (with_reducible assumption) | assumption)
     have q170 : x4_1 < (l0_1.length : Int) := of_decide_eq_true (by first | (with_reducible assumption) | assumption)
     obtain ⟨ad170,e170,hx170_0,hx170_1,hx170_2,hx170_3,hx170_4,hx170_5⟩ := at_T80 HR0_1.out x4_1 p170 q170
     cases e170
     replace hx170_0 := (HB.out.cell (World.block_lt_of_cell? w _ hx170_0)).trans hx170_0
     replace hx170_1 := (HB.out.cell (World.block_lt_of_cell? w _ hx170_1)).trans hx170_1
     replace hx170_2 := (HB.out.cell (World.block_lt_of_cell? w _ hx170_2)).trans hx170_2
     replace hx170_3 := (HB.out.cell (World.block_lt_of_cell? w _ hx170_3)).trans hx170_3
     replace hx170_4 := (HB.out.cell (World.block_lt_of_cell? w _ hx170_4)).trans hx170_4
     replace hx170_5 := (HB.out.cell (World.block_lt_of_cell? w _ hx170_5)).trans hx170_5
     replace p170 := eq_true p170
     replace q170 := eq_true q170
     go_upto_region 6 with (first | ((with_reducible refine gate_dst (N := 5) rfl ?_); refine box_event ?hg (N := 5) ?hd (cs := #[.int .i64 0,.int .i64 0,.int .i64 0,.int .i64 0,.int .i64 0,.int .i64 0]) (t := 80) ?hr ?_; (case hd => rfl); (case hg => rfl); (case hr => first | (go_simp; done) | (go_simp; rfl)); intro gb171 hg w7 hbox hb; have n0_ := Aside0.mk (Kd.R_below (by (with_reducible repeat (first | apply Kd.R_alloc | apply Kd.R_drewN | apply Kd.R_drew)); exact HO_3.out) hb); have n1_ := Aside0.mk (blk_below (g := gb169) (o := .cells #[.slice A0_0 l0_0.length c0_0,.slice (some ad170) l0_1.length c0_1] 25 (0,0)) (by (with_reducible repeat (first | refine blk_drewN ?_ _ | refine blk_drew ?_ | refine blk_alloc ?_ _)); exact BK169.out) hb); have n2_ := Aside0.mk (below_step (by repeat (first | (with_reducible first | exact HB.out | apply below_alloc | apply pw_below_drewN | apply below_drew1 | refine below_set ?_ GE169.out) | exact HB.out)) hb); have n3_ := Aside0.mk (hbox); have n4_ := Aside0.mk ((by rw [hg]; exact (below_size (by repeat (first | (with_reducible first | exact HB.out | apply below_alloc | apply pw_below_drewN | apply below_drew1 | refine below_set ?_ GE169.out) | exact HB.out))) : w.heap.size ≤ gb171)); have n5_ := Aside0.mk ((by rw [hg]; exact (below_size (by repeat (first | (with_reducible first | exact HB.out | apply below_alloc | apply pw_below_drewN | apply below_drew1 | refine below_set ?_ GE169.out) | exact HB.out))) : w.heap.size ≤ gb171)); have n6_ := Aside0.mk ((by rw [hg]; exact Nat.ne_of_lt (blk_lt (g := gb169) (o := .cells #[.slice A0_0 l0_0.length c0_0,.slice (some ad170) l0_1.length c0_1] 25 (0,0)) (by (with_reducible repeat (first | refine blk_drewN ?_ _ | refine blk_drew ?_ | refine blk_alloc ?_ _)); exact BK169.out)) : gb169 ≠ gb171)); have n7_ := Aside0.mk ((by rw [hg]; exact Nat.ne_of_gt (blk_lt (g := gb169) (o := .cells #[.slice A0_0 l0_0.length c0_0,.slice (some ad170) l0_1.length c0_1] 25 (0,0)) (by (with_reducible repeat (first | refine blk_drewN ?_ _ | refine blk_drew ?_ | refine blk_alloc ?_ _)); exact BK169.out)) : gb171 ≠ gb169)); clear HO_3; clear BK169; clear HB; have HO_3 := n0_; have BK169 := n1_; have HB := n2_; have BK171 := n3_; have GW171 := n4_; have GE171 := n5_; have NB169_171 := n6_; have NB171_169 := n7_; clear n0_ n1_ n2_ n3_ n4_ n5_ n6_ n7_; clear hb hbox hg; have hnb8 := NB171_169.out; have hnc8 := NB169_171.out; have hcz9_0 : w7.cell? ⟨gb171,0,none⟩ = some (.int .i64 0) := (blk_cell BK171.out 0).trans rfl; have hcz9_1 : w7.cell? ⟨gb171,1,none⟩ = some (.int .i64 0) := (blk_cell BK171.out 1).trans rfl; have hcz9_2 : w7.cell? ⟨gb171,2,none⟩ = some (.int .i64 0) := (blk_cell BK171.out 2).trans rfl; have hcz9_3 : w7.cell? ⟨gb171,3,none⟩ = some (.int .i64 0) := (blk_cell BK171.out 3).trans rfl; have hcz9_4 : w7.cell? ⟨gb171,4,none⟩ = some (.int .i64 0) := (blk_cell BK171.out 4).trans rfl; have hcz9_5 : w7.cell? ⟨gb171,5,none⟩ = some (.int .i64 0) := (blk_cell BK171.out 5).trans rfl; have hfz9_0 := blk_frozen BK171.out 0; have hfz9_1 := blk_frozen BK171.out 1; have hfz9_2 := blk_frozen BK171.out 2; have hfz9_3 := blk_frozen BK171.out 3; have hfz9_4 := blk_frozen BK171.out 4; have hfz9_5 := blk_frozen BK171.out 5))
     (try simp only [Act.put,List.setIfInBounds_toArray,List.set_cons_zero,List.set_cons_succ])
     go_cut [33] (fun v33 wc => ∃ (kq : Nat) (x33_4 : Bool),v33 = .bool x33_4 ∧ Aside0 (rf_binds.j1 kq x3_1 x4_1 x33_4 l0_0 l0_1 ((rd_T80 l0_1 x4_1).f0) ((rd_T80 l0_1 x4_1).f1) ((rd_T80 l0_1 x4_1).f2) ((rd_T80 l0_1 x4_1).f3) ((rd_T80 l0_1 x4_1).f4) ((rd_T80 l0_1 x4_1).f5) = some r) ∧ Aside0 (kq ≤ k1) ∧ Aside0 (Kd.R k27 27 wc w.heap.size (fun _ => True) u3 x3_1) ∧ Aside0 (wc.heap[gb169]? = some (.cells #[(.slice A0_0 l0_0.length c0_0),(.slice (some ad170) l0_1.length c0_1)] 25 (0,0))) ∧ Aside0 (wc.heap[gb171]? = some (.cells #[.int .i64 ((rd_T80 l0_1 x4_1).f0),.int .i64 ((rd_T80 l0_1 x4_1).f1),.int .i64 ((rd_T80 l0_1 x4_1).f2),.int .i64 ((rd_T80 l0_1 x4_1).f3),.int .i64 ((rd_T80 l0_1 x4_1).f4),.int .i64 ((rd_T80 l0_1 x4_1).f5)] 80 (0,0))) ∧ Aside0 (Below w.heap.size w wc))
     case first =>
      have H := HC5.out
      clear HC5
      by_cases c10 : ((rd_T80 l0_1 x4_1).f1) = 1
      ·rw [if_pos c10] at H
       have c10b0 : (((rd_T80 l0_1 x4_1).f1) == 1) = true := beq_iff_eq.mpr c10
       have c10b1 : (((rd_T80 l0_1 x4_1).f1) != 1) = false := bne_eq_false_iff_eq.mpr c10
       clear c10
       (first | rw [c10b0] | (simp only [i64_w,i32_w]; rw [c10b0]) | skip)
       have H' := Aside0.mk H
       clear H
       have hnb11 := NB171_169.out
       have hnc11 := NB169_171.out
       have hcz12_0 : w7.cell? ⟨gb171,0,none⟩ = some (.int .i64 0) := (blk_cell BK171.out 0).trans rfl
       have hcz12_1 : w7.cell? ⟨gb171,1,none⟩ = some (.int .i64 0) := (blk_cell BK171.out 1).trans rfl
       have hcz12_2 : w7.cell? ⟨gb171,2,none⟩ = some (.int .i64 0) := (blk_cell BK171.out 2).trans rfl
       have hcz12_3 : w7.cell? ⟨gb171,3,none⟩ = some (.int .i64 0) := (blk_cell BK171.out 3).trans rfl
       have hcz12_4 : w7.cell? ⟨gb171,4,none⟩ = some (.int .i64 0) := (blk_cell BK171.out 4).trans rfl
       have hcz12_5 : w7.cell? ⟨gb171,5,none⟩ = some (.int .i64 0) := (blk_cell BK171.out 5).trans rfl
       have hfz12_0 := blk_frozen BK171.out 0
       have hfz12_1 := blk_frozen BK171.out 1
       have hfz12_2 := blk_frozen BK171.out 2
       have hfz12_3 := blk_frozen BK171.out 3
       have hfz12_4 := blk_frozen BK171.out 4
       have hfz12_5 := blk_frozen BK171.out 5
       go_wp2
       go_meet
       case rel => exact ⟨_,(decide (x4_1 > 0)),(by first | rfl | (simp; done) | (simp [*]; done)),H',⟨by have := HK1.out; first | omega | exact Nat.le_refl _⟩,⟨by (with_reducible repeat (first | apply Kd.R_alloc | apply Kd.R_drewN | apply Kd.R_drew)); exact Kd.R_mono (Kd.R_far (p := ⟨gb171,5,none⟩) (Kd.R_far (p := ⟨gb171,4,none⟩) (Kd.R_far (p := ⟨gb171,3,none⟩) (Kd.R_far (p := ⟨gb171,2,none⟩) (Kd.R_far (p := ⟨gb171,1,none⟩) (Kd.R_far (p := ⟨gb171,0,none⟩) (Kd.R_types HO_3.out BK171.out (by decide)) (fun _ hk => hk.2) (.int .i64 ((rd_T80 l0_1 x4_1).f0))) (fun _ hk => hk.2) (.int .i64 ((rd_T80 l0_1 x4_1).f1))) (fun _ hk => hk.2) (.int .i64 ((rd_T80 l0_1 x4_1).f2))) (fun _ hk => hk.2) (.int .i64 ((rd_T80 l0_1 x4_1).f3))) (fun _ hk => hk.2) (.int .i64 ((rd_T80 l0_1 x4_1).f4))) (fun _ hk => hk.2) (.int .i64 ((rd_T80 l0_1 x4_1).f5))) (fun _ hk => trivial)⟩,⟨by (with_reducible repeat (first | refine blk_drewN ?_ _ | refine blk_drew ?_ | refine blk_alloc ?_ _)); refine blk_far ?_ NB169_171.out _; (with_reducible repeat (first | refine blk_drewN ?_ _ | refine blk_drew ?_ | refine blk_alloc ?_ _)); refine blk_far ?_ NB169_171.out _; (with_reducible repeat (first | refine blk_drewN ?_ _ | refine blk_drew ?_ | refine blk_alloc ?_ _)); refine blk_far ?_ NB169_171.out _; (with_reducible repeat (first | refine blk_drewN ?_ _ | refine blk_drew ?_ | refine blk_alloc ?_ _)); refine blk_far ?_ NB169_171.out _; (with_reducible repeat (first | refine blk_drewN ?_ _ | refine blk_drew ?_ | refine blk_alloc ?_ _)); refine blk_far ?_ NB169_171.out _; (with_reducible repeat (first | refine blk_drewN ?_ _ | refine blk_drew ?_ | refine blk_alloc ?_ _)); refine blk_far ?_ NB169_171.out _; (with_reducible repeat (first | refine blk_drewN ?_ _ | refine blk_drew ?_ | refine blk_alloc ?_ _)); exact BK169.out⟩,⟨by (with_reducible repeat (first | refine blk_drewN ?_ _ | refine blk_drew ?_ | refine blk_alloc ?_ _)); refine blk_put (cs := #[.int .i64 ((rd_T80 l0_1 x4_1).f0),.int .i64 ((rd_T80 l0_1 x4_1).f1),.int .i64 ((rd_T80 l0_1 x4_1).f2),.int .i64 ((rd_T80 l0_1 x4_1).f3),.int .i64 ((rd_T80 l0_1 x4_1).f4),.int .i64 0]) ?_ 5 _ rfl; (with_reducible repeat (first | refine blk_drewN ?_ _ | refine blk_drew ?_ | refine blk_alloc ?_ _)); refine blk_put (cs := #[.int .i64 ((rd_T80 l0_1 x4_1).f0),.int .i64 ((rd_T80 l0_1 x4_1).f1),.int .i64 ((rd_T80 l0_1 x4_1).f2),.int .i64 ((rd_T80 l0_1 x4_1).f3),.int .i64 0,.int .i64 0]) ?_ 4 _ rfl; (with_reducible repeat (first | refine blk_drewN ?_ _ | refine blk_drew ?_ | refine blk_alloc ?_ _)); refine blk_put (cs := #[.int .i64 ((rd_T80 l0_1 x4_1).f0),.int .i64 ((rd_T80 l0_1 x4_1).f1),.int .i64 ((rd_T80 l0_1 x4_1).f2),.int .i64 0,.int .i64 0,.int .i64 0]) ?_ 3 _ rfl; (with_reducible repeat (first | refine blk_drewN ?_ _ | refine blk_drew ?_ | refine blk_alloc ?_ _)); refine blk_put (cs := #[.int .i64 ((rd_T80 l0_1 x4_1).f0),.int .i64 ((rd_T80 l0_1 x4_1).f1),.int .i64 0,.int .i64 0,.int .i64 0,.int .i64 0]) ?_ 2 _ rfl; (with_reducible repeat (first | refine blk_drewN ?_ _ | refine blk_drew ?_ | refine blk_alloc ?_ _)); refine blk_put (cs := #[.int .i64 ((rd_T80 l0_1 x4_1).f0),.int .i64 0,.int .i64 0,.int .i64 0,.int .i64 0,.int .i64 0]) ?_ 1 _ rfl; (with_reducible repeat (first | refine blk_drewN ?_ _ | refine blk_drew ?_ | refine blk_alloc ?_ _)); refine blk_put (cs := #[.int .i64 0,.int .i64 0,.int .i64 0,.int .i64 0,.int .i64 0,.int .i64 0]) ?_ 0 _ rfl; (with_reducible repeat (first | refine blk_drewN ?_ _ | refine blk_drew ?_ | refine blk_alloc ?_ _)); exact BK171.out⟩,⟨by repeat (first | (with_reducible first | exact HB.out | apply below_alloc | apply pw_below_drewN | apply below_drew1 | refine below_set ?_ GE169.out | refine below_set ?_ GE171.out) | exact HB.out)⟩⟩
      ·rw [if_neg c10] at H
       have c10b0 : (((rd_T80 l0_1 x4_1).f1) == 1) = false := beq_eq_false_iff_ne.mpr c10
       have c10b1 : (((rd_T80 l0_1 x4_1).f1) != 1) = true := bne_iff_ne.mpr c10
       (first | rw [c10b0] | (simp only [i64_w,i32_w]; rw [c10b0]) | skip)
       have H' := Aside0.mk H
       clear H
       have hnb13 := NB171_169.out
       have hnc13 := NB169_171.out
       have hcz14_0 : w7.cell? ⟨gb171,0,none⟩ = some (.int .i64 0) := (blk_cell BK171.out 0).trans rfl
       have hcz14_1 : w7.cell? ⟨gb171,1,none⟩ = some (.int .i64 0) := (blk_cell BK171.out 1).trans rfl
       have hcz14_2 : w7.cell? ⟨gb171,2,none⟩ = some (.int .i64 0) := (blk_cell BK171.out 2).trans rfl
       have hcz14_3 : w7.cell? ⟨gb171,3,none⟩ = some (.int .i64 0) := (blk_cell BK171.out 3).trans rfl
       have hcz14_4 : w7.cell? ⟨gb171,4,none⟩ = some (.int .i64 0) := (blk_cell BK171.out 4).trans rfl
       have hcz14_5 : w7.cell? ⟨gb171,5,none⟩ = some (.int .i64 0) := (blk_cell BK171.out 5).trans rfl
       have hfz14_0 := blk_frozen BK171.out 0
       have hfz14_1 := blk_frozen BK171.out 1
       have hfz14_2 := blk_frozen BK171.out 2
       have hfz14_3 := blk_frozen BK171.out 3
       have hfz14_4 := blk_frozen BK171.out 4
       have hfz14_5 := blk_frozen BK171.out 5
       go_wp2
       go_meet
       case rel => exact ⟨_,(false),(by first | rfl | (simp; done) | (simp [*]; done)),H',⟨by have := HK1.out; first | omega | exact Nat.le_refl _⟩,⟨by (with_reducible repeat (first | apply Kd.R_alloc | apply Kd.R_drewN | apply Kd.R_drew)); exact Kd.R_mono (Kd.R_far (p := ⟨gb171,5,none⟩) (Kd.R_far (p := ⟨gb171,4,none⟩) (Kd.R_far (p := ⟨gb171,3,none⟩) (Kd.R_far (p := ⟨gb171,2,none⟩) (Kd.R_far (p := ⟨gb171,1,none⟩) (Kd.R_far (p := ⟨gb171,0,none⟩) (Kd.R_types HO_3.out BK171.out (by decide)) (fun _ hk => hk.2) (.int .i64 ((rd_T80 l0_1 x4_1).f0))) (fun _ hk => hk.2) (.int .i64 ((rd_T80 l0_1 x4_1).f1))) (fun _ hk => hk.2) (.int .i64 ((rd_T80 l0_1 x4_1).f2))) (fun _ hk => hk.2) (.int .i64 ((rd_T80 l0_1 x4_1).f3))) (fun _ hk => hk.2) (.int .i64 ((rd_T80 l0_1 x4_1).f4))) (fun _ hk => hk.2) (.int .i64 ((rd_T80 l0_1 x4_1).f5))) (fun _ hk => trivial)⟩,⟨by (with_reducible repeat (first | refine blk_drewN ?_ _ | refine blk_drew ?_ | refine blk_alloc ?_ _)); refine blk_far ?_ NB169_171.out _; (with_reducible repeat (first | refine blk_drewN ?_ _ | refine blk_drew ?_ | refine blk_alloc ?_ _)); refine blk_far ?_ NB169_171.out _; (with_reducible repeat (first | refine blk_drewN ?_ _ | refine blk_drew ?_ | refine blk_alloc ?_ _)); refine blk_far ?_ NB169_171.out _; (with_reducible repeat (first | refine blk_drewN ?_ _ | refine blk_drew ?_ | refine blk_alloc ?_ _)); refine blk_far ?_ NB169_171.out _; (with_reducible repeat (first | refine blk_drewN ?_ _ | refine blk_drew ?_ | refine blk_alloc ?_ _)); refine blk_far ?_ NB169_171.out _; (with_reducible repeat (first | refine blk_drewN ?_ _ | refine blk_drew ?_ | refine blk_alloc ?_ _)); refine blk_far ?_ NB169_171.out _; (with_reducible repeat (first | refine blk_drewN ?_ _ | refine blk_drew ?_ | refine blk_alloc ?_ _)); exact BK169.out⟩,⟨by (with_reducible repeat (first | refine blk_drewN ?_ _ | refine blk_drew ?_ | refine blk_alloc ?_ _)); refine blk_put (cs := #[.int .i64 ((rd_T80 l0_1 x4_1).f0),.int .i64 ((rd_T80 l0_1 x4_1).f1),.int .i64 ((rd_T80 l0_1 x4_1).f2),.int .i64 ((rd_T80 l0_1 x4_1).f3),.int .i64 ((rd_T80 l0_1 x4_1).f4),.int .i64 0]) ?_ 5 _ rfl; (with_reducible repeat (first | refine blk_drewN ?_ _ | refine blk_drew ?_ | refine blk_alloc ?_ _)); refine blk_put (cs := #[.int .i64 ((rd_T80 l0_1 x4_1).f0),.int .i64 ((rd_T80 l0_1 x4_1).f1),.int .i64 ((rd_T80 l0_1 x4_1).f2),.int .i64 ((rd_T80 l0_1 x4_1).f3),.int .i64 0,.int .i64 0]) ?_ 4 _ rfl; (with_reducible repeat (first | refine blk_drewN ?_ _ | refine blk_drew ?_ | refine blk_alloc ?_ _)); refine blk_put (cs := #[.int .i64 ((rd_T80 l0_1 x4_1).f0),.int .i64 ((rd_T80 l0_1 x4_1).f1),.int .i64 ((rd_T80 l0_1 x4_1).f2),.int .i64 0,.int .i64 0,.int .i64 0]) ?_ 3 _ rfl; (with_reducible repeat (first | refine blk_drewN ?_ _ | refine blk_drew ?_ | refine blk_alloc ?_ _)); refine blk_put (cs := #[.int .i64 ((rd_T80 l0_1 x4_1).f0),.int .i64 ((rd_T80 l0_1 x4_1).f1),.int .i64 0,.int .i64 0,.int .i64 0,.int .i64 0]) ?_ 2 _ rfl; (with_reducible repeat (first | refine blk_drewN ?_ _ | refine blk_drew ?_ | refine blk_alloc ?_ _)); refine blk_put (cs := #[.int .i64 ((rd_T80 l0_1 x4_1).f0),.int .i64 0,.int .i64 0,.int .i64 0,.int .i64 0,.int .i64 0]) ?_ 1 _ rfl; (with_reducible repeat (first | refine blk_drewN ?_ _ | refine blk_drew ?_ | refine blk_alloc ?_ _)); refine blk_put (cs := #[.int .i64 0,.int .i64 0,.int .i64 0,.int .i64 0,.int .i64 0,.int .i64 0]) ?_ 0 _ rfl; (with_reducible repeat (first | refine blk_drewN ?_ _ | refine blk_drew ?_ | refine blk_alloc ?_ _)); exact BK171.out⟩,⟨by repeat (first | (with_reducible first | exact HB.out | apply below_alloc | apply pw_below_drewN | apply below_drew1 | refine below_set ?_ GE169.out | refine below_set ?_ GE171.out) | exact HB.out)⟩⟩
     case rest =>
      clear HC5
      try clear c1
      try clear p1
      try clear q1
      try clear hx1
      try clear p2
      try clear c3
      try clear c3b0
      try clear c4
      try clear c4b0
      try clear c6
      try clear c8
      try clear c10
      try clear c10b0
      try clear c10b1
      try clear c11
      try clear c13
      try clear hcz12_0
      try clear hcz12_1
      try clear hcz12_2
      try clear hcz12_3
      try clear hcz12_4
      try clear hcz12_5
      try clear hcz14_0
      try clear hcz14_1
      try clear hcz14_2
      try clear hcz14_3
      try clear hcz14_4
      try clear hcz14_5
      try clear hcz6_0
      try clear hcz6_1
      try clear hcz9_0
      try clear hcz9_1
      try clear hcz9_2
      try clear hcz9_3
      try clear hcz9_4
      try clear hcz9_5
      try clear hfz12_0
      try clear hfz12_1
      try clear hfz12_2
      try clear hfz12_3
      try clear hfz12_4
      try clear hfz12_5
      try clear hfz14_0
      try clear hfz14_1
      try clear hfz14_2
      try clear hfz14_3
      try clear hfz14_4
      try clear hfz14_5
      try clear hfz6_0
      try clear hfz6_1
      try clear hfz9_0
      try clear hfz9_1
      try clear hfz9_2
      try clear hfz9_3
      try clear hfz9_4
      try clear hfz9_5
      try clear hx170_0
      try clear hx170_1
      try clear hx170_2
      try clear hx170_3
      try clear hx170_4
      try clear hx170_5
      try clear p170
      try clear p2
      try clear q170
      obtain ⟨kq,x33_4,rfl,HA,HJ4,HO_3,BK169,BK171,HB⟩ := hcut
      cases kq with
      | zero => exact absurd HA.out (by simp [rf_binds.j1])
      | succ kj4 =>
       have H := HA.out
       clear HA
       simp only [rf_binds.j1] at H
       by_cases c15 : x33_4 = true
       ·subst c15
        have H1 : ((some (([(⟨0,x4_1,0⟩ : S27),(⟨x4_1,0,0⟩ : S27)] : List (S27)) : List (S27))).bind fun y172 => (if x3_1.length + y172.length < 5864062014805 then ((some (x3_1 ++ y172 : List (S27))).bind fun y175 => (if ((rd_T80 l0_1 x4_1).f1) = 3 then ((some (([(⟨((rd_T80 l0_1 x4_1).f2),x4_1,((rd_T80 l0_1 x4_1).f5)⟩ : S27),(⟨x4_1,((rd_T80 l0_1 x4_1).f2),wrap64 (-((rd_T80 l0_1 x4_1).f4))⟩ : S27)] : List (S27)) : List (S27))).bind fun y178 => (if y175.length + y178.length < 5864062014805 then (rf_binds.l0 kj4 (y175 ++ y178) (wrap64 (x4_1 + 1)) l0_0 l0_1) else (none))) else (rf_binds.l0 kj4 y175 (wrap64 (x4_1 + 1)) l0_0 l0_1))) else (none))) = some r := by rw [if_pos rfl] at H; exact H
        clear H
        have H := H1
        clear H1
        obtain ⟨y172,hy172⟩ : ∃ y_ : List (S27),y_ = (([(⟨0,x4_1,0⟩ : S27),(⟨x4_1,0,0⟩ : S27)] : List (S27))) := ⟨_,rfl⟩
        replace H : (if x3_1.length + y172.length < 5864062014805 then ((some (x3_1 ++ y172 : List (S27))).bind fun y175 => (if ((rd_T80 l0_1 x4_1).f1) = 3 then ((some (([(⟨((rd_T80 l0_1 x4_1).f2),x4_1,((rd_T80 l0_1 x4_1).f5)⟩ : S27),(⟨x4_1,((rd_T80 l0_1 x4_1).f2),wrap64 (-((rd_T80 l0_1 x4_1).f4))⟩ : S27)] : List (S27)) : List (S27))).bind fun y178 => (if y175.length + y178.length < 5864062014805 then (rf_binds.l0 kj4 (y175 ++ y178) (wrap64 (x4_1 + 1)) l0_0 l0_1) else (none))) else (rf_binds.l0 kj4 y175 (wrap64 (x4_1 + 1)) l0_0 l0_1))) else (none)) = some r := by first | (rw [hy172]; with_reducible exact H) | (have H2_ := (Option.bind_some _ _).symm.trans H; rw [hy172]; with_reducible exact H2_) | (have H2_ := (Option.bind_some _ _).symm.trans H; with_reducible exact H2_) | with_reducible exact H | (rw [hy172]; exact H) | exact H
        have Ny172 := Aside0.mk hy172
        clear hy172
        by_cases c16 : x3_1.length + y172.length < 5864062014805
        ·rw [if_pos c16] at H
         have LMc16 := Aside0.mk c16
         clear c16
         obtain ⟨y175,hy175⟩ : ∃ y_ : List (S27),y_ = (x3_1 ++ y172) := ⟨_,rfl⟩
         replace H : (if ((rd_T80 l0_1 x4_1).f1) = 3 then ((some (([(⟨((rd_T80 l0_1 x4_1).f2),x4_1,((rd_T80 l0_1 x4_1).f5)⟩ : S27),(⟨x4_1,((rd_T80 l0_1 x4_1).f2),wrap64 (-((rd_T80 l0_1 x4_1).f4))⟩ : S27)] : List (S27)) : List (S27))).bind fun y178 => (if y175.length + y178.length < 5864062014805 then (rf_binds.l0 kj4 (y175 ++ y178) (wrap64 (x4_1 + 1)) l0_0 l0_1) else (none))) else (rf_binds.l0 kj4 y175 (wrap64 (x4_1 + 1)) l0_0 l0_1)) = some r := by first | (rw [hy175]; with_reducible exact H) | (have H2_ := (Option.bind_some _ _).symm.trans H; rw [hy175]; with_reducible exact H2_) | (have H2_ := (Option.bind_some _ _).symm.trans H; with_reducible exact H2_) | with_reducible exact H | (rw [hy175]; exact H) | exact H
         have Ny175 := Aside0.mk hy175
         clear hy175
         by_cases c17 : ((rd_T80 l0_1 x4_1).f1) = 3
         ·rw [if_pos c17] at H
          have c17b0 : (((rd_T80 l0_1 x4_1).f1) == 3) = true := beq_iff_eq.mpr c17
          have c17b1 : (((rd_T80 l0_1 x4_1).f1) != 3) = false := bne_eq_false_iff_eq.mpr c17
          clear c17
          obtain ⟨y178,hy178⟩ : ∃ y_ : List (S27),y_ = (([(⟨((rd_T80 l0_1 x4_1).f2),x4_1,((rd_T80 l0_1 x4_1).f5)⟩ : S27),(⟨x4_1,((rd_T80 l0_1 x4_1).f2),wrap64 (-((rd_T80 l0_1 x4_1).f4))⟩ : S27)] : List (S27))) := ⟨_,rfl⟩
          replace H : (if y175.length + y178.length < 5864062014805 then (rf_binds.l0 kj4 (y175 ++ y178) (wrap64 (x4_1 + 1)) l0_0 l0_1) else (none)) = some r := by first | (rw [hy178]; with_reducible exact H) | (have H2_ := (Option.bind_some _ _).symm.trans H; rw [hy178]; with_reducible exact H2_) | (have H2_ := (Option.bind_some _ _).symm.trans H; with_reducible exact H2_) | with_reducible exact H | (rw [hy178]; exact H) | exact H
          have Ny178 := Aside0.mk hy178
          clear hy178
          by_cases c18 : y175.length + y178.length < 5864062014805
          ·rw [if_pos c18] at H
           have LMc18 := Aside0.mk c18
           clear c18
           obtain ⟨y181,hy181⟩ : ∃ y_ : List (S27),y_ = (y175 ++ y178) := ⟨_,rfl⟩
           replace H : (rf_binds.l0 kj4 y181 (wrap64 (x4_1 + 1)) l0_0 l0_1) = some r := by first | (rw [hy181]; with_reducible exact H) | (have H2_ := (Option.bind_some _ _).symm.trans H; rw [hy181]; with_reducible exact H2_) | (have H2_ := (Option.bind_some _ _).symm.trans H; with_reducible exact H2_) | with_reducible exact H | (rw [hy181]; exact H) | exact H
           have Ny181 := Aside0.mk hy181
           clear hy181
           have H' := Aside0.mk H
           clear H
           go_wp2_with (first | ((with_reducible refine gate_dst (N := 39) rfl ?_); refine Kd.R_lit k27 _ 27 ?hg (N := 39) ?hd (xs := ([(⟨0,x4_1,0⟩ : S27),(⟨x4_1,0,0⟩ : S27)] : List (S27))) (inner := [.int .i64 0,.int .i64 x4_1,.int .i64 0,.int .i64 x4_1,.int .i64 0,.int .i64 0]) (ok := fun _ => True) (okp := fun _ => True) ?hr ?hp (fun _ hk => hk) trivial (Below.refl _ _) (Nat.le_refl _) (by simp) ?_; (case hd => rfl); (case hg => rfl); (case hr => first | (go_simp; done) | (go_simp; rfl)); (case hp => exact (Reps.c3 (show Kd.M k27 _ _ _ (⟨0,x4_1,0⟩ : S27) [.int .i64 0,.int .i64 x4_1,.int .i64 0] from (k27_mkM _ _ _ (⟨0,x4_1,0⟩ : S27) )) (Reps.c3 (show Kd.M k27 _ _ _ (⟨x4_1,0,0⟩ : S27) [.int .i64 x4_1,.int .i64 0,.int .i64 0] from (k27_mkM _ _ _ (⟨x4_1,0,0⟩ : S27) )) (Reps.none _ _)))); intro v173 w19 ho20 hb hg_ hnew_; clear hg_ hnew_; (first | rw [← Ny172.out] at ho20 | (simp only [Int.reduceToNat] at ho20; rw [← Ny172.out] at ho20)); have n0_ := Aside0.mk (Kd.R_elder' (by (with_reducible repeat (first | apply Kd.R_alloc | apply Kd.R_drewN | apply Kd.R_drew)); exact HO_3.out) (Kd.R_base ho20) hb); have n1_ := Aside0.mk (Kd.R_lower (Kd.R_new' ho20 (Kd.R_lt (by (with_reducible repeat (first | apply Kd.R_alloc | apply Kd.R_drewN | apply Kd.R_drew)); exact HO_3.out))) (below_size (by repeat (first | (with_reducible first | exact HB.out | apply below_alloc | apply pw_below_drewN | apply below_drew1 | refine below_set ?_ GE169.out | refine below_set ?_ GE171.out) | exact HB.out)))); have n2_ := Aside0.mk (blk_below (g := gb169) (o := .cells #[.slice A0_0 l0_0.length c0_0,.slice (some ad170) l0_1.length c0_1] 25 (0,0)) (by (with_reducible repeat (first | refine blk_drewN ?_ _ | refine blk_drew ?_ | refine blk_alloc ?_ _)); exact BK169.out) hb); have n3_ := Aside0.mk (blk_below (g := gb171) (o := .cells #[.int .i64 ((rd_T80 l0_1 x4_1).f0),.int .i64 ((rd_T80 l0_1 x4_1).f1),.int .i64 ((rd_T80 l0_1 x4_1).f2),.int .i64 ((rd_T80 l0_1 x4_1).f3),.int .i64 ((rd_T80 l0_1 x4_1).f4),.int .i64 ((rd_T80 l0_1 x4_1).f5)] 80 (0,0)) (by (with_reducible repeat (first | refine blk_drewN ?_ _ | refine blk_drew ?_ | refine blk_alloc ?_ _)); exact BK171.out) hb); have n4_ := Aside0.mk (below_step (by repeat (first | (with_reducible first | exact HB.out | apply below_alloc | apply pw_below_drewN | apply below_drew1 | refine below_set ?_ GE169.out | refine below_set ?_ GE171.out) | exact HB.out)) hb); clear HO_3; clear BK169; clear BK171; clear HB; have HO_3 := n0_; have HO174 := n1_; have BK169 := n2_; have BK171 := n3_; have HB := n4_; clear n0_ n1_ n2_ n3_ n4_; clear hb ho20; obtain ⟨Ao22,co22,eo22⟩ := Kd.R_slice HO174.out; subst eo22) | ((with_reducible refine gate_builtin (b := .append) (xs := #[.tmp 34,.tmp 39]) rfl ?_); at_builtin; refine Kd.R_append_rows k27 (w0 := w) w.heap.size rfl (.tmp 34) (.tmp 39) 68 27 (.agg #[(.int .i64 0),(.int .i64 0),(.int .i64 0)]) 24 rfl Try.underlying68 info27 rfl (by decide) (by omega) u3 x3_1 y172 _ _ _ (fun k_ => some k_ ≠ (.slice Ao22 y172.length co22 : Value).ownBlock) (fun _ => False) rfl rfl ?aO ?aR (fun _ _ h => h) (fun _ h => h.elim) ?aF ?aB ?aS ?aL ?_; (case aR => repeat (first | exact (Kd.R_reads' HO174.out).2.2 | (with_reducible refine Kd.C_alloc ?_ _) | (with_reducible refine Kd.C_drewN ?_ _) | (with_reducible refine Kd.C_drew ?_))); (case aB => exact (by repeat (first | (with_reducible first | exact HB.out | apply below_alloc | apply pw_below_drewN | apply below_drew1 | refine below_set ?_ GE169.out | refine below_set ?_ GE171.out) | exact HB.out))); (case aF => exact (fun k_ hk => Kd.fresh' (Kd.R_lt (by (with_reducible repeat (first | apply Kd.R_alloc | apply Kd.R_drewN | apply Kd.R_drew)); exact HO174.out)) k_ hk)); (case aO => exact (by (with_reducible repeat (first | apply Kd.R_alloc | apply Kd.R_drewN | apply Kd.R_drew)); exact Kd.R_mono HO_3.out (fun _ hk => hk.2))); (case aS => exact (below_size (by repeat (first | (with_reducible first | exact HB.out | apply below_alloc | apply pw_below_drewN | apply below_drew1 | refine below_set ?_ GE169.out | refine below_set ?_ GE171.out) | exact HB.out)))); (case aL => have := LMc16.out; omega); intro v176 w21 ho hb hg hat; rw [← Ny175.out] at ho; have n0_ := Aside0.mk (blk_grown (g := gb169) (o := .cells #[.slice A0_0 l0_0.length c0_0,.slice (some ad170) l0_1.length c0_1] 25 (0,0)) (by (with_reducible repeat (first | refine blk_drewN ?_ _ | refine blk_drew ?_ | refine blk_alloc ?_ _)); exact BK169.out) hg (Kd.R_ne HO_3.out BK169.out (by decide))); have n1_ := Aside0.mk (blk_grown (g := gb171) (o := .cells #[.int .i64 ((rd_T80 l0_1 x4_1).f0),.int .i64 ((rd_T80 l0_1 x4_1).f1),.int .i64 ((rd_T80 l0_1 x4_1).f2),.int .i64 ((rd_T80 l0_1 x4_1).f3),.int .i64 ((rd_T80 l0_1 x4_1).f4),.int .i64 ((rd_T80 l0_1 x4_1).f5)] 80 (0,0)) (by (with_reducible repeat (first | refine blk_drewN ?_ _ | refine blk_drew ?_ | refine blk_alloc ?_ _)); exact BK171.out) hg (Kd.R_ne HO_3.out BK171.out (by decide))); have n2_ := Aside0.mk (Kd.R_after (ok := (fun _ => True)) (by (with_reducible repeat (first | apply Kd.R_alloc | apply Kd.R_drewN | apply Kd.R_drew)); exact HO174.out) hg hat); have n3_ := Aside0.mk (hb); have n4_ := Aside0.mk (ho); clear BK169; clear BK171; clear HO174; clear HB; clear HO_3; have BK169 := n0_; have BK171 := n1_; have HO174 := n2_; have HB := n3_; have HO177 := n4_; clear n0_ n1_ n2_ n3_ n4_; clear ho hb hg hat; have hnb23 := NB171_169.out; have hnc23 := NB169_171.out; have hcz24_0 : w21.cell? ⟨gb171,0,none⟩ = some (.int .i64 ((rd_T80 l0_1 x4_1).f0)) := (blk_cell BK171.out 0).trans rfl; have hcz24_1 : w21.cell? ⟨gb171,1,none⟩ = some (.int .i64 ((rd_T80 l0_1 x4_1).f1)) := (blk_cell BK171.out 1).trans rfl; have hcz24_2 : w21.cell? ⟨gb171,2,none⟩ = some (.int .i64 ((rd_T80 l0_1 x4_1).f2)) := (blk_cell BK171.out 2).trans rfl; have hcz24_3 : w21.cell? ⟨gb171,3,none⟩ = some (.int .i64 ((rd_T80 l0_1 x4_1).f3)) := (blk_cell BK171.out 3).trans rfl; have hcz24_4 : w21.cell? ⟨gb171,4,none⟩ = some (.int .i64 ((rd_T80 l0_1 x4_1).f4)) := (blk_cell BK171.out 4).trans rfl; have hcz24_5 : w21.cell? ⟨gb171,5,none⟩ = some (.int .i64 ((rd_T80 l0_1 x4_1).f5)) := (blk_cell BK171.out 5).trans rfl; have hfz24_0 := blk_frozen BK171.out 0; have hfz24_1 := blk_frozen BK171.out 1; have hfz24_2 := blk_frozen BK171.out 2; have hfz24_3 := blk_frozen BK171.out 3; have hfz24_4 := blk_frozen BK171.out 4; have hfz24_5 := blk_frozen BK171.out 5) | ((with_reducible refine gate_dst (N := 58) rfl ?_); refine Kd.R_lit k27 _ 27 ?hg (N := 58) ?hd (xs := ([(⟨((rd_T80 l0_1 x4_1).f2),x4_1,((rd_T80 l0_1 x4_1).f5)⟩ : S27),(⟨x4_1,((rd_T80 l0_1 x4_1).f2),wrap64 (-((rd_T80 l0_1 x4_1).f4))⟩ : S27)] : List (S27))) (inner := [.int .i64 ((rd_T80 l0_1 x4_1).f2),.int .i64 x4_1,.int .i64 ((rd_T80 l0_1 x4_1).f5),.int .i64 x4_1,.int .i64 ((rd_T80 l0_1 x4_1).f2),.int .i64 (wrap64 (-((rd_T80 l0_1 x4_1).f4)))]) (ok := fun _ => True) (okp := fun _ => True) ?hr ?hp (fun _ hk => hk) trivial (Below.refl _ _) (Nat.le_refl _) (by simp) ?_; (case hd => rfl); (case hg => rfl); (case hr => first | (go_simp; done) | (go_simp; rfl)); (case hp => exact (Reps.c3 (show Kd.M k27 _ _ _ (⟨((rd_T80 l0_1 x4_1).f2),x4_1,((rd_T80 l0_1 x4_1).f5)⟩ : S27) [.int .i64 ((rd_T80 l0_1 x4_1).f2),.int .i64 x4_1,.int .i64 ((rd_T80 l0_1 x4_1).f5)] from (k27_mkM _ _ _ (⟨((rd_T80 l0_1 x4_1).f2),x4_1,((rd_T80 l0_1 x4_1).f5)⟩ : S27) )) (Reps.c3 (show Kd.M k27 _ _ _ (⟨x4_1,((rd_T80 l0_1 x4_1).f2),wrap64 (-((rd_T80 l0_1 x4_1).f4))⟩ : S27) [.int .i64 x4_1,.int .i64 ((rd_T80 l0_1 x4_1).f2),.int .i64 (wrap64 (-((rd_T80 l0_1 x4_1).f4)))] from (k27_mkM _ _ _ (⟨x4_1,((rd_T80 l0_1 x4_1).f2),wrap64 (-((rd_T80 l0_1 x4_1).f4))⟩ : S27) )) (Reps.none _ _)))); intro v179 w25 ho26 hb hg_ hnew_; clear hg_ hnew_; (first | rw [← Ny178.out] at ho26 | (simp only [Int.reduceToNat] at ho26; rw [← Ny178.out] at ho26)); have n0_ := Aside0.mk (Kd.R_elder' (by (with_reducible repeat (first | apply Kd.R_alloc | apply Kd.R_drewN | apply Kd.R_drew)); exact HO174.out) (Kd.R_base ho26) hb); have n1_ := Aside0.mk (Kd.R_elder' (by (with_reducible repeat (first | apply Kd.R_alloc | apply Kd.R_drewN | apply Kd.R_drew)); exact HO177.out) (Kd.R_base ho26) hb); have n2_ := Aside0.mk (Kd.R_lower (Kd.R_new' (Kd.R_new' ho26 (Kd.R_lt (by (with_reducible repeat (first | apply Kd.R_alloc | apply Kd.R_drewN | apply Kd.R_drew)); exact HO174.out))) (Kd.R_lt (by (with_reducible repeat (first | apply Kd.R_alloc | apply Kd.R_drewN | apply Kd.R_drew)); exact HO177.out))) (below_size (by repeat (first | (with_reducible first | exact HB.out | apply below_alloc | apply pw_below_drewN | apply below_drew1 | refine below_set ?_ GE169.out | refine below_set ?_ GE171.out) | exact HB.out)))); have n3_ := Aside0.mk (blk_below (g := gb169) (o := .cells #[.slice A0_0 l0_0.length c0_0,.slice (some ad170) l0_1.length c0_1] 25 (0,0)) (by (with_reducible repeat (first | refine blk_drewN ?_ _ | refine blk_drew ?_ | refine blk_alloc ?_ _)); exact BK169.out) hb); have n4_ := Aside0.mk (blk_below (g := gb171) (o := .cells #[.int .i64 ((rd_T80 l0_1 x4_1).f0),.int .i64 ((rd_T80 l0_1 x4_1).f1),.int .i64 ((rd_T80 l0_1 x4_1).f2),.int .i64 ((rd_T80 l0_1 x4_1).f3),.int .i64 ((rd_T80 l0_1 x4_1).f4),.int .i64 ((rd_T80 l0_1 x4_1).f5)] 80 (0,0)) (by (with_reducible repeat (first | refine blk_drewN ?_ _ | refine blk_drew ?_ | refine blk_alloc ?_ _)); exact BK171.out) hb); have n5_ := Aside0.mk (below_step (by repeat (first | (with_reducible first | exact HB.out | apply below_alloc | apply pw_below_drewN | apply below_drew1 | refine below_set ?_ GE169.out | refine below_set ?_ GE171.out) | exact HB.out)) hb); clear HO174; clear HO177; clear BK169; clear BK171; clear HB; have HO174 := n0_; have HO177 := n1_; have HO180 := n2_; have BK169 := n3_; have BK171 := n4_; have HB := n5_; clear n0_ n1_ n2_ n3_ n4_ n5_; clear hb ho26; obtain ⟨Ao28,co28,eo28⟩ := Kd.R_slice HO180.out; subst eo28) | ((with_reducible refine gate_builtin (b := .append) (xs := #[.tmp 44,.tmp 58]) rfl ?_); at_builtin; refine Kd.R_append_rows k27 (w0 := w) w.heap.size rfl (.tmp 44) (.tmp 58) 68 27 (.agg #[(.int .i64 0),(.int .i64 0),(.int .i64 0)]) 24 rfl Try.underlying68 info27 rfl (by decide) (by omega) v176 y175 y178 _ _ _ (fun k_ => some k_ ≠ (.slice Ao22 y172.length co22 : Value).ownBlock ∧ some k_ ≠ (.slice Ao28 y178.length co28 : Value).ownBlock) (fun _ => False) rfl rfl ?aO ?aR (fun _ _ h => h) (fun _ h => h.elim) ?aF ?aB ?aS ?aL ?_; (case aR => repeat (first | exact (Kd.R_reads' HO180.out).2.2 | (with_reducible refine Kd.C_alloc ?_ _) | (with_reducible refine Kd.C_drewN ?_ _) | (with_reducible refine Kd.C_drew ?_))); (case aB => exact (by repeat (first | (with_reducible first | exact HB.out | apply below_alloc | apply pw_below_drewN | apply below_drew1 | refine below_set ?_ GE169.out | refine below_set ?_ GE171.out) | exact HB.out))); (case aF => exact (fun k_ hk => ⟨Kd.fresh' (Kd.R_lt (by (with_reducible repeat (first | apply Kd.R_alloc | apply Kd.R_drewN | apply Kd.R_drew)); exact HO174.out)) k_ hk,Kd.fresh' (Kd.R_lt (by (with_reducible repeat (first | apply Kd.R_alloc | apply Kd.R_drewN | apply Kd.R_drew)); exact HO180.out)) k_ hk⟩)); (case aO => exact (by (with_reducible repeat (first | apply Kd.R_alloc | apply Kd.R_drewN | apply Kd.R_drew)); exact HO177.out)); (case aS => exact (below_size (by repeat (first | (with_reducible first | exact HB.out | apply below_alloc | apply pw_below_drewN | apply below_drew1 | refine below_set ?_ GE169.out | refine below_set ?_ GE171.out) | exact HB.out)))); (case aL => have := LMc18.out; omega); intro v182 w27 ho hb hg hat; rw [← Ny181.out] at ho; have n0_ := Aside0.mk (blk_grown (g := gb169) (o := .cells #[.slice A0_0 l0_0.length c0_0,.slice (some ad170) l0_1.length c0_1] 25 (0,0)) (by (with_reducible repeat (first | refine blk_drewN ?_ _ | refine blk_drew ?_ | refine blk_alloc ?_ _)); exact BK169.out) hg (Kd.R_ne HO177.out BK169.out (by decide))); have n1_ := Aside0.mk (blk_grown (g := gb171) (o := .cells #[.int .i64 ((rd_T80 l0_1 x4_1).f0),.int .i64 ((rd_T80 l0_1 x4_1).f1),.int .i64 ((rd_T80 l0_1 x4_1).f2),.int .i64 ((rd_T80 l0_1 x4_1).f3),.int .i64 ((rd_T80 l0_1 x4_1).f4),.int .i64 ((rd_T80 l0_1 x4_1).f5)] 80 (0,0)) (by (with_reducible repeat (first | refine blk_drewN ?_ _ | refine blk_drew ?_ | refine blk_alloc ?_ _)); exact BK171.out) hg (Kd.R_ne HO177.out BK171.out (by decide))); have n2_ := Aside0.mk (Kd.R_after (ok := (fun k_ => some k_ ≠ (.slice Ao28 y178.length co28 : Value).ownBlock)) (by (with_reducible repeat (first | apply Kd.R_alloc | apply Kd.R_drewN | apply Kd.R_drew)); exact Kd.R_mono HO174.out (fun _ hk => ⟨hk.2,hk.1.2⟩)) hg hat); have n3_ := Aside0.mk (Kd.R_after (ok := (fun k_ => some k_ ≠ (.slice Ao22 y172.length co22 : Value).ownBlock)) (by (with_reducible repeat (first | apply Kd.R_alloc | apply Kd.R_drewN | apply Kd.R_drew)); exact Kd.R_mono HO180.out (fun _ hk => ⟨hk.1.2,hk.2⟩)) hg hat); have n4_ := Aside0.mk (hb); have n5_ := Aside0.mk (ho); clear BK169; clear BK171; clear HO174; clear HO180; clear HB; clear HO177; have BK169 := n0_; have BK171 := n1_; have HO174 := n2_; have HO180 := n3_; have HB := n4_; have HO183 := n5_; clear n0_ n1_ n2_ n3_ n4_ n5_; clear ho hb hg hat))
           go_roundg kj4
           case measure => have := HK1.out; have := HJ4.out; omega
           case rel => exact ⟨(y181),(wrap64 (x4_1 + 1)),(by first | rfl | (simp; done) | (simp [*]; done)),H',⟨by have := HK1.out; have := HJ4.out; omega⟩,⟨by (with_reducible repeat (first | apply Kd.R_alloc | apply Kd.R_drewN | apply Kd.R_drew)); exact Kd.R_mono HO183.out (fun _ hk => trivial)⟩,⟨by (with_reducible repeat (first | refine blk_drewN ?_ _ | refine blk_drew ?_ | refine blk_alloc ?_ _)); exact BK169.out⟩,⟨by repeat (first | (with_reducible first | exact HB.out | apply below_alloc | apply pw_below_drewN | apply below_drew1 | refine below_set ?_ GE169.out | refine below_set ?_ GE171.out) | exact HB.out)⟩⟩
          ·rw [if_neg c18] at H
           exact absurd H (by simp)
         ·rw [if_neg c17] at H
          have c17b0 : (((rd_T80 l0_1 x4_1).f1) == 3) = false := beq_eq_false_iff_ne.mpr c17
          have c17b1 : (((rd_T80 l0_1 x4_1).f1) != 3) = true := bne_iff_ne.mpr c17
          have H' := Aside0.mk H
          clear H
          go_wp2_with (first | ((with_reducible refine gate_dst (N := 39) rfl ?_); refine Kd.R_lit k27 _ 27 ?hg (N := 39) ?hd (xs := ([(⟨0,x4_1,0⟩ : S27),(⟨x4_1,0,0⟩ : S27)] : List (S27))) (inner := [.int .i64 0,.int .i64 x4_1,.int .i64 0,.int .i64 x4_1,.int .i64 0,.int .i64 0]) (ok := fun _ => True) (okp := fun _ => True) ?hr ?hp (fun _ hk => hk) trivial (Below.refl _ _) (Nat.le_refl _) (by simp) ?_; (case hd => rfl); (case hg => rfl); (case hr => first | (go_simp; done) | (go_simp; rfl)); (case hp => exact (Reps.c3 (show Kd.M k27 _ _ _ (⟨0,x4_1,0⟩ : S27) [.int .i64 0,.int .i64 x4_1,.int .i64 0] from (k27_mkM _ _ _ (⟨0,x4_1,0⟩ : S27) )) (Reps.c3 (show Kd.M k27 _ _ _ (⟨x4_1,0,0⟩ : S27) [.int .i64 x4_1,.int .i64 0,.int .i64 0] from (k27_mkM _ _ _ (⟨x4_1,0,0⟩ : S27) )) (Reps.none _ _)))); intro v173 w29 ho30 hb hg_ hnew_; clear hg_ hnew_; (first | rw [← Ny172.out] at ho30 | (simp only [Int.reduceToNat] at ho30; rw [← Ny172.out] at ho30)); have n0_ := Aside0.mk (Kd.R_elder' (by (with_reducible repeat (first | apply Kd.R_alloc | apply Kd.R_drewN | apply Kd.R_drew)); exact HO_3.out) (Kd.R_base ho30) hb); have n1_ := Aside0.mk (Kd.R_lower (Kd.R_new' ho30 (Kd.R_lt (by (with_reducible repeat (first | apply Kd.R_alloc | apply Kd.R_drewN | apply Kd.R_drew)); exact HO_3.out))) (below_size (by repeat (first | (with_reducible first | exact HB.out | apply below_alloc | apply pw_below_drewN | apply below_drew1 | refine below_set ?_ GE169.out | refine below_set ?_ GE171.out) | exact HB.out)))); have n2_ := Aside0.mk (blk_below (g := gb169) (o := .cells #[.slice A0_0 l0_0.length c0_0,.slice (some ad170) l0_1.length c0_1] 25 (0,0)) (by (with_reducible repeat (first | refine blk_drewN ?_ _ | refine blk_drew ?_ | refine blk_alloc ?_ _)); exact BK169.out) hb); have n3_ := Aside0.mk (blk_below (g := gb171) (o := .cells #[.int .i64 ((rd_T80 l0_1 x4_1).f0),.int .i64 ((rd_T80 l0_1 x4_1).f1),.int .i64 ((rd_T80 l0_1 x4_1).f2),.int .i64 ((rd_T80 l0_1 x4_1).f3),.int .i64 ((rd_T80 l0_1 x4_1).f4),.int .i64 ((rd_T80 l0_1 x4_1).f5)] 80 (0,0)) (by (with_reducible repeat (first | refine blk_drewN ?_ _ | refine blk_drew ?_ | refine blk_alloc ?_ _)); exact BK171.out) hb); have n4_ := Aside0.mk (below_step (by repeat (first | (with_reducible first | exact HB.out | apply below_alloc | apply pw_below_drewN | apply below_drew1 | refine below_set ?_ GE169.out | refine below_set ?_ GE171.out) | exact HB.out)) hb); clear HO_3; clear BK169; clear BK171; clear HB; have HO_3 := n0_; have HO174 := n1_; have BK169 := n2_; have BK171 := n3_; have HB := n4_; clear n0_ n1_ n2_ n3_ n4_; clear hb ho30; obtain ⟨Ao32,co32,eo32⟩ := Kd.R_slice HO174.out; subst eo32) | ((with_reducible refine gate_builtin (b := .append) (xs := #[.tmp 34,.tmp 39]) rfl ?_); at_builtin; refine Kd.R_append_rows k27 (w0 := w) w.heap.size rfl (.tmp 34) (.tmp 39) 68 27 (.agg #[(.int .i64 0),(.int .i64 0),(.int .i64 0)]) 24 rfl Try.underlying68 info27 rfl (by decide) (by omega) u3 x3_1 y172 _ _ _ (fun k_ => some k_ ≠ (.slice Ao32 y172.length co32 : Value).ownBlock) (fun _ => False) rfl rfl ?aO ?aR (fun _ _ h => h) (fun _ h => h.elim) ?aF ?aB ?aS ?aL ?_; (case aR => repeat (first | exact (Kd.R_reads' HO174.out).2.2 | (with_reducible refine Kd.C_alloc ?_ _) | (with_reducible refine Kd.C_drewN ?_ _) | (with_reducible refine Kd.C_drew ?_))); (case aB => exact (by repeat (first | (with_reducible first | exact HB.out | apply below_alloc | apply pw_below_drewN | apply below_drew1 | refine below_set ?_ GE169.out | refine below_set ?_ GE171.out) | exact HB.out))); (case aF => exact (fun k_ hk => Kd.fresh' (Kd.R_lt (by (with_reducible repeat (first | apply Kd.R_alloc | apply Kd.R_drewN | apply Kd.R_drew)); exact HO174.out)) k_ hk)); (case aO => exact (by (with_reducible repeat (first | apply Kd.R_alloc | apply Kd.R_drewN | apply Kd.R_drew)); exact Kd.R_mono HO_3.out (fun _ hk => hk.2))); (case aS => exact (below_size (by repeat (first | (with_reducible first | exact HB.out | apply below_alloc | apply pw_below_drewN | apply below_drew1 | refine below_set ?_ GE169.out | refine below_set ?_ GE171.out) | exact HB.out)))); (case aL => have := LMc16.out; omega); intro v176 w31 ho hb hg hat; rw [← Ny175.out] at ho; have n0_ := Aside0.mk (blk_grown (g := gb169) (o := .cells #[.slice A0_0 l0_0.length c0_0,.slice (some ad170) l0_1.length c0_1] 25 (0,0)) (by (with_reducible repeat (first | refine blk_drewN ?_ _ | refine blk_drew ?_ | refine blk_alloc ?_ _)); exact BK169.out) hg (Kd.R_ne HO_3.out BK169.out (by decide))); have n1_ := Aside0.mk (blk_grown (g := gb171) (o := .cells #[.int .i64 ((rd_T80 l0_1 x4_1).f0),.int .i64 ((rd_T80 l0_1 x4_1).f1),.int .i64 ((rd_T80 l0_1 x4_1).f2),.int .i64 ((rd_T80 l0_1 x4_1).f3),.int .i64 ((rd_T80 l0_1 x4_1).f4),.int .i64 ((rd_T80 l0_1 x4_1).f5)] 80 (0,0)) (by (with_reducible repeat (first | refine blk_drewN ?_ _ | refine blk_drew ?_ | refine blk_alloc ?_ _)); exact BK171.out) hg (Kd.R_ne HO_3.out BK171.out (by decide))); have n2_ := Aside0.mk (Kd.R_after (ok := (fun _ => True)) (by (with_reducible repeat (first | apply Kd.R_alloc | apply Kd.R_drewN | apply Kd.R_drew)); exact HO174.out) hg hat); have n3_ := Aside0.mk (hb); have n4_ := Aside0.mk (ho); clear BK169; clear BK171; clear HO174; clear HB; clear HO_3; have BK169 := n0_; have BK171 := n1_; have HO174 := n2_; have HB := n3_; have HO177 := n4_; clear n0_ n1_ n2_ n3_ n4_; clear ho hb hg hat; have hnb33 := NB171_169.out; have hnc33 := NB169_171.out; have hcz34_0 : w31.cell? ⟨gb171,0,none⟩ = some (.int .i64 ((rd_T80 l0_1 x4_1).f0)) := (blk_cell BK171.out 0).trans rfl; have hcz34_1 : w31.cell? ⟨gb171,1,none⟩ = some (.int .i64 ((rd_T80 l0_1 x4_1).f1)) := (blk_cell BK171.out 1).trans rfl; have hcz34_2 : w31.cell? ⟨gb171,2,none⟩ = some (.int .i64 ((rd_T80 l0_1 x4_1).f2)) := (blk_cell BK171.out 2).trans rfl; have hcz34_3 : w31.cell? ⟨gb171,3,none⟩ = some (.int .i64 ((rd_T80 l0_1 x4_1).f3)) := (blk_cell BK171.out 3).trans rfl; have hcz34_4 : w31.cell? ⟨gb171,4,none⟩ = some (.int .i64 ((rd_T80 l0_1 x4_1).f4)) := (blk_cell BK171.out 4).trans rfl; have hcz34_5 : w31.cell? ⟨gb171,5,none⟩ = some (.int .i64 ((rd_T80 l0_1 x4_1).f5)) := (blk_cell BK171.out 5).trans rfl; have hfz34_0 := blk_frozen BK171.out 0; have hfz34_1 := blk_frozen BK171.out 1; have hfz34_2 := blk_frozen BK171.out 2; have hfz34_3 := blk_frozen BK171.out 3; have hfz34_4 := blk_frozen BK171.out 4; have hfz34_5 := blk_frozen BK171.out 5))
          go_roundg kj4
          case measure => have := HK1.out; have := HJ4.out; omega
          case rel => exact ⟨(y175),(wrap64 (x4_1 + 1)),(by first | rfl | (simp; done) | (simp [*]; done)),H',⟨by have := HK1.out; have := HJ4.out; omega⟩,⟨by (with_reducible repeat (first | apply Kd.R_alloc | apply Kd.R_drewN | apply Kd.R_drew)); exact Kd.R_mono HO177.out (fun _ hk => trivial)⟩,⟨by (with_reducible repeat (first | refine blk_drewN ?_ _ | refine blk_drew ?_ | refine blk_alloc ?_ _)); exact BK169.out⟩,⟨by repeat (first | (with_reducible first | exact HB.out | apply below_alloc | apply pw_below_drewN | apply below_drew1 | refine below_set ?_ GE169.out | refine below_set ?_ GE171.out) | exact HB.out)⟩⟩
        ·rw [if_neg c16] at H
         exact absurd H (by simp)
       ·replace c15 := Bool.eq_false_iff.mpr c15
        subst c15
        have H1 : (if ((rd_T80 l0_1 x4_1).f1) = 3 then ((some (([(⟨((rd_T80 l0_1 x4_1).f2),x4_1,((rd_T80 l0_1 x4_1).f5)⟩ : S27),(⟨x4_1,((rd_T80 l0_1 x4_1).f2),wrap64 (-((rd_T80 l0_1 x4_1).f4))⟩ : S27)] : List (S27)) : List (S27))).bind fun y184 => (if x3_1.length + y184.length < 5864062014805 then (rf_binds.l0 kj4 (x3_1 ++ y184) (wrap64 (x4_1 + 1)) l0_0 l0_1) else (none))) else (rf_binds.l0 kj4 x3_1 (wrap64 (x4_1 + 1)) l0_0 l0_1)) = some r := by rw [if_neg (show ¬ (false = true) by decide)] at H; exact H
        clear H
        have H := H1
        clear H1
        by_cases c35 : ((rd_T80 l0_1 x4_1).f1) = 3
        ·rw [if_pos c35] at H
         have c35b0 : (((rd_T80 l0_1 x4_1).f1) == 3) = true := beq_iff_eq.mpr c35
         have c35b1 : (((rd_T80 l0_1 x4_1).f1) != 3) = false := bne_eq_false_iff_eq.mpr c35
         clear c35
         obtain ⟨y184,hy184⟩ : ∃ y_ : List (S27),y_ = (([(⟨((rd_T80 l0_1 x4_1).f2),x4_1,((rd_T80 l0_1 x4_1).f5)⟩ : S27),(⟨x4_1,((rd_T80 l0_1 x4_1).f2),wrap64 (-((rd_T80 l0_1 x4_1).f4))⟩ : S27)] : List (S27))) := ⟨_,rfl⟩
         replace H : (if x3_1.length + y184.length < 5864062014805 then (rf_binds.l0 kj4 (x3_1 ++ y184) (wrap64 (x4_1 + 1)) l0_0 l0_1) else (none)) = some r := by first | (rw [hy184]; with_reducible exact H) | (have H2_ := (Option.bind_some _ _).symm.trans H; rw [hy184]; with_reducible exact H2_) | (have H2_ := (Option.bind_some _ _).symm.trans H; with_reducible exact H2_) | with_reducible exact H | (rw [hy184]; exact H) | exact H
         have Ny184 := Aside0.mk hy184
         clear hy184
         by_cases c36 : x3_1.length + y184.length < 5864062014805
         ·rw [if_pos c36] at H
          have LMc36 := Aside0.mk c36
          clear c36
          obtain ⟨y187,hy187⟩ : ∃ y_ : List (S27),y_ = (x3_1 ++ y184) := ⟨_,rfl⟩
          replace H : (rf_binds.l0 kj4 y187 (wrap64 (x4_1 + 1)) l0_0 l0_1) = some r := by first | (rw [hy187]; with_reducible exact H) | (have H2_ := (Option.bind_some _ _).symm.trans H; rw [hy187]; with_reducible exact H2_) | (have H2_ := (Option.bind_some _ _).symm.trans H; with_reducible exact H2_) | with_reducible exact H | (rw [hy187]; exact H) | exact H
          have Ny187 := Aside0.mk hy187
          clear hy187
          have H' := Aside0.mk H
          clear H
          have hnb37 := NB171_169.out
          have hnc37 := NB169_171.out
          have hcz38_0 : wc.cell? ⟨gb171,0,none⟩ = some (.int .i64 ((rd_T80 l0_1 x4_1).f0)) := (blk_cell BK171.out 0).trans rfl
          have hcz38_1 : wc.cell? ⟨gb171,1,none⟩ = some (.int .i64 ((rd_T80 l0_1 x4_1).f1)) := (blk_cell BK171.out 1).trans rfl
          have hcz38_2 : wc.cell? ⟨gb171,2,none⟩ = some (.int .i64 ((rd_T80 l0_1 x4_1).f2)) := (blk_cell BK171.out 2).trans rfl
          have hcz38_3 : wc.cell? ⟨gb171,3,none⟩ = some (.int .i64 ((rd_T80 l0_1 x4_1).f3)) := (blk_cell BK171.out 3).trans rfl
          have hcz38_4 : wc.cell? ⟨gb171,4,none⟩ = some (.int .i64 ((rd_T80 l0_1 x4_1).f4)) := (blk_cell BK171.out 4).trans rfl
          have hcz38_5 : wc.cell? ⟨gb171,5,none⟩ = some (.int .i64 ((rd_T80 l0_1 x4_1).f5)) := (blk_cell BK171.out 5).trans rfl
          have hfz38_0 := blk_frozen BK171.out 0
          have hfz38_1 := blk_frozen BK171.out 1
          have hfz38_2 := blk_frozen BK171.out 2
          have hfz38_3 := blk_frozen BK171.out 3
          have hfz38_4 := blk_frozen BK171.out 4
          have hfz38_5 := blk_frozen BK171.out 5
          go_wp2_with (first | ((with_reducible refine gate_dst (N := 58) rfl ?_); refine Kd.R_lit k27 _ 27 ?hg (N := 58) ?hd (xs := ([(⟨((rd_T80 l0_1 x4_1).f2),x4_1,((rd_T80 l0_1 x4_1).f5)⟩ : S27),(⟨x4_1,((rd_T80 l0_1 x4_1).f2),wrap64 (-((rd_T80 l0_1 x4_1).f4))⟩ : S27)] : List (S27))) (inner := [.int .i64 ((rd_T80 l0_1 x4_1).f2),.int .i64 x4_1,.int .i64 ((rd_T80 l0_1 x4_1).f5),.int .i64 x4_1,.int .i64 ((rd_T80 l0_1 x4_1).f2),.int .i64 (wrap64 (-((rd_T80 l0_1 x4_1).f4)))]) (ok := fun _ => True) (okp := fun _ => True) ?hr ?hp (fun _ hk => hk) trivial (Below.refl _ _) (Nat.le_refl _) (by simp) ?_; (case hd => rfl); (case hg => rfl); (case hr => first | (go_simp; done) | (go_simp; rfl)); (case hp => exact (Reps.c3 (show Kd.M k27 _ _ _ (⟨((rd_T80 l0_1 x4_1).f2),x4_1,((rd_T80 l0_1 x4_1).f5)⟩ : S27) [.int .i64 ((rd_T80 l0_1 x4_1).f2),.int .i64 x4_1,.int .i64 ((rd_T80 l0_1 x4_1).f5)] from (k27_mkM _ _ _ (⟨((rd_T80 l0_1 x4_1).f2),x4_1,((rd_T80 l0_1 x4_1).f5)⟩ : S27) )) (Reps.c3 (show Kd.M k27 _ _ _ (⟨x4_1,((rd_T80 l0_1 x4_1).f2),wrap64 (-((rd_T80 l0_1 x4_1).f4))⟩ : S27) [.int .i64 x4_1,.int .i64 ((rd_T80 l0_1 x4_1).f2),.int .i64 (wrap64 (-((rd_T80 l0_1 x4_1).f4)))] from (k27_mkM _ _ _ (⟨x4_1,((rd_T80 l0_1 x4_1).f2),wrap64 (-((rd_T80 l0_1 x4_1).f4))⟩ : S27) )) (Reps.none _ _)))); intro v185 w39 ho40 hb hg_ hnew_; clear hg_ hnew_; (first | rw [← Ny184.out] at ho40 | (simp only [Int.reduceToNat] at ho40; rw [← Ny184.out] at ho40)); have n0_ := Aside0.mk (Kd.R_elder' (by (with_reducible repeat (first | apply Kd.R_alloc | apply Kd.R_drewN | apply Kd.R_drew)); exact HO_3.out) (Kd.R_base ho40) hb); have n1_ := Aside0.mk (Kd.R_lower (Kd.R_new' ho40 (Kd.R_lt (by (with_reducible repeat (first | apply Kd.R_alloc | apply Kd.R_drewN | apply Kd.R_drew)); exact HO_3.out))) (below_size (by repeat (first | (with_reducible first | exact HB.out | apply below_alloc | apply pw_below_drewN | apply below_drew1 | refine below_set ?_ GE169.out | refine below_set ?_ GE171.out) | exact HB.out)))); have n2_ := Aside0.mk (blk_below (g := gb169) (o := .cells #[.slice A0_0 l0_0.length c0_0,.slice (some ad170) l0_1.length c0_1] 25 (0,0)) (by (with_reducible repeat (first | refine blk_drewN ?_ _ | refine blk_drew ?_ | refine blk_alloc ?_ _)); exact BK169.out) hb); have n3_ := Aside0.mk (blk_below (g := gb171) (o := .cells #[.int .i64 ((rd_T80 l0_1 x4_1).f0),.int .i64 ((rd_T80 l0_1 x4_1).f1),.int .i64 ((rd_T80 l0_1 x4_1).f2),.int .i64 ((rd_T80 l0_1 x4_1).f3),.int .i64 ((rd_T80 l0_1 x4_1).f4),.int .i64 ((rd_T80 l0_1 x4_1).f5)] 80 (0,0)) (by (with_reducible repeat (first | refine blk_drewN ?_ _ | refine blk_drew ?_ | refine blk_alloc ?_ _)); exact BK171.out) hb); have n4_ := Aside0.mk (below_step (by repeat (first | (with_reducible first | exact HB.out | apply below_alloc | apply pw_below_drewN | apply below_drew1 | refine below_set ?_ GE169.out | refine below_set ?_ GE171.out) | exact HB.out)) hb); clear HO_3; clear BK169; clear BK171; clear HB; have HO_3 := n0_; have HO186 := n1_; have BK169 := n2_; have BK171 := n3_; have HB := n4_; clear n0_ n1_ n2_ n3_ n4_; clear hb ho40; obtain ⟨Ao42,co42,eo42⟩ := Kd.R_slice HO186.out; subst eo42) | ((with_reducible refine gate_builtin (b := .append) (xs := #[.tmp 44,.tmp 58]) rfl ?_); at_builtin; refine Kd.R_append_rows k27 (w0 := w) w.heap.size rfl (.tmp 44) (.tmp 58) 68 27 (.agg #[(.int .i64 0),(.int .i64 0),(.int .i64 0)]) 24 rfl Try.underlying68 info27 rfl (by decide) (by omega) u3 x3_1 y184 _ _ _ (fun k_ => some k_ ≠ (.slice Ao42 y184.length co42 : Value).ownBlock) (fun _ => False) rfl rfl ?aO ?aR (fun _ _ h => h) (fun _ h => h.elim) ?aF ?aB ?aS ?aL ?_; (case aR => repeat (first | exact (Kd.R_reads' HO186.out).2.2 | (with_reducible refine Kd.C_alloc ?_ _) | (with_reducible refine Kd.C_drewN ?_ _) | (with_reducible refine Kd.C_drew ?_))); (case aB => exact (by repeat (first | (with_reducible first | exact HB.out | apply below_alloc | apply pw_below_drewN | apply below_drew1 | refine below_set ?_ GE169.out | refine below_set ?_ GE171.out) | exact HB.out))); (case aF => exact (fun k_ hk => Kd.fresh' (Kd.R_lt (by (with_reducible repeat (first | apply Kd.R_alloc | apply Kd.R_drewN | apply Kd.R_drew)); exact HO186.out)) k_ hk)); (case aO => exact (by (with_reducible repeat (first | apply Kd.R_alloc | apply Kd.R_drewN | apply Kd.R_drew)); exact Kd.R_mono HO_3.out (fun _ hk => hk.2))); (case aS => exact (below_size (by repeat (first | (with_reducible first | exact HB.out | apply below_alloc | apply pw_below_drewN | apply below_drew1 | refine below_set ?_ GE169.out | refine below_set ?_ GE171.out) | exact HB.out)))); (case aL => have := LMc36.out; omega); intro v188 w41 ho hb hg hat; rw [← Ny187.out] at ho; have n0_ := Aside0.mk (blk_grown (g := gb169) (o := .cells #[.slice A0_0 l0_0.length c0_0,.slice (some ad170) l0_1.length c0_1] 25 (0,0)) (by (with_reducible repeat (first | refine blk_drewN ?_ _ | refine blk_drew ?_ | refine blk_alloc ?_ _)); exact BK169.out) hg (Kd.R_ne HO_3.out BK169.out (by decide))); have n1_ := Aside0.mk (blk_grown (g := gb171) (o := .cells #[.int .i64 ((rd_T80 l0_1 x4_1).f0),.int .i64 ((rd_T80 l0_1 x4_1).f1),.int .i64 ((rd_T80 l0_1 x4_1).f2),.int .i64 ((rd_T80 l0_1 x4_1).f3),.int .i64 ((rd_T80 l0_1 x4_1).f4),.int .i64 ((rd_T80 l0_1 x4_1).f5)] 80 (0,0)) (by (with_reducible repeat (first | refine blk_drewN ?_ _ | refine blk_drew ?_ | refine blk_alloc ?_ _)); exact BK171.out) hg (Kd.R_ne HO_3.out BK171.out (by decide))); have n2_ := Aside0.mk (Kd.R_after (ok := (fun _ => True)) (by (with_reducible repeat (first | apply Kd.R_alloc | apply Kd.R_drewN | apply Kd.R_drew)); exact HO186.out) hg hat); have n3_ := Aside0.mk (hb); have n4_ := Aside0.mk (ho); clear BK169; clear BK171; clear HO186; clear HB; clear HO_3; have BK169 := n0_; have BK171 := n1_; have HO186 := n2_; have HB := n3_; have HO189 := n4_; clear n0_ n1_ n2_ n3_ n4_; clear ho hb hg hat))
          go_roundg kj4
          case measure => have := HK1.out; have := HJ4.out; omega
          case rel => exact ⟨(y187),(wrap64 (x4_1 + 1)),(by first | rfl | (simp; done) | (simp [*]; done)),H',⟨by have := HK1.out; have := HJ4.out; omega⟩,⟨by (with_reducible repeat (first | apply Kd.R_alloc | apply Kd.R_drewN | apply Kd.R_drew)); exact Kd.R_mono HO189.out (fun _ hk => trivial)⟩,⟨by (with_reducible repeat (first | refine blk_drewN ?_ _ | refine blk_drew ?_ | refine blk_alloc ?_ _)); exact BK169.out⟩,⟨by repeat (first | (with_reducible first | exact HB.out | apply below_alloc | apply pw_below_drewN | apply below_drew1 | refine below_set ?_ GE169.out | refine below_set ?_ GE171.out) | exact HB.out)⟩⟩
         ·rw [if_neg c36] at H
          exact absurd H (by simp)
        ·rw [if_neg c35] at H
         have c35b0 : (((rd_T80 l0_1 x4_1).f1) == 3) = false := beq_eq_false_iff_ne.mpr c35
         have c35b1 : (((rd_T80 l0_1 x4_1).f1) != 3) = true := bne_iff_ne.mpr c35
         have H' := Aside0.mk H
         clear H
         have hnb43 := NB171_169.out
         have hnc43 := NB169_171.out
         have hcz44_0 : wc.cell? ⟨gb171,0,none⟩ = some (.int .i64 ((rd_T80 l0_1 x4_1).f0)) := (blk_cell BK171.out 0).trans rfl
         have hcz44_1 : wc.cell? ⟨gb171,1,none⟩ = some (.int .i64 ((rd_T80 l0_1 x4_1).f1)) := (blk_cell BK171.out 1).trans rfl
         have hcz44_2 : wc.cell? ⟨gb171,2,none⟩ = some (.int .i64 ((rd_T80 l0_1 x4_1).f2)) := (blk_cell BK171.out 2).trans rfl
         have hcz44_3 : wc.cell? ⟨gb171,3,none⟩ = some (.int .i64 ((rd_T80 l0_1 x4_1).f3)) := (blk_cell BK171.out 3).trans rfl
         have hcz44_4 : wc.cell? ⟨gb171,4,none⟩ = some (.int .i64 ((rd_T80 l0_1 x4_1).f4)) := (blk_cell BK171.out 4).trans rfl
         have hcz44_5 : wc.cell? ⟨gb171,5,none⟩ = some (.int .i64 ((rd_T80 l0_1 x4_1).f5)) := (blk_cell BK171.out 5).trans rfl
         have hfz44_0 := blk_frozen BK171.out 0
         have hfz44_1 := blk_frozen BK171.out 1
         have hfz44_2 := blk_frozen BK171.out 2
         have hfz44_3 := blk_frozen BK171.out 3
         have hfz44_4 := blk_frozen BK171.out 4
         have hfz44_5 := blk_frozen BK171.out 5
         go_wp2
         go_roundg kj4
         case measure => have := HK1.out; have := HJ4.out; omega
         case rel => exact ⟨(x3_1),(wrap64 (x4_1 + 1)),(by first | rfl | (simp; done) | (simp [*]; done)),H',⟨by have := HK1.out; have := HJ4.out; omega⟩,⟨by (with_reducible repeat (first | apply Kd.R_alloc | apply Kd.R_drewN | apply Kd.R_drew)); exact HO_3.out⟩,⟨by (with_reducible repeat (first | refine blk_drewN ?_ _ | refine blk_drew ?_ | refine blk_alloc ?_ _)); exact BK169.out⟩,⟨by repeat (first | (with_reducible first | exact HB.out | apply below_alloc | apply pw_below_drewN | apply below_drew1 | refine below_set ?_ GE169.out | refine below_set ?_ GE171.out) | exact HB.out)⟩⟩
    ·rw [if_neg c4] at H
     exact absurd H (by simp)
   ·rw [if_neg c3] at H
    have c3b0 : decide (x4_1 < (l0_1.length : Int)) = false := decide_eq_false c3
    clear c3
    replace H := Option.bind_eq_some_iff.mp H
    obtain ⟨⟨t190,t193⟩,A450,H⟩ := H
    replace H : (rf_binds.l1 k1 x3_1 t190 t193 0 l0_0 l0_1) = some r := H
    have A45 := Aside0.mk A450
    clear A450
    have H' := Aside0.mk H
    clear H
    have hcz46_0 : wr.cell? ⟨gb169,0,none⟩ = some (.slice A0_0 l0_0.length c0_0) := (blk_cell BK169.out 0).trans rfl
    have hcz46_1 : wr.cell? ⟨gb169,1,none⟩ = some (.slice A0_1 l0_1.length c0_1) := (blk_cell BK169.out 1).trans rfl
    have hfz46_0 := blk_frozen BK169.out 0
    have hfz46_1 := blk_frozen BK169.out 1
    go_wp2_with (first | ((with_reducible refine gate_callee (f := 79) rfl ?_); refine goesL_ (some 62) rfl rfl Try.func79 (by kernel_rfl) rfl #[.agg #[.slice A0_0 l0_0.length c0_0,.slice A0_1 l0_1.length c0_1]] rfl (by (try simp only [List.map_toArray,List.map_cons,List.map_nil]); first | done | rfl | (simp only [List.length_drop,List.length_take]; rfl)) ?_; (with_reducible refine (rf_readings.calls k1 _ _ l0_0 _ _ l0_1 t190 t193 _ ?side1 ?side2 ?side3 ?side4 A45.out).mono ?_); (case side1 => repeat (first | exact (Kd.C_below HR0_0.out HB.out) | (with_reducible refine Kd.C_alloc ?_ _) | (with_reducible refine Kd.C_drewN ?_ _) | (with_reducible refine Kd.C_drew ?_))); (case side2 => exact HC0_0.out); (case side3 => repeat (first | exact (Kd.C_below HR0_1.out HB.out) | (with_reducible refine Kd.C_alloc ?_ _) | (with_reducible refine Kd.C_drewN ?_ _) | (with_reducible refine Kd.C_drew ?_))); (case side4 => exact HC0_1.out); rintro e w47 ⟨v191,v194,rfl,ho0,ho1,hb⟩; refine ⟨_,rfl,?_⟩; have n0_ := Aside0.mk (Kd.R_below (by (with_reducible repeat (first | apply Kd.R_alloc | apply Kd.R_drewN | apply Kd.R_drew)); exact HO_3.out) hb); have n1_ := Aside0.mk (Kd.R_lower ho0 (below_size (by repeat (first | (with_reducible first | exact HB.out | apply below_alloc | apply pw_below_drewN | apply below_drew1 | refine below_set ?_ GE169.out) | exact HB.out)))); have n2_ := Aside0.mk (Kd.R_lower ho1 (below_size (by repeat (first | (with_reducible first | exact HB.out | apply below_alloc | apply pw_below_drewN | apply below_drew1 | refine below_set ?_ GE169.out) | exact HB.out)))); have n3_ := Aside0.mk (blk_below (g := gb169) (o := .cells #[.slice A0_0 l0_0.length c0_0,.slice A0_1 l0_1.length c0_1] 25 (0,0)) (by (with_reducible repeat (first | refine blk_drewN ?_ _ | refine blk_drew ?_ | refine blk_alloc ?_ _)); exact BK169.out) hb); have n4_ := Aside0.mk (below_step (by repeat (first | (with_reducible first | exact HB.out | apply below_alloc | apply pw_below_drewN | apply below_drew1 | refine below_set ?_ GE169.out) | exact HB.out)) hb); clear HO_3; clear BK169; clear HB; have HO_3 := n0_; have HO192 := n1_; have HO195 := n2_; have BK169 := n3_; have HB := n4_; clear n0_ n1_ n2_ n3_ n4_; (try clear hb); (try clear hb2); (try clear hk); (try clear hi); (try clear ho0); (try clear ho1)))
    go_loopg [3,8] k1 (fun kq v3 v8 w' => ∃ (x3_2 : List (S27)) (x8_2 : Int),v8 = .int .i64 x8_2 ∧ Aside0 (rf_binds.l1 kq x3_2 t190 t193 x8_2 l0_0 l0_1 = some r) ∧ Aside0 (kq ≤ k1) ∧ Aside0 (Kd.R k27 27 w' w.heap.size (fun _ => True) v3 x3_2) ∧ Aside0 (Kd.R (Kd.int .i64) 3 w' w.heap.size (fun k_ => some k_ ≠ (v194 : Value).ownBlock) v191 t190) ∧ Aside0 (Kd.R (Kd.int .i64) 3 w' w.heap.size (fun k_ => some k_ ≠ (v191 : Value).ownBlock) v194 t193) ∧ Aside0 (w'.heap[gb169]? = some (.cells #[(.slice A0_0 l0_0.length c0_0),(.slice A0_1 l0_1.length c0_1)] 25 (0,0))) ∧ Aside0 (Below w.heap.size w w'))
    case atStart => exact ⟨(x3_1),(0),(by first | rfl | (simp; done) | (simp [*]; done)),H',⟨Nat.le_refl _⟩,⟨by (with_reducible repeat (first | apply Kd.R_alloc | apply Kd.R_drewN | apply Kd.R_drew)); exact HO_3.out⟩,⟨by (with_reducible repeat (first | apply Kd.R_alloc | apply Kd.R_drewN | apply Kd.R_drew)); exact HO192.out⟩,⟨by (with_reducible repeat (first | apply Kd.R_alloc | apply Kd.R_drewN | apply Kd.R_drew)); exact HO195.out⟩,⟨by (with_reducible repeat (first | refine blk_drewN ?_ _ | refine blk_drew ?_ | refine blk_alloc ?_ _)); exact BK169.out⟩,⟨by repeat (first | (with_reducible first | exact HB.out | apply below_alloc | apply pw_below_drewN | apply below_drew1 | refine below_set ?_ GE169.out) | exact HB.out)⟩⟩
    case round =>
     clear H'
     try clear c1
     try clear p1
     try clear q1
     try clear hx1
     try clear c2
     try clear p2
     try clear c3
     try clear c3b0
     try clear c4
     try clear c4b0
     try clear c6
     try clear p6
     try clear c7
     try clear c8
     try clear c10
     try clear c10b0
     try clear c10b1
     try clear c11
     try clear c13
     try clear c15
     try clear c16
     try clear c17
     try clear c17b0
     try clear c17b1
     try clear p17
     try clear q17
     try clear hx17
     try clear c18
     try clear c23
     try clear c33
     try clear c35
     try clear c35b0
     try clear c35b1
     try clear c36
     try clear c37
     try clear c43
     try clear hcz12_0
     try clear hcz12_1
     try clear hcz12_2
     try clear hcz12_3
     try clear hcz12_4
     try clear hcz12_5
     try clear hcz14_0
     try clear hcz14_1
     try clear hcz14_2
     try clear hcz14_3
     try clear hcz14_4
     try clear hcz14_5
     try clear hcz24_0
     try clear hcz24_1
     try clear hcz24_2
     try clear hcz24_3
     try clear hcz24_4
     try clear hcz24_5
     try clear hcz34_0
     try clear hcz34_1
     try clear hcz34_2
     try clear hcz34_3
     try clear hcz34_4
     try clear hcz34_5
     try clear hcz38_0
     try clear hcz38_1
     try clear hcz38_2
     try clear hcz38_3
     try clear hcz38_4
     try clear hcz38_5
     try clear hcz44_0
     try clear hcz44_1
     try clear hcz44_2
     try clear hcz44_3
     try clear hcz44_4
     try clear hcz44_5
     try clear hcz46_0
     try clear hcz46_1
     try clear hcz6_0
     try clear hcz6_1
     try clear hcz9_0
     try clear hcz9_1
     try clear hcz9_2
     try clear hcz9_3
     try clear hcz9_4
     try clear hcz9_5
     try clear hfz12_0
     try clear hfz12_1
     try clear hfz12_2
     try clear hfz12_3
     try clear hfz12_4
     try clear hfz12_5
     try clear hfz14_0
     try clear hfz14_1
     try clear hfz14_2
     try clear hfz14_3
     try clear hfz14_4
     try clear hfz14_5
     try clear hfz24_0
     try clear hfz24_1
     try clear hfz24_2
     try clear hfz24_3
     try clear hfz24_4
     try clear hfz24_5
     try clear hfz34_0
     try clear hfz34_1
     try clear hfz34_2
     try clear hfz34_3
     try clear hfz34_4
     try clear hfz34_5
     try clear hfz38_0
     try clear hfz38_1
     try clear hfz38_2
     try clear hfz38_3
     try clear hfz38_4
     try clear hfz38_5
     try clear hfz44_0
     try clear hfz44_1
     try clear hfz44_2
     try clear hfz44_3
     try clear hfz44_4
     try clear hfz44_5
     try clear hfz46_0
     try clear hfz46_1
     try clear hfz6_0
     try clear hfz6_1
     try clear hfz9_0
     try clear hfz9_1
     try clear hfz9_2
     try clear hfz9_3
     try clear hfz9_4
     try clear hfz9_5
     try clear hx170_0
     try clear hx170_1
     try clear hx170_2
     try clear hx170_3
     try clear hx170_4
     try clear hx170_5
     try clear p1
     try clear p170
     try clear p2
     try clear q1
     try clear q170
     obtain ⟨x3_2,x8_2,rfl,HA,HK2,HO_3,HO_6,HO_7,BK169,HB⟩ := hrel
     cases gk with
     | zero => exact absurd HA.out (by simp [rf_binds.l1])
     | succ k2 =>
      have H := HA.out
      clear HA
      simp only [rf_binds.l1] at H
      by_cases c48 : x8_2 < (l0_1.length : Int)
      ·rw [if_pos c48] at H
       have c48b0 : decide (x8_2 < (l0_1.length : Int)) = true := decide_eq_true c48
       clear c48
       have H' := Aside0.mk H
       clear H
       have hcz49_0 : wr.cell? ⟨gb169,0,none⟩ = some (.slice A0_0 l0_0.length c0_0) := (blk_cell BK169.out 0).trans rfl
       have hcz49_1 : wr.cell? ⟨gb169,1,none⟩ = some (.slice A0_1 l0_1.length c0_1) := (blk_cell BK169.out 1).trans rfl
       have hfz49_0 := blk_frozen BK169.out 0
       have hfz49_1 := blk_frozen BK169.out 1
       go_wp2
       go_loopg [3,9] k2 (fun kq v3 v9 w' => ∃ (x3_3 : List (S27)) (x9_3 : Int),v9 = .int .i64 x9_3 ∧ Aside0 (rf_binds.l2 kq x3_3 t190 t193 x8_2 x9_3 l0_0 l0_1 = some r) ∧ Aside0 (kq ≤ k2) ∧ Aside0 (Kd.R k27 27 w' w.heap.size (fun _ => True) v3 x3_3) ∧ Aside0 (Kd.R (Kd.int .i64) 3 w' w.heap.size (fun k_ => some k_ ≠ (v194 : Value).ownBlock) v191 t190) ∧ Aside0 (Kd.R (Kd.int .i64) 3 w' w.heap.size (fun k_ => some k_ ≠ (v191 : Value).ownBlock) v194 t193) ∧ Aside0 (w'.heap[gb169]? = some (.cells #[(.slice A0_0 l0_0.length c0_0),(.slice A0_1 l0_1.length c0_1)] 25 (0,0))) ∧ Aside0 (Below w.heap.size w w'))
       case atStart => exact ⟨(x3_2),(wrap64 (x8_2 + 1)),(by first | rfl | (simp; done) | (simp [*]; done)),H',⟨Nat.le_refl _⟩,⟨by (with_reducible repeat (first | apply Kd.R_alloc | apply Kd.R_drewN | apply Kd.R_drew)); exact HO_3.out⟩,⟨by (with_reducible repeat (first | apply Kd.R_alloc | apply Kd.R_drewN | apply Kd.R_drew)); exact HO_6.out⟩,⟨by (with_reducible repeat (first | apply Kd.R_alloc | apply Kd.R_drewN | apply Kd.R_drew)); exact HO_7.out⟩,⟨by (with_reducible repeat (first | refine blk_drewN ?_ _ | refine blk_drew ?_ | refine blk_alloc ?_ _)); exact BK169.out⟩,⟨by repeat (first | (with_reducible first | exact HB.out | apply below_alloc | apply pw_below_drewN | apply below_drew1 | refine below_set ?_ GE169.out) | exact HB.out)⟩⟩
       case round =>
        clear H'
        try clear c1
        try clear p1
        try clear q1
        try clear hx1
        try clear c2
        try clear p2
        try clear c3
        try clear c3b0
        try clear c4
        try clear c4b0
        try clear c6
        try clear p6
        try clear c7
        try clear c8
        try clear c10
        try clear c10b0
        try clear c10b1
        try clear c11
        try clear c13
        try clear c15
        try clear c16
        try clear c17
        try clear c17b0
        try clear c17b1
        try clear p17
        try clear q17
        try clear hx17
        try clear c18
        try clear c23
        try clear c33
        try clear c35
        try clear c35b0
        try clear c35b1
        try clear c36
        try clear c37
        try clear c43
        try clear c48
        try clear c48b0
        try clear hcz12_0
        try clear hcz12_1
        try clear hcz12_2
        try clear hcz12_3
        try clear hcz12_4
        try clear hcz12_5
        try clear hcz14_0
        try clear hcz14_1
        try clear hcz14_2
        try clear hcz14_3
        try clear hcz14_4
        try clear hcz14_5
        try clear hcz24_0
        try clear hcz24_1
        try clear hcz24_2
        try clear hcz24_3
        try clear hcz24_4
        try clear hcz24_5
        try clear hcz34_0
        try clear hcz34_1
        try clear hcz34_2
        try clear hcz34_3
        try clear hcz34_4
        try clear hcz34_5
        try clear hcz38_0
        try clear hcz38_1
        try clear hcz38_2
        try clear hcz38_3
        try clear hcz38_4
        try clear hcz38_5
        try clear hcz44_0
        try clear hcz44_1
        try clear hcz44_2
        try clear hcz44_3
        try clear hcz44_4
        try clear hcz44_5
        try clear hcz46_0
        try clear hcz46_1
        try clear hcz49_0
        try clear hcz49_1
        try clear hcz6_0
        try clear hcz6_1
        try clear hcz9_0
        try clear hcz9_1
        try clear hcz9_2
        try clear hcz9_3
        try clear hcz9_4
        try clear hcz9_5
        try clear hfz12_0
        try clear hfz12_1
        try clear hfz12_2
        try clear hfz12_3
        try clear hfz12_4
        try clear hfz12_5
        try clear hfz14_0
        try clear hfz14_1
        try clear hfz14_2
        try clear hfz14_3
        try clear hfz14_4
        try clear hfz14_5
        try clear hfz24_0
        try clear hfz24_1
        try clear hfz24_2
        try clear hfz24_3
        try clear hfz24_4
        try clear hfz24_5
        try clear hfz34_0
        try clear hfz34_1
        try clear hfz34_2
        try clear hfz34_3
        try clear hfz34_4
        try clear hfz34_5
        try clear hfz38_0
        try clear hfz38_1
        try clear hfz38_2
        try clear hfz38_3
        try clear hfz38_4
        try clear hfz38_5
        try clear hfz44_0
        try clear hfz44_1
        try clear hfz44_2
        try clear hfz44_3
        try clear hfz44_4
        try clear hfz44_5
        try clear hfz46_0
        try clear hfz46_1
        try clear hfz49_0
        try clear hfz49_1
        try clear hfz6_0
        try clear hfz6_1
        try clear hfz9_0
        try clear hfz9_1
        try clear hfz9_2
        try clear hfz9_3
        try clear hfz9_4
        try clear hfz9_5
        try clear hx170_0
        try clear hx170_1
        try clear hx170_2
        try clear hx170_3
        try clear hx170_4
        try clear hx170_5
        try clear p1
        try clear p17
        try clear p170
        try clear p2
        try clear p6
        try clear q1
        try clear q17
        try clear q170
        obtain ⟨x3_3,x9_3,rfl,HA,HK3,HO_3,HO_6,HO_7,BK169,HB⟩ := hrel
        cases gk with
        | zero => exact absurd HA.out (by simp [rf_binds.l2])
        | succ k3 =>
         have H := HA.out
         clear HA
         simp only [rf_binds.l2] at H
         by_cases c50 : x9_3 < (l0_1.length : Int)
         ·rw [if_pos c50] at H
          have c50b0 : decide (x9_3 < (l0_1.length : Int)) = true := decide_eq_true c50
          clear c50
          by_cases c51 : 0 ≤ x8_2
          ·rw [if_pos c51] at H
           have c51b0 : decide (0 ≤ x8_2) = true := decide_eq_true c51
           clear c51
           by_cases c52 : x8_2 < (t190.length : Int)
           ·rw [if_pos c52] at H
            have c52b0 : decide (x8_2 < (t190.length : Int)) = true := decide_eq_true c52
            clear c52
            by_cases c53 : 0 ≤ x9_3
            ·rw [if_pos c53] at H
             have c53b0 : decide (0 ≤ x9_3) = true := decide_eq_true c53
             clear c53
             by_cases c54 : x9_3 < (t190.length : Int)
             ·rw [if_pos c54] at H
              have c54b0 : decide (x9_3 < (t190.length : Int)) = true := decide_eq_true c54
              clear c54
              by_cases c55 : (rd t190 x8_2) = (rd t190 x9_3)
              ·rw [if_pos c55] at H
               have c55b0 : ((rd t190 x8_2) == (rd t190 x9_3)) = true := beq_iff_eq.mpr c55
               have c55b1 : ((rd t190 x8_2) != (rd t190 x9_3)) = false := bne_eq_false_iff_eq.mpr c55
               clear c55
               by_cases c56 : x9_3 < (t193.length : Int)
               ·rw [if_pos c56] at H
                have c56b0 : decide (x9_3 < (t193.length : Int)) = true := decide_eq_true c56
                clear c56
                by_cases c57 : x8_2 < (t193.length : Int)
                ·rw [if_pos c57] at H
                 have c57b0 : decide (x8_2 < (t193.length : Int)) = true := decide_eq_true c57
                 clear c57
                 by_cases c58 : (rd t193 x9_3) < (rd t193 x8_2)
                 ·rw [if_pos c58] at H
                  have c58b0 : decide ((rd t193 x9_3) < (rd t193 x8_2)) = true := decide_eq_true c58
                  clear c58
                  by_cases c59 : x8_2 < (l0_1.length : Int)
                  ·rw [if_pos c59] at H
                   have c59b0 : decide (x8_2 < (l0_1.length : Int)) = true := decide_eq_true c59
                   clear c59
                   by_cases c60 : 0 ≤ ((rd_T80 l0_1 x8_2).f0)
                   ·rw [if_pos c60] at H
                    have c60b0 : decide (0 ≤ ((rd_T80 l0_1 x8_2).f0)) = true := decide_eq_true c60
                    clear c60
                    by_cases c61 : ((rd_T80 l0_1 x8_2).f0) < (l0_0.length : Int)
                    ·rw [if_pos c61] at H
                     have c61b0 : decide (((rd_T80 l0_1 x8_2).f0) < (l0_0.length : Int)) = true := decide_eq_true c61
                     clear c61
                     by_cases c62 : ((rd_T42 l0_0 ((rd_T80 l0_1 x8_2).f0)).f0) = 0
                     ·rw [if_pos c62] at H
                      exact absurd H (by simp)
                     ·rw [if_neg c62] at H
                      have c62b0 : (((rd_T42 l0_0 ((rd_T80 l0_1 x8_2).f0)).f0) == 0) = false := beq_eq_false_iff_ne.mpr c62
                      have c62b1 : (((rd_T42 l0_0 ((rd_T80 l0_1 x8_2).f0)).f0) != 0) = true := bne_iff_ne.mpr c62
                      replace H := Option.bind_eq_some_iff.mp H
                      obtain ⟨t205,A630,H⟩ := H
                      replace H : ((some (([(⟨x9_3,x8_2,wrap64 (Int.tdiv (wrap64 ((rd t193 x8_2) - (rd t193 x9_3))) ((rd_T42 l0_0 ((rd_T80 l0_1 x8_2).f0)).f0))⟩ : S27),(⟨x8_2,x9_3,wrap64 (-t205)⟩ : S27)] : List (S27)) : List (S27))).bind fun y206 => (if x3_3.length + y206.length < 5864062014805 then (rf_binds.l2 k3 (x3_3 ++ y206) t190 t193 x8_2 (wrap64 (x9_3 + 1)) l0_0 l0_1) else (none))) = some r := H
                      have A63 := Aside0.mk A630
                      clear A630
                      obtain ⟨y206,hy206⟩ : ∃ y_ : List (S27),y_ = (([(⟨x9_3,x8_2,wrap64 (Int.tdiv (wrap64 ((rd t193 x8_2) - (rd t193 x9_3))) ((rd_T42 l0_0 ((rd_T80 l0_1 x8_2).f0)).f0))⟩ : S27),(⟨x8_2,x9_3,wrap64 (-t205)⟩ : S27)] : List (S27))) := ⟨_,rfl⟩
                      replace H : (if x3_3.length + y206.length < 5864062014805 then (rf_binds.l2 k3 (x3_3 ++ y206) t190 t193 x8_2 (wrap64 (x9_3 + 1)) l0_0 l0_1) else (none)) = some r := by first | (rw [hy206]; with_reducible exact H) | (have H2_ := (Option.bind_some _ _).symm.trans H; rw [hy206]; with_reducible exact H2_) | (have H2_ := (Option.bind_some _ _).symm.trans H; with_reducible exact H2_) | with_reducible exact H | (rw [hy206]; exact H) | exact H
                      have Ny206 := Aside0.mk hy206
                      clear hy206
                      by_cases c64 : x3_3.length + y206.length < 5864062014805
                      ·rw [if_pos c64] at H
                       have LMc64 := Aside0.mk c64
                       clear c64
                       obtain ⟨y209,hy209⟩ : ∃ y_ : List (S27),y_ = (x3_3 ++ y206) := ⟨_,rfl⟩
                       replace H : (rf_binds.l2 k3 y209 t190 t193 x8_2 (wrap64 (x9_3 + 1)) l0_0 l0_1) = some r := by first | (rw [hy209]; with_reducible exact H) | (have H2_ := (Option.bind_some _ _).symm.trans H; rw [hy209]; with_reducible exact H2_) | (have H2_ := (Option.bind_some _ _).symm.trans H; with_reducible exact H2_) | with_reducible exact H | (rw [hy209]; exact H) | exact H
                       have Ny209 := Aside0.mk hy209
                       clear hy209
                       have H' := Aside0.mk H
                       clear H
                       have hcz65_0 : wr.cell? ⟨gb169,0,none⟩ = some (.slice A0_0 l0_0.length c0_0) := (blk_cell BK169.out 0).trans rfl
                       have hcz65_1 : wr.cell? ⟨gb169,1,none⟩ = some (.slice A0_1 l0_1.length c0_1) := (blk_cell BK169.out 1).trans rfl
                       have hfz65_0 := blk_frozen BK169.out 0
                       have hfz65_1 := blk_frozen BK169.out 1
                       try go_wp2
                       have n0_ := Aside0.mk (Kd.R_drew HO_3.out)
                       have n1_ := Aside0.mk (Kd.R_drew HO_6.out)
                       have n2_ := Aside0.mk (Kd.R_drew HO_7.out)
                       have n3_ := Aside0.mk (blk_drew BK169.out)
                       have n4_ := Aside0.mk (below_drew1 HB.out)
                       clear HO_3
                       clear HO_6
                       clear HO_7
                       clear BK169
                       clear HB
                       have HO_3 := n0_
                       have HO_6 := n1_
                       have HO_7 := n2_
                       have BK169 := n3_
                       have HB := n4_
                       clear n0_ n1_ n2_ n3_ n4_
                       obtain ⟨Ao67,co67,eo67⟩ := Kd.R_slice HO_6.out
                       (first | subst eo67 | (injection eo67 with f1_ f2_ f3_; have f4_ := f1_.symm; have f5_ := f3_.symm; clear f1_ f2_ f3_; subst f4_; subst f5_))
                       have p196 : 0 ≤ (x8_2 : Int) := of_decide_eq_true (by first | (with_reducible assumption) | assumption)
                       have q196 : x8_2 < (t190.length : Int) := of_decide_eq_true (by first | (with_reducible assumption) | assumption)
                       obtain ⟨ad196,e196,hx196_0⟩ := Kd.at_int (Kd.R_reads' HO_6.out).2.2 x8_2 p196 q196
                       cases e196
                       replace p196 := eq_true p196
                       replace q196 := eq_true q196
                       have p197 : 0 ≤ (x9_3 : Int) := of_decide_eq_true (by first | (with_reducible assumption) | assumption)
                       have q197 : x9_3 < (t190.length : Int) := of_decide_eq_true (by first | (with_reducible assumption) | assumption)
                       obtain ⟨ad197,e197,hx197_0⟩ := Kd.at_int (Kd.R_reads' HO_6.out).2.2 x9_3 p197 q197
                       obtain rfl : ad196 = ad197 := (by injection e197)
                       replace p197 := eq_true p197
                       replace q197 := eq_true q197
                       refine start_ (n := 9) (S := fun w' => w'.cell? (ad196.add (x8_2).toNat) = some (.int .i64 (rd t190 x8_2)) ∧ w'.cell? (ad196.add (x9_3).toNat) = some (.int .i64 (rd t190 x9_3))) (ds := []) #[false,false,false,false,false,false,false,false,false] (by kernel_rfl) rfl rfl ⟨hx196_0,hx197_0⟩ (fun hHeld => ?_); refine with_tabW rf_binds.tab17 rf_binds.bits17 (fun HT_ HW_ => ?_)
                       generalize wr.drew = w66 at HO_3 HO_6 HO_7 BK169 HB hx196_0 hx197_0 hHeld ⊢
                       refine pure_ (i := 0) (N := some 81) (v := ?_) (a' := ?_) #[true,false,false,false,false,false,false,false,false] rfl rfl (any_of HT_.out (by kernel_rfl)) (fun _ _ _ h => h) (Or.inl ⟨by rfl,?_⟩) ?_ ?_
                       rotate_left
                       ·intro w'
                        go_simp
                        with_reducible rfl
                       rotate_left
                       ·simp only [Act.put,List.setIfInBounds_toArray,List.set_cons_zero,List.set_cons_succ,i64_w,i32_w]
                        rfl
                       refine pure_ (i := 1) (N := some 82) (v := ?_) (a' := ?_) #[true,true,false,false,false,false,false,false,false] rfl rfl (any_of HT_.out (by kernel_rfl)) (fun _ _ _ h => h) (Or.inl ⟨by rfl,?_⟩) ?_ ?_
                       rotate_left
                       ·intro w'
                        go_simp
                        with_reducible rfl
                       rotate_left
                       ·simp only [Act.put,List.setIfInBounds_toArray,List.set_cons_zero,List.set_cons_succ,i64_w,i32_w]
                        rfl
                       refine pure_ (i := 2) (N := some 83) (v := ?_) (a' := ?_) #[true,true,true,false,false,false,false,false,false] rfl rfl (any_of HT_.out (by kernel_rfl)) (fun _ _ _ h => h) (Or.inl ⟨by rfl,?_⟩) ?_ ?_
                       rotate_left
                       ·intro w'
                        go_simp
                        with_reducible rfl
                       rotate_left
                       ·simp only [Act.put,List.setIfInBounds_toArray,List.set_cons_zero,List.set_cons_succ,i64_w,i32_w]
                        rfl
                       refine pure_ (i := 4) (N := some 85) (v := ?_) (a' := ?_) #[true,true,true,false,true,false,false,false,false] rfl rfl (any_of HT_.out (by kernel_rfl)) (fun _ _ _ h => h) (Or.inl ⟨by rfl,?_⟩) ?_ ?_
                       rotate_left
                       ·intro w'
                        go_simp
                        with_reducible rfl
                       rotate_left
                       ·simp only [Act.put,List.setIfInBounds_toArray,List.set_cons_zero,List.set_cons_succ,i64_w,i32_w]
                        rfl
                       refine pure_ (i := 5) (N := some 86) (v := ?_) (a' := ?_) #[true,true,true,false,true,true,false,false,false] rfl rfl (any_of HT_.out (by kernel_rfl)) (fun _ _ _ h => h) (Or.inl ⟨by rfl,?_⟩) ?_ ?_
                       rotate_left
                       ·intro w'
                        go_simp
                        with_reducible rfl
                       rotate_left
                       ·simp only [Act.put,List.setIfInBounds_toArray,List.set_cons_zero,List.set_cons_succ,i64_w,i32_w]
                        rfl
                       refine pure_ (i := 6) (N := some 87) (v := ?_) (a' := ?_) #[true,true,true,false,true,true,true,false,false] rfl rfl (any_of HT_.out (by kernel_rfl)) (fun _ _ _ h => h) (Or.inl ⟨by rfl,?_⟩) ?_ ?_
                       rotate_left
                       ·intro w'
                        go_simp
                        with_reducible rfl
                       rotate_left
                       ·simp only [Act.put,List.setIfInBounds_toArray,List.set_cons_zero,List.set_cons_succ,i64_w,i32_w]
                        rfl
                       refine take_ (i := 3) (N := some 84) (v := ?_) (a' := ?_) #[true,true,true,true,true,true,true,false,false] rfl rfl (take_ofW HT_.out HW_.out (by kernel_rfl)) (fun _ _ _ h => h) (Or.inl ⟨by rfl,?_⟩) hHeld ?_ ?_
                       rotate_left
                       ·rintro w' ⟨s0,s1⟩
                        go_simp
                        with_reducible rfl
                       rotate_left
                       ·simp only [Act.put,List.setIfInBounds_toArray,List.set_cons_zero,List.set_cons_succ,i64_w,i32_w]
                        rfl
                       refine take_ (i := 7) (N := some 88) (v := ?_) (a' := ?_) #[true,true,true,true,true,true,true,true,false] rfl rfl (take_ofW HT_.out HW_.out (by kernel_rfl)) (fun _ _ _ h => h) (Or.inl ⟨by rfl,?_⟩) hHeld ?_ ?_
                       rotate_left
                       ·rintro w' ⟨s0,s1⟩
                        go_simp
                        with_reducible rfl
                       rotate_left
                       ·simp only [Act.put,List.setIfInBounds_toArray,List.set_cons_zero,List.set_cons_succ,i64_w,i32_w]
                        rfl
                       refine pure_ (i := 8) (N := some 89) (v := ?_) (a' := ?_) #[true,true,true,true,true,true,true,true,true] rfl rfl (any_of HT_.out (by kernel_rfl)) (fun _ _ _ h => h) (Or.inl ⟨by rfl,?_⟩) ?_ ?_
                       rotate_left
                       ·intro w'
                        go_simp
                        with_reducible rfl
                       rotate_left
                       ·simp only [Act.put,List.setIfInBounds_toArray,List.set_cons_zero,List.set_cons_succ,i64_w,i32_w]
                        rfl
                       refine done_ (done_of HT_.out (by kernel_rfl)) ?_
                       try go_wp2
                       have n0_ := Aside0.mk (Kd.R_drew HO_3.out)
                       have n1_ := Aside0.mk (Kd.R_drew HO_6.out)
                       have n2_ := Aside0.mk (Kd.R_drew HO_7.out)
                       have n3_ := Aside0.mk (blk_drew BK169.out)
                       have n4_ := Aside0.mk (below_drew1 HB.out)
                       clear HO_3
                       clear HO_6
                       clear HO_7
                       clear BK169
                       clear HB
                       have HO_3 := n0_
                       have HO_6 := n1_
                       have HO_7 := n2_
                       have BK169 := n3_
                       have HB := n4_
                       clear n0_ n1_ n2_ n3_ n4_
                       obtain ⟨Ao69,co69,eo69⟩ := Kd.R_slice HO_7.out
                       (first | subst eo69 | (injection eo69 with f1_ f2_ f3_; have f4_ := f1_.symm; have f5_ := f3_.symm; clear f1_ f2_ f3_; subst f4_; subst f5_))
                       have p198 : 0 ≤ (x9_3 : Int) := of_decide_eq_true (by first | (with_reducible assumption) | assumption)
                       have q198 : x9_3 < (t193.length : Int) := of_decide_eq_true (by first | (with_reducible assumption) | assumption)
                       obtain ⟨ad198,e198,hx198_0⟩ := Kd.at_int (Kd.R_reads' HO_7.out).2.2 x9_3 p198 q198
                       cases e198
                       replace p198 := eq_true p198
                       replace q198 := eq_true q198
                       have p199 : 0 ≤ (x8_2 : Int) := of_decide_eq_true (by first | (with_reducible assumption) | assumption)
                       have q199 : x8_2 < (t193.length : Int) := of_decide_eq_true (by first | (with_reducible assumption) | assumption)
                       obtain ⟨ad199,e199,hx199_0⟩ := Kd.at_int (Kd.R_reads' HO_7.out).2.2 x8_2 p199 q199
                       obtain rfl : ad198 = ad199 := (by injection e199)
                       replace p199 := eq_true p199
                       replace q199 := eq_true q199
                       refine start_ (n := 9) (S := fun w' => w'.cell? (ad198.add (x9_3).toNat) = some (.int .i64 (rd t193 x9_3)) ∧ w'.cell? (ad198.add (x8_2).toNat) = some (.int .i64 (rd t193 x8_2))) (ds := []) #[false,false,false,false,false,false,false,false,false] (by kernel_rfl) rfl rfl ⟨hx198_0,hx199_0⟩ (fun hHeld => ?_); refine with_tabW rf_binds.tab20 rf_binds.bits20 (fun HT_ HW_ => ?_)
                       generalize w66.drew = w68 at HO_3 HO_6 HO_7 BK169 HB hx198_0 hx199_0 hHeld ⊢
                       refine pure_ (i := 0) (N := some 92) (v := ?_) (a' := ?_) #[true,false,false,false,false,false,false,false,false] rfl rfl (any_of HT_.out (by kernel_rfl)) (fun _ _ _ h => h) (Or.inl ⟨by rfl,?_⟩) ?_ ?_
                       rotate_left
                       ·intro w'
                        go_simp
                        with_reducible rfl
                       rotate_left
                       ·simp only [Act.put,List.setIfInBounds_toArray,List.set_cons_zero,List.set_cons_succ,i64_w,i32_w]
                        rfl
                       refine pure_ (i := 1) (N := some 93) (v := ?_) (a' := ?_) #[true,true,false,false,false,false,false,false,false] rfl rfl (any_of HT_.out (by kernel_rfl)) (fun _ _ _ h => h) (Or.inl ⟨by rfl,?_⟩) ?_ ?_
                       rotate_left
                       ·intro w'
                        go_simp
                        with_reducible rfl
                       rotate_left
                       ·simp only [Act.put,List.setIfInBounds_toArray,List.set_cons_zero,List.set_cons_succ,i64_w,i32_w]
                        rfl
                       refine pure_ (i := 2) (N := some 94) (v := ?_) (a' := ?_) #[true,true,true,false,false,false,false,false,false] rfl rfl (any_of HT_.out (by kernel_rfl)) (fun _ _ _ h => h) (Or.inl ⟨by rfl,?_⟩) ?_ ?_
                       rotate_left
                       ·intro w'
                        go_simp
                        with_reducible rfl
                       rotate_left
                       ·simp only [Act.put,List.setIfInBounds_toArray,List.set_cons_zero,List.set_cons_succ,i64_w,i32_w]
                        rfl
                       refine pure_ (i := 4) (N := some 96) (v := ?_) (a' := ?_) #[true,true,true,false,true,false,false,false,false] rfl rfl (any_of HT_.out (by kernel_rfl)) (fun _ _ _ h => h) (Or.inl ⟨by rfl,?_⟩) ?_ ?_
                       rotate_left
                       ·intro w'
                        go_simp
                        with_reducible rfl
                       rotate_left
                       ·simp only [Act.put,List.setIfInBounds_toArray,List.set_cons_zero,List.set_cons_succ,i64_w,i32_w]
                        rfl
                       refine pure_ (i := 5) (N := some 97) (v := ?_) (a' := ?_) #[true,true,true,false,true,true,false,false,false] rfl rfl (any_of HT_.out (by kernel_rfl)) (fun _ _ _ h => h) (Or.inl ⟨by rfl,?_⟩) ?_ ?_
                       rotate_left
                       ·intro w'
                        go_simp
                        with_reducible rfl
                       rotate_left
                       ·simp only [Act.put,List.setIfInBounds_toArray,List.set_cons_zero,List.set_cons_succ,i64_w,i32_w]
                        rfl
                       refine pure_ (i := 6) (N := some 98) (v := ?_) (a' := ?_) #[true,true,true,false,true,true,true,false,false] rfl rfl (any_of HT_.out (by kernel_rfl)) (fun _ _ _ h => h) (Or.inl ⟨by rfl,?_⟩) ?_ ?_
                       rotate_left
                       ·intro w'
                        go_simp
                        with_reducible rfl
                       rotate_left
                       ·simp only [Act.put,List.setIfInBounds_toArray,List.set_cons_zero,List.set_cons_succ,i64_w,i32_w]
                        rfl
                       refine take_ (i := 3) (N := some 95) (v := ?_) (a' := ?_) #[true,true,true,true,true,true,true,false,false] rfl rfl (take_ofW HT_.out HW_.out (by kernel_rfl)) (fun _ _ _ h => h) (Or.inl ⟨by rfl,?_⟩) hHeld ?_ ?_
                       rotate_left
                       ·rintro w' ⟨s0,s1⟩
                        go_simp
                        with_reducible rfl
                       rotate_left
                       ·simp only [Act.put,List.setIfInBounds_toArray,List.set_cons_zero,List.set_cons_succ,i64_w,i32_w]
                        rfl
                       refine take_ (i := 7) (N := some 99) (v := ?_) (a' := ?_) #[true,true,true,true,true,true,true,true,false] rfl rfl (take_ofW HT_.out HW_.out (by kernel_rfl)) (fun _ _ _ h => h) (Or.inl ⟨by rfl,?_⟩) hHeld ?_ ?_
                       rotate_left
                       ·rintro w' ⟨s0,s1⟩
                        go_simp
                        with_reducible rfl
                       rotate_left
                       ·simp only [Act.put,List.setIfInBounds_toArray,List.set_cons_zero,List.set_cons_succ,i64_w,i32_w]
                        rfl
                       refine pure_ (i := 8) (N := some 100) (v := ?_) (a' := ?_) #[true,true,true,true,true,true,true,true,true] rfl rfl (any_of HT_.out (by kernel_rfl)) (fun _ _ _ h => h) (Or.inl ⟨by rfl,?_⟩) ?_ ?_
                       rotate_left
                       ·intro w'
                        go_simp
                        with_reducible rfl
                       rotate_left
                       ·simp only [Act.put,List.setIfInBounds_toArray,List.set_cons_zero,List.set_cons_succ,i64_w,i32_w]
                        rfl
                       refine done_ (done_of HT_.out (by kernel_rfl)) ?_
                       try go_wp2
                       have n0_ := Aside0.mk (Kd.R_drew HO_3.out)
                       have n1_ := Aside0.mk (Kd.R_drew HO_6.out)
                       have n2_ := Aside0.mk (Kd.R_drew HO_7.out)
                       have n3_ := Aside0.mk (blk_drew BK169.out)
                       have n4_ := Aside0.mk (below_drew1 HB.out)
                       clear HO_3
                       clear HO_6
                       clear HO_7
                       clear BK169
                       clear HB
                       have HO_3 := n0_
                       have HO_6 := n1_
                       have HO_7 := n2_
                       have BK169 := n3_
                       have HB := n4_
                       clear n0_ n1_ n2_ n3_ n4_
                       have p200 : 0 ≤ (x8_2 : Int) := of_decide_eq_true (by first | (with_reducible assumption) | assumption)
                       have q200 : x8_2 < (l0_1.length : Int) := of_decide_eq_true (by first | (with_reducible assumption) | assumption)
                       obtain ⟨ad200,e200,hx200_0,hx200_1,hx200_2,hx200_3,hx200_4,hx200_5⟩ := at_T80 HR0_1.out x8_2 p200 q200
                       have hw200_5 := hx200_5
                       have hw200_4 := hx200_4
                       have hw200_3 := hx200_3
                       have hw200_2 := hx200_2
                       have hw200_1 := hx200_1
                       have hw200_0 := hx200_0
                       cases e200
                       replace hx200_0 := (HB.out.cell (World.block_lt_of_cell? w _ hx200_0)).trans hx200_0
                       replace hx200_1 := (HB.out.cell (World.block_lt_of_cell? w _ hx200_1)).trans hx200_1
                       replace hx200_2 := (HB.out.cell (World.block_lt_of_cell? w _ hx200_2)).trans hx200_2
                       replace hx200_3 := (HB.out.cell (World.block_lt_of_cell? w _ hx200_3)).trans hx200_3
                       replace hx200_4 := (HB.out.cell (World.block_lt_of_cell? w _ hx200_4)).trans hx200_4
                       replace hx200_5 := (HB.out.cell (World.block_lt_of_cell? w _ hx200_5)).trans hx200_5
                       replace p200 := eq_true p200
                       replace q200 := eq_true q200
                       have p201 : 0 ≤ (((rd_T80 l0_1 x8_2).f0) : Int) := of_decide_eq_true (by first | (with_reducible assumption) | assumption)
                       have q201 : ((rd_T80 l0_1 x8_2).f0) < (l0_0.length : Int) := of_decide_eq_true (by first | (with_reducible assumption) | assumption)
                       obtain ⟨ad201,e201,hx201_0,hx201_1⟩ := at_T42 HR0_0.out ((rd_T80 l0_1 x8_2).f0) p201 q201
                       have hw201_1 := hx201_1
                       have hw201_0 := hx201_0
                       cases e201
                       replace hx201_0 := (HB.out.cell (World.block_lt_of_cell? w _ hx201_0)).trans hx201_0
                       replace hx201_1 := (HB.out.cell (World.block_lt_of_cell? w _ hx201_1)).trans hx201_1
                       replace p201 := eq_true p201
                       replace q201 := eq_true q201
                       refine start_ (n := 12) (S := fun w' => w'.cell? ⟨gb169,0,none⟩ = some (.slice (some ad201) l0_0.length c0_0) ∧ w'.cell? ⟨gb169,1,none⟩ = some (.slice (some ad200) l0_1.length c0_1) ∧ w'.cell? (ad200.add ((x8_2).toNat * 6)) = some (.int .i64 ((rd_T80 l0_1 x8_2).f0)) ∧ w'.cell? ⟨(ad200.add ((x8_2).toNat * 6)).block,(ad200.add ((x8_2).toNat * 6)).off + 1,none⟩ = some (.int .i64 ((rd_T80 l0_1 x8_2).f1)) ∧ w'.cell? ⟨(ad200.add ((x8_2).toNat * 6)).block,(ad200.add ((x8_2).toNat * 6)).off + 2,none⟩ = some (.int .i64 ((rd_T80 l0_1 x8_2).f2)) ∧ w'.cell? ⟨(ad200.add ((x8_2).toNat * 6)).block,(ad200.add ((x8_2).toNat * 6)).off + 3,none⟩ = some (.int .i64 ((rd_T80 l0_1 x8_2).f3)) ∧ w'.cell? ⟨(ad200.add ((x8_2).toNat * 6)).block,(ad200.add ((x8_2).toNat * 6)).off + 4,none⟩ = some (.int .i64 ((rd_T80 l0_1 x8_2).f4)) ∧ w'.cell? ⟨(ad200.add ((x8_2).toNat * 6)).block,(ad200.add ((x8_2).toNat * 6)).off + 5,none⟩ = some (.int .i64 ((rd_T80 l0_1 x8_2).f5)) ∧ w'.cell? (ad201.add ((((rd_T80 l0_1 x8_2).f0)).toNat * 2)) = some (.int .i64 ((rd_T42 l0_0 ((rd_T80 l0_1 x8_2).f0)).f0)) ∧ w'.cell? ⟨(ad201.add ((((rd_T80 l0_1 x8_2).f0)).toNat * 2)).block,(ad201.add ((((rd_T80 l0_1 x8_2).f0)).toNat * 2)).off + 1,none⟩ = some (.int .i64 ((rd_T42 l0_0 ((rd_T80 l0_1 x8_2).f0)).f1))) (ds := []) #[false,false,false,false,false,false,false,false,false,false,false,false] (by kernel_rfl) rfl rfl ⟨(blk_cell BK169.out 0).trans rfl,(blk_cell BK169.out 1).trans rfl,((HB.out.cell (World.block_lt_of_cell? w _ hw200_0)).trans hw200_0),((HB.out.cell (World.block_lt_of_cell? w _ hw200_1)).trans hw200_1),((HB.out.cell (World.block_lt_of_cell? w _ hw200_2)).trans hw200_2),((HB.out.cell (World.block_lt_of_cell? w _ hw200_3)).trans hw200_3),((HB.out.cell (World.block_lt_of_cell? w _ hw200_4)).trans hw200_4),((HB.out.cell (World.block_lt_of_cell? w _ hw200_5)).trans hw200_5),((HB.out.cell (World.block_lt_of_cell? w _ hw201_0)).trans hw201_0),((HB.out.cell (World.block_lt_of_cell? w _ hw201_1)).trans hw201_1)⟩ (fun hHeld => ?_); refine with_tabW rf_binds.tab23 rf_binds.bits23 (fun HT_ HW_ => ?_)
                       generalize w68.drew = w70 at HO_3 HO_6 HO_7 BK169 HB hx200_0 hx200_1 hx200_2 hx200_3 hx200_4 hx200_5 hx201_0 hx201_1 hHeld ⊢
                       refine pure_ (i := 0) (N := some 103) (v := ?_) (a' := ?_) #[true,false,false,false,false,false,false,false,false,false,false,false] rfl rfl (any_of HT_.out (by kernel_rfl)) (fun _ _ _ h => h) (Or.inl ⟨by rfl,?_⟩) ?_ ?_
                       rotate_left
                       ·intro w'
                        go_simp
                        with_reducible rfl
                       rotate_left
                       ·simp only [Act.put,List.setIfInBounds_toArray,List.set_cons_zero,List.set_cons_succ,i64_w,i32_w]
                        rfl
                       refine pure_ (i := 2) (N := some 105) (v := ?_) (a' := ?_) #[true,false,true,false,false,false,false,false,false,false,false,false] rfl rfl (any_of HT_.out (by kernel_rfl)) (fun _ _ _ h => h) (Or.inl ⟨by rfl,?_⟩) ?_ ?_
                       rotate_left
                       ·intro w'
                        go_simp
                        with_reducible rfl
                       rotate_left
                       ·simp only [Act.put,List.setIfInBounds_toArray,List.set_cons_zero,List.set_cons_succ,i64_w,i32_w]
                        rfl
                       refine pure_ (i := 4) (N := some 107) (v := ?_) (a' := ?_) #[true,false,true,false,true,false,false,false,false,false,false,false] rfl rfl (any_of HT_.out (by kernel_rfl)) (fun _ _ _ h => h) (Or.inl ⟨by rfl,?_⟩) ?_ ?_
                       rotate_left
                       ·intro w'
                        go_simp
                        with_reducible rfl
                       rotate_left
                       ·simp only [Act.put,List.setIfInBounds_toArray,List.set_cons_zero,List.set_cons_succ,i64_w,i32_w]
                        rfl
                       refine take_ (i := 1) (N := some 104) (v := ?_) (a' := ?_) #[true,true,true,false,true,false,false,false,false,false,false,false] rfl rfl (take_ofW HT_.out HW_.out (by kernel_rfl)) (fun _ _ _ h => h) (Or.inl ⟨by rfl,?_⟩) hHeld ?_ ?_
                       rotate_left
                       ·rintro w' ⟨s0,s1,s2,s3,s4,s5,s6,s7,s8,s9⟩
                        go_simp
                        with_reducible rfl
                       rotate_left
                       ·simp only [Act.put,List.setIfInBounds_toArray,List.set_cons_zero,List.set_cons_succ,i64_w,i32_w]
                        rfl
                       refine take_ (i := 3) (N := some 106) (v := ?_) (a' := ?_) #[true,true,true,true,true,false,false,false,false,false,false,false] rfl rfl (take_ofW HT_.out HW_.out (by kernel_rfl)) (fun _ _ _ h => h) (Or.inl ⟨by rfl,?_⟩) hHeld ?_ ?_
                       rotate_left
                       ·rintro w' ⟨s0,s1,s2,s3,s4,s5,s6,s7,s8,s9⟩
                        go_simp
                        with_reducible rfl
                       rotate_left
                       ·simp only [Act.put,List.setIfInBounds_toArray,List.set_cons_zero,List.set_cons_succ,i64_w,i32_w]
                        rfl
                       refine pure_ (i := 5) (N := some 108) (v := ?_) (a' := ?_) #[true,true,true,true,true,true,false,false,false,false,false,false] rfl rfl (any_of HT_.out (by kernel_rfl)) (fun _ _ _ h => h) (Or.inl ⟨by rfl,?_⟩) ?_ ?_
                       rotate_left
                       ·intro w'
                        go_simp
                        with_reducible rfl
                       rotate_left
                       ·simp only [Act.put,List.setIfInBounds_toArray,List.set_cons_zero,List.set_cons_succ,i64_w,i32_w]
                        rfl
                       refine pure_ (i := 6) (N := some 109) (v := ?_) (a' := ?_) #[true,true,true,true,true,true,true,false,false,false,false,false] rfl rfl (any_of HT_.out (by kernel_rfl)) (fun _ _ _ h => h) (Or.inl ⟨by rfl,?_⟩) ?_ ?_
                       rotate_left
                       ·intro w'
                        go_simp
                        with_reducible rfl
                       rotate_left
                       ·simp only [Act.put,List.setIfInBounds_toArray,List.set_cons_zero,List.set_cons_succ,i64_w,i32_w]
                        rfl
                       refine take_ (i := 7) (N := some 110) (v := ?_) (a' := ?_) #[true,true,true,true,true,true,true,true,false,false,false,false] rfl rfl (take_ofW HT_.out HW_.out (by kernel_rfl)) (fun _ _ _ h => h) (Or.inl ⟨by rfl,?_⟩) hHeld ?_ ?_
                       rotate_left
                       ·rintro w' ⟨s0,s1,s2,s3,s4,s5,s6,s7,s8,s9⟩
                        go_simp
                        with_reducible rfl
                       rotate_left
                       ·simp only [Act.put,List.setIfInBounds_toArray,List.set_cons_zero,List.set_cons_succ,i64_w,i32_w]
                        rfl
                       refine pure_ (i := 8) (N := some 111) (v := ?_) (a' := ?_) #[true,true,true,true,true,true,true,true,true,false,false,false] rfl rfl (any_of HT_.out (by kernel_rfl)) (fun _ _ _ h => h) (Or.inl ⟨by rfl,?_⟩) ?_ ?_
                       rotate_left
                       ·intro w'
                        go_simp
                        with_reducible rfl
                       rotate_left
                       ·simp only [Act.put,List.setIfInBounds_toArray,List.set_cons_zero,List.set_cons_succ,i64_w,i32_w]
                        rfl
                       refine take_ (i := 9) (N := some 112) (v := ?_) (a' := ?_) #[true,true,true,true,true,true,true,true,true,true,false,false] rfl rfl (take_ofW HT_.out HW_.out (by kernel_rfl)) (fun _ _ _ h => h) (Or.inl ⟨by rfl,?_⟩) hHeld ?_ ?_
                       rotate_left
                       ·rintro w' ⟨s0,s1,s2,s3,s4,s5,s6,s7,s8,s9⟩
                        go_simp
                        with_reducible rfl
                       rotate_left
                       ·simp only [Act.put,List.setIfInBounds_toArray,List.set_cons_zero,List.set_cons_succ,i64_w,i32_w]
                        rfl
                       refine one_ (i := 10) (N := some 12) #[true,true,true,true,true,true,true,true,true,true,true,false] rfl rfl (one_of HT_.out (by kernel_rfl)) (by decide) (fun K hK => ?_)
                       refine box_step ?hg (N := 12) ?hd (cs := #[.int .i64 0,.int .i64 0]) (t := 42) ?hr ?_; (case hd => rfl); (case hg => rfl); (case hr => first | (go_simp; done) | (go_simp; rfl))
                       intro gb202 hg w71 hbox hb
                       have n0_ := Aside0.mk (Kd.R_below (by (with_reducible repeat (first | apply Kd.R_alloc | apply Kd.R_drewN | apply Kd.R_drew)); exact HO_3.out) hb)
                       have n1_ := Aside0.mk (Kd.R_below (by (with_reducible repeat (first | apply Kd.R_alloc | apply Kd.R_drewN | apply Kd.R_drew)); exact HO_6.out) hb)
                       have n2_ := Aside0.mk (Kd.R_below (by (with_reducible repeat (first | apply Kd.R_alloc | apply Kd.R_drewN | apply Kd.R_drew)); exact HO_7.out) hb)
                       have n3_ := Aside0.mk (blk_below (g := gb169) (o := .cells #[.slice (some ad201) l0_0.length c0_0,.slice (some ad200) l0_1.length c0_1] 25 (0,0)) (by (with_reducible repeat (first | refine blk_drewN ?_ _ | refine blk_drew ?_ | refine blk_alloc ?_ _)); exact BK169.out) hb)
                       have n4_ := Aside0.mk (below_step (by repeat (first | (with_reducible first | exact HB.out | apply below_alloc | apply pw_below_drewN | apply below_drew1 | refine below_set ?_ GE169.out) | exact HB.out)) hb)
                       have n5_ := Aside0.mk (hbox)
                       have n6_ := Aside0.mk ((by rw [hg]; exact (below_size (by repeat (first | (with_reducible first | exact HB.out | apply below_alloc | apply pw_below_drewN | apply below_drew1 | refine below_set ?_ GE169.out) | exact HB.out))) : w.heap.size ≤ gb202))
                       have n7_ := Aside0.mk ((by rw [hg]; exact (below_size (by repeat (first | (with_reducible first | exact HB.out | apply below_alloc | apply pw_below_drewN | apply below_drew1 | refine below_set ?_ GE169.out) | exact HB.out))) : w.heap.size ≤ gb202))
                       have n8_ := Aside0.mk ((by rw [hg]; exact Nat.ne_of_lt (blk_lt (g := gb169) (o := .cells #[.slice (some ad201) l0_0.length c0_0,.slice (some ad200) l0_1.length c0_1] 25 (0,0)) (by (with_reducible repeat (first | refine blk_drewN ?_ _ | refine blk_drew ?_ | refine blk_alloc ?_ _)); exact BK169.out)) : gb169 ≠ gb202))
                       have n9_ := Aside0.mk ((by rw [hg]; exact Nat.ne_of_gt (blk_lt (g := gb169) (o := .cells #[.slice (some ad201) l0_0.length c0_0,.slice (some ad200) l0_1.length c0_1] 25 (0,0)) (by (with_reducible repeat (first | refine blk_drewN ?_ _ | refine blk_drew ?_ | refine blk_alloc ?_ _)); exact BK169.out)) : gb202 ≠ gb169))
                       clear HO_3
                       clear HO_6
                       clear HO_7
                       clear BK169
                       clear HB
                       have HO_3 := n0_
                       have HO_6 := n1_
                       have HO_7 := n2_
                       have BK169 := n3_
                       have HB := n4_
                       have BK202 := n5_
                       have GW202 := n6_
                       have GE202 := n7_
                       have NB169_202 := n8_
                       have NB202_169 := n9_
                       clear n0_ n1_ n2_ n3_ n4_ n5_ n6_ n7_ n8_ n9_
                       clear hb hbox hg
                       refine hK.out _ _ ⟨(blk_cell BK169.out 0).trans rfl,(blk_cell BK169.out 1).trans rfl,((HB.out.cell (World.block_lt_of_cell? w _ hw200_0)).trans hw200_0),((HB.out.cell (World.block_lt_of_cell? w _ hw200_1)).trans hw200_1),((HB.out.cell (World.block_lt_of_cell? w _ hw200_2)).trans hw200_2),((HB.out.cell (World.block_lt_of_cell? w _ hw200_3)).trans hw200_3),((HB.out.cell (World.block_lt_of_cell? w _ hw200_4)).trans hw200_4),((HB.out.cell (World.block_lt_of_cell? w _ hw200_5)).trans hw200_5),((HB.out.cell (World.block_lt_of_cell? w _ hw201_0)).trans hw201_0),((HB.out.cell (World.block_lt_of_cell? w _ hw201_1)).trans hw201_1)⟩ (fun hHeld => ?_)
                       clear hK K
                       refine norm_ (a' := ?_) ?_ ?_
                       rotate_left
                       ·show Act.put _ (some 12) _ = _
                        simp only [Act.put,List.setIfInBounds_toArray,List.set_cons_zero,List.set_cons_succ,i64_w,i32_w]
                        rfl
                       refine one_ (i := 11) (N := none) #[true,true,true,true,true,true,true,true,true,true,true,true] rfl rfl (one_of HT_.out (by kernel_rfl)) (by decide) (fun K hK => ?_)
                       have hs72 : w71.cell? ⟨gb202,0,none⟩ = some (.int .i64 0) := (blk_cell BK202.out 0).trans rfl
                       have hfs72 := blk_frozen BK202.out 0
                       have hns72_0 := NB169_202.out
                       have hms72_0 := NB202_169.out
                       have hs73 : w71.cell? ⟨gb202,1,none⟩ = some (.int .i64 0) := (blk_cell BK202.out 1).trans rfl
                       have hfs73 := blk_frozen BK202.out 1
                       have hns73_0 := NB169_202.out
                       have hms73_0 := NB202_169.out
                       refine skip_ (w1 := ?_) (by rfl) rfl ?_ ?_
                       rotate_left
                       ·go_simp
                        rfl
                       refine hK.out _ _ ⟨((cell_far (p := ⟨gb202,_,none⟩) NB169_202.out _).trans (((cell_far (p := ⟨gb202,_,none⟩) NB169_202.out _).trans (hHeld.1)))),((cell_far (p := ⟨gb202,_,none⟩) NB169_202.out _).trans (((cell_far (p := ⟨gb202,_,none⟩) NB169_202.out _).trans (hHeld.2.1)))),((cell_far (p := ⟨gb202,_,none⟩) (by first | exact Nat.ne_of_lt (Nat.lt_of_lt_of_le (by have := World.block_lt_of_cell? _ _ hw200_0; first | rwa [add_block] at this | exact this) GW202.out) | (rw [add_block]; exact Nat.ne_of_lt (Nat.lt_of_lt_of_le (by have := World.block_lt_of_cell? _ _ hw200_0; first | rwa [add_block] at this | exact this) GW202.out)) | (show (Addr.add _ _).block ≠ _; rw [add_block]; exact Nat.ne_of_lt (Nat.lt_of_lt_of_le (by have := World.block_lt_of_cell? _ _ hw200_0; first | rwa [add_block] at this | exact this) GW202.out)) | (dsimp only; exact Nat.ne_of_lt (Nat.lt_of_lt_of_le (by have := World.block_lt_of_cell? _ _ hw200_0; first | rwa [add_block] at this | exact this) GW202.out))) _).trans (((cell_far (p := ⟨gb202,_,none⟩) (by first | exact Nat.ne_of_lt (Nat.lt_of_lt_of_le (by have := World.block_lt_of_cell? _ _ hw200_0; first | rwa [add_block] at this | exact this) GW202.out) | (rw [add_block]; exact Nat.ne_of_lt (Nat.lt_of_lt_of_le (by have := World.block_lt_of_cell? _ _ hw200_0; first | rwa [add_block] at this | exact this) GW202.out)) | (show (Addr.add _ _).block ≠ _; rw [add_block]; exact Nat.ne_of_lt (Nat.lt_of_lt_of_le (by have := World.block_lt_of_cell? _ _ hw200_0; first | rwa [add_block] at this | exact this) GW202.out)) | (dsimp only; exact Nat.ne_of_lt (Nat.lt_of_lt_of_le (by have := World.block_lt_of_cell? _ _ hw200_0; first | rwa [add_block] at this | exact this) GW202.out))) _).trans (hHeld.2.2.1)))),((cell_far (p := ⟨gb202,_,none⟩) (by first | exact Nat.ne_of_lt (Nat.lt_of_lt_of_le (by have := World.block_lt_of_cell? _ _ hw200_1; first | rwa [add_block] at this | exact this) GW202.out) | (rw [add_block]; exact Nat.ne_of_lt (Nat.lt_of_lt_of_le (by have := World.block_lt_of_cell? _ _ hw200_1; first | rwa [add_block] at this | exact this) GW202.out)) | (show (Addr.add _ _).block ≠ _; rw [add_block]; exact Nat.ne_of_lt (Nat.lt_of_lt_of_le (by have := World.block_lt_of_cell? _ _ hw200_1; first | rwa [add_block] at this | exact this) GW202.out)) | (dsimp only; exact Nat.ne_of_lt (Nat.lt_of_lt_of_le (by have := World.block_lt_of_cell? _ _ hw200_1; first | rwa [add_block] at this | exact this) GW202.out))) _).trans (((cell_far (p := ⟨gb202,_,none⟩) (by first | exact Nat.ne_of_lt (Nat.lt_of_lt_of_le (by have := World.block_lt_of_cell? _ _ hw200_1; first | rwa [add_block] at this | exact this) GW202.out) | (rw [add_block]; exact Nat.ne_of_lt (Nat.lt_of_lt_of_le (by have := World.block_lt_of_cell? _ _ hw200_1; first | rwa [add_block] at this | exact this) GW202.out)) | (show (Addr.add _ _).block ≠ _; rw [add_block]; exact Nat.ne_of_lt (Nat.lt_of_lt_of_le (by have := World.block_lt_of_cell? _ _ hw200_1; first | rwa [add_block] at this | exact this) GW202.out)) | (dsimp only; exact Nat.ne_of_lt (Nat.lt_of_lt_of_le (by have := World.block_lt_of_cell? _ _ hw200_1; first | rwa [add_block] at this | exact this) GW202.out))) _).trans (hHeld.2.2.2.1)))),((cell_far (p := ⟨gb202,_,none⟩) (by first | exact Nat.ne_of_lt (Nat.lt_of_lt_of_le (by have := World.block_lt_of_cell? _ _ hw200_2; first | rwa [add_block] at this | exact this) GW202.out) | (rw [add_block]; exact Nat.ne_of_lt (Nat.lt_of_lt_of_le (by have := World.block_lt_of_cell? _ _ hw200_2; first | rwa [add_block] at this | exact this) GW202.out)) | (show (Addr.add _ _).block ≠ _; rw [add_block]; exact Nat.ne_of_lt (Nat.lt_of_lt_of_le (by have := World.block_lt_of_cell? _ _ hw200_2; first | rwa [add_block] at this | exact this) GW202.out)) | (dsimp only; exact Nat.ne_of_lt (Nat.lt_of_lt_of_le (by have := World.block_lt_of_cell? _ _ hw200_2; first | rwa [add_block] at this | exact this) GW202.out))) _).trans (((cell_far (p := ⟨gb202,_,none⟩) (by first | exact Nat.ne_of_lt (Nat.lt_of_lt_of_le (by have := World.block_lt_of_cell? _ _ hw200_2; first | rwa [add_block] at this | exact this) GW202.out) | (rw [add_block]; exact Nat.ne_of_lt (Nat.lt_of_lt_of_le (by have := World.block_lt_of_cell? _ _ hw200_2; first | rwa [add_block] at this | exact this) GW202.out)) | (show (Addr.add _ _).block ≠ _; rw [add_block]; exact Nat.ne_of_lt (Nat.lt_of_lt_of_le (by have := World.block_lt_of_cell? _ _ hw200_2; first | rwa [add_block] at this | exact this) GW202.out)) | (dsimp only; exact Nat.ne_of_lt (Nat.lt_of_lt_of_le (by have := World.block_lt_of_cell? _ _ hw200_2; first | rwa [add_block] at this | exact this) GW202.out))) _).trans (hHeld.2.2.2.2.1)))),((cell_far (p := ⟨gb202,_,none⟩) (by first | exact Nat.ne_of_lt (Nat.lt_of_lt_of_le (by have := World.block_lt_of_cell? _ _ hw200_3; first | rwa [add_block] at this | exact this) GW202.out) | (rw [add_block]; exact Nat.ne_of_lt (Nat.lt_of_lt_of_le (by have := World.block_lt_of_cell? _ _ hw200_3; first | rwa [add_block] at this | exact this) GW202.out)) | (show (Addr.add _ _).block ≠ _; rw [add_block]; exact Nat.ne_of_lt (Nat.lt_of_lt_of_le (by have := World.block_lt_of_cell? _ _ hw200_3; first | rwa [add_block] at this | exact this) GW202.out)) | (dsimp only; exact Nat.ne_of_lt (Nat.lt_of_lt_of_le (by have := World.block_lt_of_cell? _ _ hw200_3; first | rwa [add_block] at this | exact this) GW202.out))) _).trans (((cell_far (p := ⟨gb202,_,none⟩) (by first | exact Nat.ne_of_lt (Nat.lt_of_lt_of_le (by have := World.block_lt_of_cell? _ _ hw200_3; first | rwa [add_block] at this | exact this) GW202.out) | (rw [add_block]; exact Nat.ne_of_lt (Nat.lt_of_lt_of_le (by have := World.block_lt_of_cell? _ _ hw200_3; first | rwa [add_block] at this | exact this) GW202.out)) | (show (Addr.add _ _).block ≠ _; rw [add_block]; exact Nat.ne_of_lt (Nat.lt_of_lt_of_le (by have := World.block_lt_of_cell? _ _ hw200_3; first | rwa [add_block] at this | exact this) GW202.out)) | (dsimp only; exact Nat.ne_of_lt (Nat.lt_of_lt_of_le (by have := World.block_lt_of_cell? _ _ hw200_3; first | rwa [add_block] at this | exact this) GW202.out))) _).trans (hHeld.2.2.2.2.2.1)))),((cell_far (p := ⟨gb202,_,none⟩) (by first | exact Nat.ne_of_lt (Nat.lt_of_lt_of_le (by have := World.block_lt_of_cell? _ _ hw200_4; first | rwa [add_block] at this | exact this) GW202.out) | (rw [add_block]; exact Nat.ne_of_lt (Nat.lt_of_lt_of_le (by have := World.block_lt_of_cell? _ _ hw200_4; first | rwa [add_block] at this | exact this) GW202.out)) | (show (Addr.add _ _).block ≠ _; rw [add_block]; exact Nat.ne_of_lt (Nat.lt_of_lt_of_le (by have := World.block_lt_of_cell? _ _ hw200_4; first | rwa [add_block] at this | exact this) GW202.out)) | (dsimp only; exact Nat.ne_of_lt (Nat.lt_of_lt_of_le (by have := World.block_lt_of_cell? _ _ hw200_4; first | rwa [add_block] at this | exact this) GW202.out))) _).trans (((cell_far (p := ⟨gb202,_,none⟩) (by first | exact Nat.ne_of_lt (Nat.lt_of_lt_of_le (by have := World.block_lt_of_cell? _ _ hw200_4; first | rwa [add_block] at this | exact this) GW202.out) | (rw [add_block]; exact Nat.ne_of_lt (Nat.lt_of_lt_of_le (by have := World.block_lt_of_cell? _ _ hw200_4; first | rwa [add_block] at this | exact this) GW202.out)) | (show (Addr.add _ _).block ≠ _; rw [add_block]; exact Nat.ne_of_lt (Nat.lt_of_lt_of_le (by have := World.block_lt_of_cell? _ _ hw200_4; first | rwa [add_block] at this | exact this) GW202.out)) | (dsimp only; exact Nat.ne_of_lt (Nat.lt_of_lt_of_le (by have := World.block_lt_of_cell? _ _ hw200_4; first | rwa [add_block] at this | exact this) GW202.out))) _).trans (hHeld.2.2.2.2.2.2.1)))),((cell_far (p := ⟨gb202,_,none⟩) (by first | exact Nat.ne_of_lt (Nat.lt_of_lt_of_le (by have := World.block_lt_of_cell? _ _ hw200_5; first | rwa [add_block] at this | exact this) GW202.out) | (rw [add_block]; exact Nat.ne_of_lt (Nat.lt_of_lt_of_le (by have := World.block_lt_of_cell? _ _ hw200_5; first | rwa [add_block] at this | exact this) GW202.out)) | (show (Addr.add _ _).block ≠ _; rw [add_block]; exact Nat.ne_of_lt (Nat.lt_of_lt_of_le (by have := World.block_lt_of_cell? _ _ hw200_5; first | rwa [add_block] at this | exact this) GW202.out)) | (dsimp only; exact Nat.ne_of_lt (Nat.lt_of_lt_of_le (by have := World.block_lt_of_cell? _ _ hw200_5; first | rwa [add_block] at this | exact this) GW202.out))) _).trans (((cell_far (p := ⟨gb202,_,none⟩) (by first | exact Nat.ne_of_lt (Nat.lt_of_lt_of_le (by have := World.block_lt_of_cell? _ _ hw200_5; first | rwa [add_block] at this | exact this) GW202.out) | (rw [add_block]; exact Nat.ne_of_lt (Nat.lt_of_lt_of_le (by have := World.block_lt_of_cell? _ _ hw200_5; first | rwa [add_block] at this | exact this) GW202.out)) | (show (Addr.add _ _).block ≠ _; rw [add_block]; exact Nat.ne_of_lt (Nat.lt_of_lt_of_le (by have := World.block_lt_of_cell? _ _ hw200_5; first | rwa [add_block] at this | exact this) GW202.out)) | (dsimp only; exact Nat.ne_of_lt (Nat.lt_of_lt_of_le (by have := World.block_lt_of_cell? _ _ hw200_5; first | rwa [add_block] at this | exact this) GW202.out))) _).trans (hHeld.2.2.2.2.2.2.2.1)))),((cell_far (p := ⟨gb202,_,none⟩) (by first | exact Nat.ne_of_lt (Nat.lt_of_lt_of_le (by have := World.block_lt_of_cell? _ _ hw201_0; first | rwa [add_block] at this | exact this) GW202.out) | (rw [add_block]; exact Nat.ne_of_lt (Nat.lt_of_lt_of_le (by have := World.block_lt_of_cell? _ _ hw201_0; first | rwa [add_block] at this | exact this) GW202.out)) | (show (Addr.add _ _).block ≠ _; rw [add_block]; exact Nat.ne_of_lt (Nat.lt_of_lt_of_le (by have := World.block_lt_of_cell? _ _ hw201_0; first | rwa [add_block] at this | exact this) GW202.out)) | (dsimp only; exact Nat.ne_of_lt (Nat.lt_of_lt_of_le (by have := World.block_lt_of_cell? _ _ hw201_0; first | rwa [add_block] at this | exact this) GW202.out))) _).trans (((cell_far (p := ⟨gb202,_,none⟩) (by first | exact Nat.ne_of_lt (Nat.lt_of_lt_of_le (by have := World.block_lt_of_cell? _ _ hw201_0; first | rwa [add_block] at this | exact this) GW202.out) | (rw [add_block]; exact Nat.ne_of_lt (Nat.lt_of_lt_of_le (by have := World.block_lt_of_cell? _ _ hw201_0; first | rwa [add_block] at this | exact this) GW202.out)) | (show (Addr.add _ _).block ≠ _; rw [add_block]; exact Nat.ne_of_lt (Nat.lt_of_lt_of_le (by have := World.block_lt_of_cell? _ _ hw201_0; first | rwa [add_block] at this | exact this) GW202.out)) | (dsimp only; exact Nat.ne_of_lt (Nat.lt_of_lt_of_le (by have := World.block_lt_of_cell? _ _ hw201_0; first | rwa [add_block] at this | exact this) GW202.out))) _).trans (hHeld.2.2.2.2.2.2.2.2.1)))),((cell_far (p := ⟨gb202,_,none⟩) (by first | exact Nat.ne_of_lt (Nat.lt_of_lt_of_le (by have := World.block_lt_of_cell? _ _ hw201_1; first | rwa [add_block] at this | exact this) GW202.out) | (rw [add_block]; exact Nat.ne_of_lt (Nat.lt_of_lt_of_le (by have := World.block_lt_of_cell? _ _ hw201_1; first | rwa [add_block] at this | exact this) GW202.out)) | (show (Addr.add _ _).block ≠ _; rw [add_block]; exact Nat.ne_of_lt (Nat.lt_of_lt_of_le (by have := World.block_lt_of_cell? _ _ hw201_1; first | rwa [add_block] at this | exact this) GW202.out)) | (dsimp only; exact Nat.ne_of_lt (Nat.lt_of_lt_of_le (by have := World.block_lt_of_cell? _ _ hw201_1; first | rwa [add_block] at this | exact this) GW202.out))) _).trans (((cell_far (p := ⟨gb202,_,none⟩) (by first | exact Nat.ne_of_lt (Nat.lt_of_lt_of_le (by have := World.block_lt_of_cell? _ _ hw201_1; first | rwa [add_block] at this | exact this) GW202.out) | (rw [add_block]; exact Nat.ne_of_lt (Nat.lt_of_lt_of_le (by have := World.block_lt_of_cell? _ _ hw201_1; first | rwa [add_block] at this | exact this) GW202.out)) | (show (Addr.add _ _).block ≠ _; rw [add_block]; exact Nat.ne_of_lt (Nat.lt_of_lt_of_le (by have := World.block_lt_of_cell? _ _ hw201_1; first | rwa [add_block] at this | exact this) GW202.out)) | (dsimp only; exact Nat.ne_of_lt (Nat.lt_of_lt_of_le (by have := World.block_lt_of_cell? _ _ hw201_1; first | rwa [add_block] at this | exact this) GW202.out))) _).trans (hHeld.2.2.2.2.2.2.2.2.2))))⟩ (fun hHeld => ?_)
                       clear hK K
                       refine done_ (done_of HT_.out (by kernel_rfl)) ?_
                       try go_wp2
                       have n0_ : Aside0 (Kd.R k27 27 ((w71.setCell ⟨gb202,0,none⟩ (.int .i64 ((rd_T42 l0_0 ((rd_T80 l0_1 x8_2).f0)).f0))).setCell ⟨gb202,1,none⟩ (.int .i64 ((rd_T42 l0_0 ((rd_T80 l0_1 x8_2).f0)).f1))) w.heap.size (fun _ => True) u3 x3_3) := ⟨by (with_reducible repeat (first | apply Kd.R_alloc | apply Kd.R_drewN | apply Kd.R_drew)); exact Kd.R_mono (Kd.R_far (p := ⟨gb202,1,none⟩) (Kd.R_far (p := ⟨gb202,0,none⟩) (Kd.R_types HO_3.out BK202.out (by decide)) (fun _ hk => hk.2) (.int .i64 ((rd_T42 l0_0 ((rd_T80 l0_1 x8_2).f0)).f0))) (fun _ hk => hk.2) (.int .i64 ((rd_T42 l0_0 ((rd_T80 l0_1 x8_2).f0)).f1))) (fun _ hk => trivial)⟩
                       have n1_ : Aside0 (Kd.R (Kd.int .i64) 3 ((w71.setCell ⟨gb202,0,none⟩ (.int .i64 ((rd_T42 l0_0 ((rd_T80 l0_1 x8_2).f0)).f0))).setCell ⟨gb202,1,none⟩ (.int .i64 ((rd_T42 l0_0 ((rd_T80 l0_1 x8_2).f0)).f1))) w.heap.size (fun k_ => some k_ ≠ (.slice (some ad198) t193.length co69 : Value).ownBlock) (.slice (some ad196) t190.length co67) t190) := ⟨by (with_reducible repeat (first | apply Kd.R_alloc | apply Kd.R_drewN | apply Kd.R_drew)); exact Kd.R_mono (Kd.R_far (p := ⟨gb202,1,none⟩) (Kd.R_far (p := ⟨gb202,0,none⟩) (Kd.R_types HO_6.out BK202.out (by decide)) (fun _ hk => hk.2) (.int .i64 ((rd_T42 l0_0 ((rd_T80 l0_1 x8_2).f0)).f0))) (fun _ hk => hk.2) (.int .i64 ((rd_T42 l0_0 ((rd_T80 l0_1 x8_2).f0)).f1))) (fun _ hk => hk.1)⟩
                       have n2_ : Aside0 (Kd.R (Kd.int .i64) 3 ((w71.setCell ⟨gb202,0,none⟩ (.int .i64 ((rd_T42 l0_0 ((rd_T80 l0_1 x8_2).f0)).f0))).setCell ⟨gb202,1,none⟩ (.int .i64 ((rd_T42 l0_0 ((rd_T80 l0_1 x8_2).f0)).f1))) w.heap.size (fun k_ => some k_ ≠ (.slice (some ad196) t190.length co67 : Value).ownBlock) (.slice (some ad198) t193.length co69) t193) := ⟨by (with_reducible repeat (first | apply Kd.R_alloc | apply Kd.R_drewN | apply Kd.R_drew)); exact Kd.R_mono (Kd.R_far (p := ⟨gb202,1,none⟩) (Kd.R_far (p := ⟨gb202,0,none⟩) (Kd.R_types HO_7.out BK202.out (by decide)) (fun _ hk => hk.2) (.int .i64 ((rd_T42 l0_0 ((rd_T80 l0_1 x8_2).f0)).f0))) (fun _ hk => hk.2) (.int .i64 ((rd_T42 l0_0 ((rd_T80 l0_1 x8_2).f0)).f1))) (fun _ hk => hk.1)⟩
                       have n3_ : Aside0 (((w71.setCell ⟨gb202,0,none⟩ (.int .i64 ((rd_T42 l0_0 ((rd_T80 l0_1 x8_2).f0)).f0))).setCell ⟨gb202,1,none⟩ (.int .i64 ((rd_T42 l0_0 ((rd_T80 l0_1 x8_2).f0)).f1))).heap[gb169]? = some (.cells #[.slice (some ad201) l0_0.length c0_0,.slice (some ad200) l0_1.length c0_1] 25 (0,0))) := ⟨by (with_reducible repeat (first | refine blk_drewN ?_ _ | refine blk_drew ?_ | refine blk_alloc ?_ _)); refine blk_far ?_ NB169_202.out _; (with_reducible repeat (first | refine blk_drewN ?_ _ | refine blk_drew ?_ | refine blk_alloc ?_ _)); refine blk_far ?_ NB169_202.out _; (with_reducible repeat (first | refine blk_drewN ?_ _ | refine blk_drew ?_ | refine blk_alloc ?_ _)); exact BK169.out⟩
                       have n4_ : Aside0 (((w71.setCell ⟨gb202,0,none⟩ (.int .i64 ((rd_T42 l0_0 ((rd_T80 l0_1 x8_2).f0)).f0))).setCell ⟨gb202,1,none⟩ (.int .i64 ((rd_T42 l0_0 ((rd_T80 l0_1 x8_2).f0)).f1))).heap[gb202]? = some (.cells #[.int .i64 ((rd_T42 l0_0 ((rd_T80 l0_1 x8_2).f0)).f0),.int .i64 ((rd_T42 l0_0 ((rd_T80 l0_1 x8_2).f0)).f1)] 42 (0,0))) := ⟨by (with_reducible repeat (first | refine blk_drewN ?_ _ | refine blk_drew ?_ | refine blk_alloc ?_ _)); refine blk_put (cs := #[.int .i64 ((rd_T42 l0_0 ((rd_T80 l0_1 x8_2).f0)).f0),.int .i64 0]) ?_ 1 _ rfl; (with_reducible repeat (first | refine blk_drewN ?_ _ | refine blk_drew ?_ | refine blk_alloc ?_ _)); refine blk_put (cs := #[.int .i64 0,.int .i64 0]) ?_ 0 _ rfl; (with_reducible repeat (first | refine blk_drewN ?_ _ | refine blk_drew ?_ | refine blk_alloc ?_ _)); exact BK202.out⟩
                       have n5_ : Aside0 (Below w.heap.size w ((w71.setCell ⟨gb202,0,none⟩ (.int .i64 ((rd_T42 l0_0 ((rd_T80 l0_1 x8_2).f0)).f0))).setCell ⟨gb202,1,none⟩ (.int .i64 ((rd_T42 l0_0 ((rd_T80 l0_1 x8_2).f0)).f1)))) := ⟨by repeat (first | (with_reducible first | exact HB.out | apply below_alloc | apply pw_below_drewN | apply below_drew1 | refine below_set ?_ GE169.out | refine below_set ?_ GE202.out) | exact HB.out)⟩
                       (try clear HO_3)
                       (try clear HO_6)
                       (try clear HO_7)
                       (try clear BK169)
                       (try clear BK202)
                       (try clear HB)
                       generalize ((w71.setCell ⟨gb202,0,none⟩ (.int .i64 ((rd_T42 l0_0 ((rd_T80 l0_1 x8_2).f0)).f0))).setCell ⟨gb202,1,none⟩ (.int .i64 ((rd_T42 l0_0 ((rd_T80 l0_1 x8_2).f0)).f1))) = w74 at n0_ n1_ n2_ n3_ n4_ n5_ ⊢
                       have HO_3 := n0_
                       have HO_6 := n1_
                       have HO_7 := n2_
                       have BK169 := n3_
                       have BK202 := n4_
                       have HB := n5_
                       clear n0_ n1_ n2_ n3_ n4_ n5_
                       have n0_ := Aside0.mk (Kd.R_drew HO_3.out)
                       have n1_ := Aside0.mk (Kd.R_drew HO_6.out)
                       have n2_ := Aside0.mk (Kd.R_drew HO_7.out)
                       have n3_ := Aside0.mk (blk_drew BK169.out)
                       have n4_ := Aside0.mk (blk_drew BK202.out)
                       have n5_ := Aside0.mk (below_drew1 HB.out)
                       clear HO_3
                       clear HO_6
                       clear HO_7
                       clear BK169
                       clear BK202
                       clear HB
                       have HO_3 := n0_
                       have HO_6 := n1_
                       have HO_7 := n2_
                       have BK169 := n3_
                       have BK202 := n4_
                       have HB := n5_
                       clear n0_ n1_ n2_ n3_ n4_ n5_
                       have p203 : 0 ≤ (x8_2 : Int) := of_decide_eq_true (by first | (with_reducible assumption) | assumption)
                       have q203 : x8_2 < (t193.length : Int) := of_decide_eq_true (by first | (with_reducible assumption) | assumption)
                       obtain ⟨ad203,e203,hx203_0⟩ := Kd.at_int (Kd.R_reads' HO_7.out).2.2 x8_2 p203 q203
                       obtain rfl : ad198 = ad203 := (by injection e203)
                       replace p203 := eq_true p203
                       replace q203 := eq_true q203
                       have p204 : 0 ≤ (x9_3 : Int) := of_decide_eq_true (by first | (with_reducible assumption) | assumption)
                       have q204 : x9_3 < (t193.length : Int) := of_decide_eq_true (by first | (with_reducible assumption) | assumption)
                       obtain ⟨ad204,e204,hx204_0⟩ := Kd.at_int (Kd.R_reads' HO_7.out).2.2 x9_3 p204 q204
                       obtain rfl : ad198 = ad204 := (by injection e204)
                       replace p204 := eq_true p204
                       replace q204 := eq_true q204
                       refine start_ (n := 10) (S := fun w' => w'.cell? (ad198.add (x8_2).toNat) = some (.int .i64 (rd t193 x8_2)) ∧ w'.cell? (ad198.add (x9_3).toNat) = some (.int .i64 (rd t193 x9_3))) (ds := []) #[false,false,false,false,false,false,false,false,false,false] (by kernel_rfl) rfl rfl ⟨hx203_0,hx204_0⟩ (fun hHeld => ?_); refine with_tabW rf_binds.tab24 rf_binds.bits24 (fun HT_ HW_ => ?_)
                       generalize w74.drew = w75 at HO_3 HO_6 HO_7 BK169 BK202 HB hx203_0 hx204_0 hHeld ⊢
                       refine pure_ (i := 0) (N := some 113) (v := ?_) (a' := ?_) #[true,false,false,false,false,false,false,false,false,false] rfl rfl (any_of HT_.out (by kernel_rfl)) (fun _ _ _ h => h) (Or.inl ⟨by rfl,?_⟩) ?_ ?_
                       rotate_left
                       ·intro w'
                        go_simp
                        with_reducible rfl
                       rotate_left
                       ·simp only [Act.put,List.setIfInBounds_toArray,List.set_cons_zero,List.set_cons_succ,i64_w,i32_w]
                        rfl
                       refine pure_ (i := 1) (N := some 114) (v := ?_) (a' := ?_) #[true,true,false,false,false,false,false,false,false,false] rfl rfl (any_of HT_.out (by kernel_rfl)) (fun _ _ _ h => h) (Or.inl ⟨by rfl,?_⟩) ?_ ?_
                       rotate_left
                       ·intro w'
                        go_simp
                        with_reducible rfl
                       rotate_left
                       ·simp only [Act.put,List.setIfInBounds_toArray,List.set_cons_zero,List.set_cons_succ,i64_w,i32_w]
                        rfl
                       refine pure_ (i := 2) (N := some 115) (v := ?_) (a' := ?_) #[true,true,true,false,false,false,false,false,false,false] rfl rfl (any_of HT_.out (by kernel_rfl)) (fun _ _ _ h => h) (Or.inl ⟨by rfl,?_⟩) ?_ ?_
                       rotate_left
                       ·intro w'
                        go_simp
                        with_reducible rfl
                       rotate_left
                       ·simp only [Act.put,List.setIfInBounds_toArray,List.set_cons_zero,List.set_cons_succ,i64_w,i32_w]
                        rfl
                       refine pure_ (i := 4) (N := some 117) (v := ?_) (a' := ?_) #[true,true,true,false,true,false,false,false,false,false] rfl rfl (any_of HT_.out (by kernel_rfl)) (fun _ _ _ h => h) (Or.inl ⟨by rfl,?_⟩) ?_ ?_
                       rotate_left
                       ·intro w'
                        go_simp
                        with_reducible rfl
                       rotate_left
                       ·simp only [Act.put,List.setIfInBounds_toArray,List.set_cons_zero,List.set_cons_succ,i64_w,i32_w]
                        rfl
                       refine pure_ (i := 5) (N := some 118) (v := ?_) (a' := ?_) #[true,true,true,false,true,true,false,false,false,false] rfl rfl (any_of HT_.out (by kernel_rfl)) (fun _ _ _ h => h) (Or.inl ⟨by rfl,?_⟩) ?_ ?_
                       rotate_left
                       ·intro w'
                        go_simp
                        with_reducible rfl
                       rotate_left
                       ·simp only [Act.put,List.setIfInBounds_toArray,List.set_cons_zero,List.set_cons_succ,i64_w,i32_w]
                        rfl
                       refine pure_ (i := 6) (N := some 119) (v := ?_) (a' := ?_) #[true,true,true,false,true,true,true,false,false,false] rfl rfl (any_of HT_.out (by kernel_rfl)) (fun _ _ _ h => h) (Or.inl ⟨by rfl,?_⟩) ?_ ?_
                       rotate_left
                       ·intro w'
                        go_simp
                        with_reducible rfl
                       rotate_left
                       ·simp only [Act.put,List.setIfInBounds_toArray,List.set_cons_zero,List.set_cons_succ,i64_w,i32_w]
                        rfl
                       refine take_ (i := 3) (N := some 116) (v := ?_) (a' := ?_) #[true,true,true,true,true,true,true,false,false,false] rfl rfl (take_ofW HT_.out HW_.out (by kernel_rfl)) (fun _ _ _ h => h) (Or.inl ⟨by rfl,?_⟩) hHeld ?_ ?_
                       rotate_left
                       ·rintro w' ⟨s0,s1⟩
                        go_simp
                        with_reducible rfl
                       rotate_left
                       ·simp only [Act.put,List.setIfInBounds_toArray,List.set_cons_zero,List.set_cons_succ,i64_w,i32_w]
                        rfl
                       refine take_ (i := 7) (N := some 120) (v := ?_) (a' := ?_) #[true,true,true,true,true,true,true,true,false,false] rfl rfl (take_ofW HT_.out HW_.out (by kernel_rfl)) (fun _ _ _ h => h) (Or.inl ⟨by rfl,?_⟩) hHeld ?_ ?_
                       rotate_left
                       ·rintro w' ⟨s0,s1⟩
                        go_simp
                        with_reducible rfl
                       rotate_left
                       ·simp only [Act.put,List.setIfInBounds_toArray,List.set_cons_zero,List.set_cons_succ,i64_w,i32_w]
                        rfl
                       refine pure_ (i := 8) (N := some 121) (v := ?_) (a' := ?_) #[true,true,true,true,true,true,true,true,true,false] rfl rfl (any_of HT_.out (by kernel_rfl)) (fun _ _ _ h => h) (Or.inl ⟨by rfl,?_⟩) ?_ ?_
                       rotate_left
                       ·intro w'
                        go_simp
                        with_reducible rfl
                       rotate_left
                       ·simp only [Act.put,List.setIfInBounds_toArray,List.set_cons_zero,List.set_cons_succ,i64_w,i32_w]
                        rfl
                       refine pure_ (i := 9) (N := some 13) (v := ?_) (a' := ?_) #[true,true,true,true,true,true,true,true,true,true] rfl rfl (any_of HT_.out (by kernel_rfl)) (fun _ _ _ h => h) (Or.inl ⟨by rfl,?_⟩) ?_ ?_
                       rotate_left
                       ·intro w'
                        go_simp
                        with_reducible rfl
                       rotate_left
                       ·simp only [Act.put,List.setIfInBounds_toArray,List.set_cons_zero,List.set_cons_succ,i64_w,i32_w]
                        rfl
                       refine done_ (done_of HT_.out (by kernel_rfl)) ?_
                       try go_wp2
                       have n0_ := Aside0.mk (Kd.R_drew HO_3.out)
                       have n1_ := Aside0.mk (Kd.R_drew HO_6.out)
                       have n2_ := Aside0.mk (Kd.R_drew HO_7.out)
                       have n3_ := Aside0.mk (blk_drew BK169.out)
                       have n4_ := Aside0.mk (blk_drew BK202.out)
                       have n5_ := Aside0.mk (below_drew1 HB.out)
                       clear HO_3
                       clear HO_6
                       clear HO_7
                       clear BK169
                       clear BK202
                       clear HB
                       have HO_3 := n0_
                       have HO_6 := n1_
                       have HO_7 := n2_
                       have BK169 := n3_
                       have BK202 := n4_
                       have HB := n5_
                       clear n0_ n1_ n2_ n3_ n4_ n5_
                       refine start_ (n := 19) (S := fun w' => w'.cell? ⟨gb202,0,none⟩ = some (.int .i64 ((rd_T42 l0_0 ((rd_T80 l0_1 x8_2).f0)).f0)) ∧ w'.cell? ⟨gb202,1,none⟩ = some (.int .i64 ((rd_T42 l0_0 ((rd_T80 l0_1 x8_2).f0)).f1))) (ds := []) #[false,false,false,false,false,false,false,false,false,false,false,false,false,false,false,false,false,false,false] (by kernel_rfl) rfl rfl ⟨(blk_cell BK202.out 0).trans rfl,(blk_cell BK202.out 1).trans rfl⟩ (fun hHeld => ?_); refine with_tabW rf_binds.tab25 rf_binds.bits25 (fun HT_ HW_ => ?_)
                       generalize w75.drew = w76 at HO_3 HO_6 HO_7 BK169 BK202 HB hHeld ⊢
                       refine pure_ (i := 0) (N := some 122) (v := ?_) (a' := ?_) #[true,false,false,false,false,false,false,false,false,false,false,false,false,false,false,false,false,false,false] rfl rfl (any_of HT_.out (by kernel_rfl)) (fun _ _ _ h => h) (Or.inl ⟨by rfl,?_⟩) ?_ ?_
                       rotate_left
                       ·intro w'
                        go_simp
                        with_reducible rfl
                       rotate_left
                       ·simp only [Act.put,List.setIfInBounds_toArray,List.set_cons_zero,List.set_cons_succ,i64_w,i32_w]
                        rfl
                       refine pure_ (i := 1) (N := some 123) (v := ?_) (a' := ?_) #[true,true,false,false,false,false,false,false,false,false,false,false,false,false,false,false,false,false,false] rfl rfl (any_of HT_.out (by kernel_rfl)) (fun _ _ _ h => h) (Or.inl ⟨by rfl,?_⟩) ?_ ?_
                       rotate_left
                       ·intro w'
                        go_simp
                        with_reducible rfl
                       rotate_left
                       ·simp only [Act.put,List.setIfInBounds_toArray,List.set_cons_zero,List.set_cons_succ,i64_w,i32_w]
                        rfl
                       refine pure_ (i := 2) (N := some 124) (v := ?_) (a' := ?_) #[true,true,true,false,false,false,false,false,false,false,false,false,false,false,false,false,false,false,false] rfl rfl (any_of HT_.out (by kernel_rfl)) (fun _ _ _ h => h) (Or.inl ⟨by rfl,?_⟩) ?_ ?_
                       rotate_left
                       ·intro w'
                        go_simp
                        with_reducible rfl
                       rotate_left
                       ·simp only [Act.put,List.setIfInBounds_toArray,List.set_cons_zero,List.set_cons_succ,i64_w,i32_w]
                        rfl
                       refine pure_ (i := 3) (N := some 125) (v := ?_) (a' := ?_) #[true,true,true,true,false,false,false,false,false,false,false,false,false,false,false,false,false,false,false] rfl rfl (any_of HT_.out (by kernel_rfl)) (fun _ _ _ h => h) (Or.inl ⟨by rfl,?_⟩) ?_ ?_
                       rotate_left
                       ·intro w'
                        go_simp
                        with_reducible rfl
                       rotate_left
                       ·simp only [Act.put,List.setIfInBounds_toArray,List.set_cons_zero,List.set_cons_succ,i64_w,i32_w]
                        rfl
                       refine pure_ (i := 4) (N := some 126) (v := ?_) (a' := ?_) #[true,true,true,true,true,false,false,false,false,false,false,false,false,false,false,false,false,false,false] rfl rfl (any_of HT_.out (by kernel_rfl)) (fun _ _ _ h => h) (Or.inl ⟨by rfl,?_⟩) ?_ ?_
                       rotate_left
                       ·intro w'
                        go_simp
                        with_reducible rfl
                       rotate_left
                       ·simp only [Act.put,List.setIfInBounds_toArray,List.set_cons_zero,List.set_cons_succ,i64_w,i32_w]
                        rfl
                       refine pure_ (i := 8) (N := some 130) (v := ?_) (a' := ?_) #[true,true,true,true,true,false,false,false,true,false,false,false,false,false,false,false,false,false,false] rfl rfl (any_of HT_.out (by kernel_rfl)) (fun _ _ _ h => h) (Or.inl ⟨by rfl,?_⟩) ?_ ?_
                       rotate_left
                       ·intro w'
                        go_simp
                        with_reducible rfl
                       rotate_left
                       ·simp only [Act.put,List.setIfInBounds_toArray,List.set_cons_zero,List.set_cons_succ,i64_w,i32_w]
                        rfl
                       refine pure_ (i := 9) (N := some 131) (v := ?_) (a' := ?_) #[true,true,true,true,true,false,false,false,true,true,false,false,false,false,false,false,false,false,false] rfl rfl (any_of HT_.out (by kernel_rfl)) (fun _ _ _ h => h) (Or.inl ⟨by rfl,?_⟩) ?_ ?_
                       rotate_left
                       ·intro w'
                        go_simp
                        with_reducible rfl
                       rotate_left
                       ·simp only [Act.put,List.setIfInBounds_toArray,List.set_cons_zero,List.set_cons_succ,i64_w,i32_w]
                        rfl
                       refine pure_ (i := 10) (N := some 132) (v := ?_) (a' := ?_) #[true,true,true,true,true,false,false,false,true,true,true,false,false,false,false,false,false,false,false] rfl rfl (any_of HT_.out (by kernel_rfl)) (fun _ _ _ h => h) (Or.inl ⟨by rfl,?_⟩) ?_ ?_
                       rotate_left
                       ·intro w'
                        go_simp
                        with_reducible rfl
                       rotate_left
                       ·simp only [Act.put,List.setIfInBounds_toArray,List.set_cons_zero,List.set_cons_succ,i64_w,i32_w]
                        rfl
                       refine pure_ (i := 11) (N := some 133) (v := ?_) (a' := ?_) #[true,true,true,true,true,false,false,false,true,true,true,true,false,false,false,false,false,false,false] rfl rfl (any_of HT_.out (by kernel_rfl)) (fun _ _ _ h => h) (Or.inl ⟨by rfl,?_⟩) ?_ ?_
                       rotate_left
                       ·intro w'
                        go_simp
                        with_reducible rfl
                       rotate_left
                       ·simp only [Act.put,List.setIfInBounds_toArray,List.set_cons_zero,List.set_cons_succ,i64_w,i32_w]
                        rfl
                       refine take_ (i := 5) (N := some 127) (v := ?_) (a' := ?_) #[true,true,true,true,true,true,false,false,true,true,true,true,false,false,false,false,false,false,false] rfl rfl (take_ofW HT_.out HW_.out (by kernel_rfl)) (fun _ _ _ h => h) (Or.inl ⟨by rfl,?_⟩) hHeld ?_ ?_
                       rotate_left
                       ·rintro w' ⟨s0,s1⟩
                        go_simp
                        with_reducible rfl
                       rotate_left
                       ·simp only [Act.put,List.setIfInBounds_toArray,List.set_cons_zero,List.set_cons_succ,i64_w,i32_w]
                        rfl
                       refine pure_ (i := 6) (N := some 128) (v := ?_) (a' := ?_) #[true,true,true,true,true,true,true,false,true,true,true,true,false,false,false,false,false,false,false] rfl rfl (any_of HT_.out (by kernel_rfl)) (fun _ _ _ h => h) (Or.inl ⟨by rfl,?_⟩) ?_ ?_
                       rotate_left
                       ·intro w'
                        go_simp
                        with_reducible rfl
                       rotate_left
                       ·simp only [Act.put,List.setIfInBounds_toArray,List.set_cons_zero,List.set_cons_succ,i64_w,i32_w]
                        rfl
                       refine pure_ (i := 7) (N := some 129) (v := ?_) (a' := ?_) #[true,true,true,true,true,true,true,true,true,true,true,true,false,false,false,false,false,false,false] rfl rfl (any_of HT_.out (by kernel_rfl)) (fun _ _ _ h => h) (Or.inl ⟨by rfl,?_⟩) ?_ ?_
                       rotate_left
                       ·intro w'
                        go_simp
                        with_reducible rfl
                       rotate_left
                       ·simp only [Act.put,List.setIfInBounds_toArray,List.set_cons_zero,List.set_cons_succ,i64_w,i32_w]
                        rfl
                       refine take_ (i := 12) (N := some 134) (v := ?_) (a' := ?_) #[true,true,true,true,true,true,true,true,true,true,true,true,true,false,false,false,false,false,false] rfl rfl (take_ofW HT_.out HW_.out (by kernel_rfl)) (fun _ _ _ h => h) (Or.inl ⟨by rfl,?_⟩) hHeld ?_ ?_
                       rotate_left
                       ·rintro w' ⟨s0,s1⟩
                        go_simp
                        with_reducible rfl
                       rotate_left
                       ·simp only [Act.put,List.setIfInBounds_toArray,List.set_cons_zero,List.set_cons_succ,i64_w,i32_w]
                        rfl
                       refine one_ (i := 13) (N := some 135) #[true,true,true,true,true,true,true,true,true,true,true,true,true,true,false,false,false,false,false] rfl rfl (one_of HT_.out (by kernel_rfl)) (by decide) (fun K hK => ?_)
                       refine goes_ Try.func76 (by kernel_rfl) rfl #[.int .i64 (wrap64 ((rd t193 x8_2) - (rd t193 x9_3))),.int .i64 ((rd_T42 l0_0 ((rd_T80 l0_1 x8_2).f0)).f1)] (by rfl) rfl rfl (by (try simp only [List.map_toArray,List.map_cons,List.map_nil]); first | done | rfl | (simp only [List.length_drop,List.length_take]; rfl)) ?_
                       with_reducible refine (rf_up.calls (wrap64 ((rd t193 x8_2) - (rd t193 x9_3))) ((rd_T42 l0_0 ((rd_T80 l0_1 x8_2).f0)).f1) t205 _ A63.out).mono ?_
                       rintro e w' ⟨rfl,⟨nd,rfl⟩⟩
                       refine ⟨_,rfl,?_⟩
                       refine hK.out _ _ ⟨(blk_cell BK202.out 0).trans rfl,(blk_cell BK202.out 1).trans rfl⟩ (fun hHeld => ?_)
                       clear hK K
                       refine norm_ (a' := ?_) ?_ ?_
                       rotate_left
                       ·show Act.put _ (some 135) _ = _
                        simp only [Act.put,List.setIfInBounds_toArray,List.set_cons_zero,List.set_cons_succ,i64_w,i32_w]
                        rfl
                       refine pure_ (i := 14) (N := some 136) (v := ?_) (a' := ?_) #[true,true,true,true,true,true,true,true,true,true,true,true,true,true,true,false,false,false,false] rfl rfl (any_of HT_.out (by kernel_rfl)) (fun _ _ _ h => h) (Or.inl ⟨by rfl,?_⟩) ?_ ?_
                       rotate_left
                       ·intro w'
                        go_simp
                        with_reducible rfl
                       rotate_left
                       ·simp only [Act.put,List.setIfInBounds_toArray,List.set_cons_zero,List.set_cons_succ,i64_w,i32_w]
                        rfl
                       refine pure_ (i := 15) (N := some 137) (v := ?_) (a' := ?_) #[true,true,true,true,true,true,true,true,true,true,true,true,true,true,true,true,false,false,false] rfl rfl (any_of HT_.out (by kernel_rfl)) (fun _ _ _ h => h) (Or.inl ⟨by rfl,?_⟩) ?_ ?_
                       rotate_left
                       ·intro w'
                        go_simp
                        with_reducible rfl
                       rotate_left
                       ·simp only [Act.put,List.setIfInBounds_toArray,List.set_cons_zero,List.set_cons_succ,i64_w,i32_w]
                        rfl
                       refine one_ (i := 16) (N := some 138) #[true,true,true,true,true,true,true,true,true,true,true,true,true,true,true,true,true,false,false] rfl rfl (one_of HT_.out (by kernel_rfl)) (by decide) (fun K hK => ?_)
                       refine Kd.R_lit_step k27 _ 27 ?hg (N := 138) ?hd (xs := ([(⟨x9_3,x8_2,wrap64 (Int.tdiv (wrap64 ((rd t193 x8_2) - (rd t193 x9_3))) ((rd_T42 l0_0 ((rd_T80 l0_1 x8_2).f0)).f0))⟩ : S27),(⟨x8_2,x9_3,wrap64 (-t205)⟩ : S27)] : List (S27))) (inner := [.int .i64 x9_3,.int .i64 x8_2,.int .i64 (wrap64 (Int.tdiv (wrap64 ((rd t193 x8_2) - (rd t193 x9_3))) ((rd_T42 l0_0 ((rd_T80 l0_1 x8_2).f0)).f0))),.int .i64 x8_2,.int .i64 x9_3,.int .i64 (wrap64 (-t205))]) (ok := fun _ => True) (okp := fun _ => True) ?hr ?hp (fun _ hk => hk) trivial (Below.refl _ _) (Nat.le_refl _) (by simp) ?_; (case hd => rfl); (case hg => rfl); (case hr => first | (go_simp; done) | (go_simp; rfl)); (case hp => exact (Reps.c3 (show Kd.M k27 _ _ _ (⟨x9_3,x8_2,wrap64 (Int.tdiv (wrap64 ((rd t193 x8_2) - (rd t193 x9_3))) ((rd_T42 l0_0 ((rd_T80 l0_1 x8_2).f0)).f0))⟩ : S27) [.int .i64 x9_3,.int .i64 x8_2,.int .i64 (wrap64 (Int.tdiv (wrap64 ((rd t193 x8_2) - (rd t193 x9_3))) ((rd_T42 l0_0 ((rd_T80 l0_1 x8_2).f0)).f0)))] from (k27_mkM _ _ _ (⟨x9_3,x8_2,wrap64 (Int.tdiv (wrap64 ((rd t193 x8_2) - (rd t193 x9_3))) ((rd_T42 l0_0 ((rd_T80 l0_1 x8_2).f0)).f0))⟩ : S27) )) (Reps.c3 (show Kd.M k27 _ _ _ (⟨x8_2,x9_3,wrap64 (-t205)⟩ : S27) [.int .i64 x8_2,.int .i64 x9_3,.int .i64 (wrap64 (-t205))] from (k27_mkM _ _ _ (⟨x8_2,x9_3,wrap64 (-t205)⟩ : S27) )) (Reps.none _ _))))
                       intro v207 w77 ho78 hb hg_ hnew_
                       clear hg_ hnew_
                       (first | rw [← Ny206.out] at ho78 | (simp only [Int.reduceToNat] at ho78; rw [← Ny206.out] at ho78))
                       have n0_ := Aside0.mk (Kd.R_elder' (by (with_reducible repeat (first | apply Kd.R_alloc | apply Kd.R_drewN | apply Kd.R_drew)); exact HO_3.out) (Kd.R_base ho78) hb)
                       have n1_ := Aside0.mk (Kd.R_below (by (with_reducible repeat (first | apply Kd.R_alloc | apply Kd.R_drewN | apply Kd.R_drew)); exact HO_6.out) hb)
                       have n2_ := Aside0.mk (Kd.R_below (by (with_reducible repeat (first | apply Kd.R_alloc | apply Kd.R_drewN | apply Kd.R_drew)); exact HO_7.out) hb)
                       have n3_ := Aside0.mk (Kd.R_lower (Kd.R_new' ho78 (Kd.R_lt (by (with_reducible repeat (first | apply Kd.R_alloc | apply Kd.R_drewN | apply Kd.R_drew)); exact HO_3.out))) (below_size (by repeat (first | (with_reducible first | exact HB.out | apply below_alloc | apply pw_below_drewN | apply below_drew1 | refine below_set ?_ GE169.out | refine below_set ?_ GE202.out) | exact HB.out))))
                       have n4_ := Aside0.mk (blk_below (g := gb169) (o := .cells #[.slice (some ad201) l0_0.length c0_0,.slice (some ad200) l0_1.length c0_1] 25 (0,0)) (by (with_reducible repeat (first | refine blk_drewN ?_ _ | refine blk_drew ?_ | refine blk_alloc ?_ _)); exact BK169.out) hb)
                       have n5_ := Aside0.mk (blk_below (g := gb202) (o := .cells #[.int .i64 ((rd_T42 l0_0 ((rd_T80 l0_1 x8_2).f0)).f0),.int .i64 ((rd_T42 l0_0 ((rd_T80 l0_1 x8_2).f0)).f1)] 42 (0,0)) (by (with_reducible repeat (first | refine blk_drewN ?_ _ | refine blk_drew ?_ | refine blk_alloc ?_ _)); exact BK202.out) hb)
                       have n6_ := Aside0.mk (below_step (by repeat (first | (with_reducible first | exact HB.out | apply below_alloc | apply pw_below_drewN | apply below_drew1 | refine below_set ?_ GE169.out | refine below_set ?_ GE202.out) | exact HB.out)) hb)
                       clear HO_3
                       clear HO_6
                       clear HO_7
                       clear BK169
                       clear BK202
                       clear HB
                       have HO_3 := n0_
                       have HO_6 := n1_
                       have HO_7 := n2_
                       have HO208 := n3_
                       have BK169 := n4_
                       have BK202 := n5_
                       have HB := n6_
                       clear n0_ n1_ n2_ n3_ n4_ n5_ n6_
                       clear hb ho78
                       obtain ⟨Ao80,co80,eo80⟩ := Kd.R_slice HO208.out
                       (first | subst eo80 | (injection eo80 with f1_ f2_ f3_; have f4_ := f1_.symm; have f5_ := f3_.symm; clear f1_ f2_ f3_; subst f4_; subst f5_))
                       refine hK.out _ _ ⟨(blk_cell BK202.out 0).trans rfl,(blk_cell BK202.out 1).trans rfl⟩ (fun hHeld => ?_)
                       clear hK K
                       refine norm_ (a' := ?_) ?_ ?_
                       rotate_left
                       ·show Act.put _ (some 138) _ = _
                        simp only [Act.put,List.setIfInBounds_toArray,List.set_cons_zero,List.set_cons_succ,i64_w,i32_w]
                        rfl
                       refine one_ (i := 17) (N := some 139) #[true,true,true,true,true,true,true,true,true,true,true,true,true,true,true,true,true,true,false] rfl rfl (one_of HT_.out (by kernel_rfl)) (by decide) (fun K hK => ?_)
                       refine Kd.R_append_rows_step k27 (w0 := w) w.heap.size (by rfl) (.tmp 122) (.tmp 138) 68 27 (.agg #[(.int .i64 0),(.int .i64 0),(.int .i64 0)]) 24 rfl Try.underlying68 info27 rfl (by decide) (by omega) u3 x3_3 y206 _ _ _ (fun k_ => some k_ ≠ (.slice Ao80 y206.length co80 : Value).ownBlock) (fun _ => False) rfl rfl ?aO ?aR (fun _ _ h => h) (fun _ h => h.elim) ?aF ?aB ?aS ?aL ?_
                       (case aR => repeat (first | exact (Kd.R_reads' HO208.out).2.2 | (with_reducible refine Kd.C_alloc ?_ _) | (with_reducible refine Kd.C_drewN ?_ _) | (with_reducible refine Kd.C_drew ?_)))
                       (case aB => exact (by repeat (first | (with_reducible first | exact HB.out | apply below_alloc | apply pw_below_drewN | apply below_drew1 | refine below_set ?_ GE169.out | refine below_set ?_ GE202.out) | exact HB.out)))
                       (case aF => exact (fun k_ hk => Kd.fresh' (Kd.R_lt (by (with_reducible repeat (first | apply Kd.R_alloc | apply Kd.R_drewN | apply Kd.R_drew)); exact HO208.out)) k_ hk))
                       (case aO => exact (by (with_reducible repeat (first | apply Kd.R_alloc | apply Kd.R_drewN | apply Kd.R_drew)); exact Kd.R_mono HO_3.out (fun _ hk => hk.2)))
                       (case aS => exact (below_size (by repeat (first | (with_reducible first | exact HB.out | apply below_alloc | apply pw_below_drewN | apply below_drew1 | refine below_set ?_ GE169.out | refine below_set ?_ GE202.out) | exact HB.out))))
                       (case aL => have := LMc64.out; omega)
                       intro v210 w79 ho hb hg hat
                       rw [← Ny209.out] at ho
                       have n0_ := Aside0.mk (Kd.R_over' (by (with_reducible repeat (first | apply Kd.R_alloc | apply Kd.R_drewN | apply Kd.R_drew)); exact HO_6.out) (Kd.R_typed (by (with_reducible repeat (first | apply Kd.R_alloc | apply Kd.R_drewN | apply Kd.R_drew)); exact HO_3.out)) (by decide) hg)
                       have n1_ := Aside0.mk (Kd.R_over' (by (with_reducible repeat (first | apply Kd.R_alloc | apply Kd.R_drewN | apply Kd.R_drew)); exact HO_7.out) (Kd.R_typed (by (with_reducible repeat (first | apply Kd.R_alloc | apply Kd.R_drewN | apply Kd.R_drew)); exact HO_3.out)) (by decide) hg)
                       have n2_ := Aside0.mk (blk_grown (g := gb169) (o := .cells #[.slice (some ad201) l0_0.length c0_0,.slice (some ad200) l0_1.length c0_1] 25 (0,0)) (by (with_reducible repeat (first | refine blk_drewN ?_ _ | refine blk_drew ?_ | refine blk_alloc ?_ _)); exact BK169.out) hg (Kd.R_ne HO_3.out BK169.out (by decide)))
                       have n3_ := Aside0.mk (blk_grown (g := gb202) (o := .cells #[.int .i64 ((rd_T42 l0_0 ((rd_T80 l0_1 x8_2).f0)).f0),.int .i64 ((rd_T42 l0_0 ((rd_T80 l0_1 x8_2).f0)).f1)] 42 (0,0)) (by (with_reducible repeat (first | refine blk_drewN ?_ _ | refine blk_drew ?_ | refine blk_alloc ?_ _)); exact BK202.out) hg (Kd.R_ne HO_3.out BK202.out (by decide)))
                       have n4_ := Aside0.mk (Kd.R_after (ok := (fun _ => True)) (by (with_reducible repeat (first | apply Kd.R_alloc | apply Kd.R_drewN | apply Kd.R_drew)); exact HO208.out) hg hat)
                       have n5_ := Aside0.mk (hb)
                       have n6_ := Aside0.mk (ho)
                       clear HO_6
                       clear HO_7
                       clear BK169
                       clear BK202
                       clear HO208
                       clear HB
                       clear HO_3
                       have HO_6 := n0_
                       have HO_7 := n1_
                       have BK169 := n2_
                       have BK202 := n3_
                       have HO208 := n4_
                       have HB := n5_
                       have HO211 := n6_
                       clear n0_ n1_ n2_ n3_ n4_ n5_ n6_
                       clear ho hb hg hat
                       refine hK.out _ _ ⟨(blk_cell BK202.out 0).trans rfl,(blk_cell BK202.out 1).trans rfl⟩ (fun hHeld => ?_)
                       clear hK K
                       refine norm_ (a' := ?_) ?_ ?_
                       rotate_left
                       ·show Act.put _ (some 139) _ = _
                        simp only [Act.put,List.setIfInBounds_toArray,List.set_cons_zero,List.set_cons_succ,i64_w,i32_w]
                        rfl
                       refine pure_ (i := 18) (N := some 3) (v := ?_) (a' := ?_) #[true,true,true,true,true,true,true,true,true,true,true,true,true,true,true,true,true,true,true] rfl rfl (any_of HT_.out (by kernel_rfl)) (fun _ _ _ h => h) (Or.inl ⟨by rfl,?_⟩) ?_ ?_
                       rotate_left
                       ·intro w'
                        go_simp
                        with_reducible rfl
                       rotate_left
                       ·simp only [Act.put,List.setIfInBounds_toArray,List.set_cons_zero,List.set_cons_succ,i64_w,i32_w]
                        rfl
                       refine done_ (done_of HT_.out (by kernel_rfl)) ?_
                       try go_wp2
                       go_roundg k3
                       case measure => have := HK1.out; have := HK2.out; have := HK3.out; omega
                       case rel => exact ⟨(y209),(wrap64 (x9_3 + 1)),(by first | rfl | (simp; done) | (simp [*]; done)),H',⟨by have := HK1.out; have := HK2.out; have := HK3.out; omega⟩,⟨by (with_reducible repeat (first | apply Kd.R_alloc | apply Kd.R_drewN | apply Kd.R_drew)); exact Kd.R_mono HO211.out (fun _ hk => trivial)⟩,⟨by (with_reducible repeat (first | apply Kd.R_alloc | apply Kd.R_drewN | apply Kd.R_drew)); exact HO_6.out⟩,⟨by (with_reducible repeat (first | apply Kd.R_alloc | apply Kd.R_drewN | apply Kd.R_drew)); exact HO_7.out⟩,⟨by (with_reducible repeat (first | refine blk_drewN ?_ _ | refine blk_drew ?_ | refine blk_alloc ?_ _)); exact BK169.out⟩,⟨by repeat (first | (with_reducible first | exact HB.out | apply below_alloc | apply pw_below_drewN | apply below_drew1 | refine below_set ?_ GE169.out | refine below_set ?_ GE202.out) | exact HB.out)⟩⟩
                      ·rw [if_neg c64] at H
                       exact absurd H (by simp)
                    ·rw [if_neg c61] at H
                     exact absurd H (by simp)
                   ·rw [if_neg c60] at H
                    exact absurd H (by simp)
                  ·rw [if_neg c59] at H
                   exact absurd H (by simp)
                 ·rw [if_neg c58] at H
                  have c58b0 : decide ((rd t193 x9_3) < (rd t193 x8_2)) = false := decide_eq_false c58
                  clear c58
                  by_cases c81 : x8_2 < (l0_1.length : Int)
                  ·rw [if_pos c81] at H
                   have c81b0 : decide (x8_2 < (l0_1.length : Int)) = true := decide_eq_true c81
                   clear c81
                   by_cases c82 : 0 ≤ ((rd_T80 l0_1 x8_2).f0)
                   ·rw [if_pos c82] at H
                    have c82b0 : decide (0 ≤ ((rd_T80 l0_1 x8_2).f0)) = true := decide_eq_true c82
                    clear c82
                    by_cases c83 : ((rd_T80 l0_1 x8_2).f0) < (l0_0.length : Int)
                    ·rw [if_pos c83] at H
                     have c83b0 : decide (((rd_T80 l0_1 x8_2).f0) < (l0_0.length : Int)) = true := decide_eq_true c83
                     clear c83
                     by_cases c84 : ((rd_T42 l0_0 ((rd_T80 l0_1 x8_2).f0)).f0) = 0
                     ·rw [if_pos c84] at H
                      exact absurd H (by simp)
                     ·rw [if_neg c84] at H
                      have c84b0 : (((rd_T42 l0_0 ((rd_T80 l0_1 x8_2).f0)).f0) == 0) = false := beq_eq_false_iff_ne.mpr c84
                      have c84b1 : (((rd_T42 l0_0 ((rd_T80 l0_1 x8_2).f0)).f0) != 0) = true := bne_iff_ne.mpr c84
                      replace H := Option.bind_eq_some_iff.mp H
                      obtain ⟨t217,A850,H⟩ := H
                      replace H : ((some (([(⟨x8_2,x9_3,wrap64 (Int.tdiv (wrap64 ((rd t193 x9_3) - (rd t193 x8_2))) ((rd_T42 l0_0 ((rd_T80 l0_1 x8_2).f0)).f0))⟩ : S27),(⟨x9_3,x8_2,wrap64 (-t217)⟩ : S27)] : List (S27)) : List (S27))).bind fun y218 => (if x3_3.length + y218.length < 5864062014805 then (rf_binds.l2 k3 (x3_3 ++ y218) t190 t193 x8_2 (wrap64 (x9_3 + 1)) l0_0 l0_1) else (none))) = some r := H
                      have A85 := Aside0.mk A850
                      clear A850
                      obtain ⟨y218,hy218⟩ : ∃ y_ : List (S27),y_ = (([(⟨x8_2,x9_3,wrap64 (Int.tdiv (wrap64 ((rd t193 x9_3) - (rd t193 x8_2))) ((rd_T42 l0_0 ((rd_T80 l0_1 x8_2).f0)).f0))⟩ : S27),(⟨x9_3,x8_2,wrap64 (-t217)⟩ : S27)] : List (S27))) := ⟨_,rfl⟩
                      replace H : (if x3_3.length + y218.length < 5864062014805 then (rf_binds.l2 k3 (x3_3 ++ y218) t190 t193 x8_2 (wrap64 (x9_3 + 1)) l0_0 l0_1) else (none)) = some r := by first | (rw [hy218]; with_reducible exact H) | (have H2_ := (Option.bind_some _ _).symm.trans H; rw [hy218]; with_reducible exact H2_) | (have H2_ := (Option.bind_some _ _).symm.trans H; with_reducible exact H2_) | with_reducible exact H | (rw [hy218]; exact H) | exact H
                      have Ny218 := Aside0.mk hy218
                      clear hy218
                      by_cases c86 : x3_3.length + y218.length < 5864062014805
                      ·rw [if_pos c86] at H
                       have LMc86 := Aside0.mk c86
                       clear c86
                       obtain ⟨y221,hy221⟩ : ∃ y_ : List (S27),y_ = (x3_3 ++ y218) := ⟨_,rfl⟩
                       replace H : (rf_binds.l2 k3 y221 t190 t193 x8_2 (wrap64 (x9_3 + 1)) l0_0 l0_1) = some r := by first | (rw [hy221]; with_reducible exact H) | (have H2_ := (Option.bind_some _ _).symm.trans H; rw [hy221]; with_reducible exact H2_) | (have H2_ := (Option.bind_some _ _).symm.trans H; with_reducible exact H2_) | with_reducible exact H | (rw [hy221]; exact H) | exact H
                       have Ny221 := Aside0.mk hy221
                       clear hy221
                       have H' := Aside0.mk H
                       clear H
                       have hcz87_0 : wr.cell? ⟨gb169,0,none⟩ = some (.slice A0_0 l0_0.length c0_0) := (blk_cell BK169.out 0).trans rfl
                       have hcz87_1 : wr.cell? ⟨gb169,1,none⟩ = some (.slice A0_1 l0_1.length c0_1) := (blk_cell BK169.out 1).trans rfl
                       have hfz87_0 := blk_frozen BK169.out 0
                       have hfz87_1 := blk_frozen BK169.out 1
                       try go_wp2
                       have n0_ := Aside0.mk (Kd.R_drew HO_3.out)
                       have n1_ := Aside0.mk (Kd.R_drew HO_6.out)
                       have n2_ := Aside0.mk (Kd.R_drew HO_7.out)
                       have n3_ := Aside0.mk (blk_drew BK169.out)
                       have n4_ := Aside0.mk (below_drew1 HB.out)
                       clear HO_3
                       clear HO_6
                       clear HO_7
                       clear BK169
                       clear HB
                       have HO_3 := n0_
                       have HO_6 := n1_
                       have HO_7 := n2_
                       have BK169 := n3_
                       have HB := n4_
                       clear n0_ n1_ n2_ n3_ n4_
                       obtain ⟨Ao89,co89,eo89⟩ := Kd.R_slice HO_6.out
                       (first | subst eo89 | (injection eo89 with f1_ f2_ f3_; have f4_ := f1_.symm; have f5_ := f3_.symm; clear f1_ f2_ f3_; subst f4_; subst f5_))
                       have p196 : 0 ≤ (x8_2 : Int) := of_decide_eq_true (by first | (with_reducible assumption) | assumption)
                       have q196 : x8_2 < (t190.length : Int) := of_decide_eq_true (by first | (with_reducible assumption) | assumption)
                       obtain ⟨ad196,e196,hx196_0⟩ := Kd.at_int (Kd.R_reads' HO_6.out).2.2 x8_2 p196 q196
                       cases e196
                       replace p196 := eq_true p196
                       replace q196 := eq_true q196
                       have p197 : 0 ≤ (x9_3 : Int) := of_decide_eq_true (by first | (with_reducible assumption) | assumption)
                       have q197 : x9_3 < (t190.length : Int) := of_decide_eq_true (by first | (with_reducible assumption) | assumption)
                       obtain ⟨ad197,e197,hx197_0⟩ := Kd.at_int (Kd.R_reads' HO_6.out).2.2 x9_3 p197 q197
                       obtain rfl : ad196 = ad197 := (by injection e197)
                       replace p197 := eq_true p197
                       replace q197 := eq_true q197
                       refine start_ (n := 9) (S := fun w' => w'.cell? (ad196.add (x8_2).toNat) = some (.int .i64 (rd t190 x8_2)) ∧ w'.cell? (ad196.add (x9_3).toNat) = some (.int .i64 (rd t190 x9_3))) (ds := []) #[false,false,false,false,false,false,false,false,false] (by kernel_rfl) rfl rfl ⟨hx196_0,hx197_0⟩ (fun hHeld => ?_); refine with_tabW rf_binds.tab17 rf_binds.bits17 (fun HT_ HW_ => ?_)
                       generalize wr.drew = w88 at HO_3 HO_6 HO_7 BK169 HB hx196_0 hx197_0 hHeld ⊢
                       refine pure_ (i := 0) (N := some 81) (v := ?_) (a' := ?_) #[true,false,false,false,false,false,false,false,false] rfl rfl (any_of HT_.out (by kernel_rfl)) (fun _ _ _ h => h) (Or.inl ⟨by rfl,?_⟩) ?_ ?_
                       rotate_left
                       ·intro w'
                        go_simp
                        with_reducible rfl
                       rotate_left
                       ·simp only [Act.put,List.setIfInBounds_toArray,List.set_cons_zero,List.set_cons_succ,i64_w,i32_w]
                        rfl
                       refine pure_ (i := 1) (N := some 82) (v := ?_) (a' := ?_) #[true,true,false,false,false,false,false,false,false] rfl rfl (any_of HT_.out (by kernel_rfl)) (fun _ _ _ h => h) (Or.inl ⟨by rfl,?_⟩) ?_ ?_
                       rotate_left
                       ·intro w'
                        go_simp
                        with_reducible rfl
                       rotate_left
                       ·simp only [Act.put,List.setIfInBounds_toArray,List.set_cons_zero,List.set_cons_succ,i64_w,i32_w]
                        rfl
                       refine pure_ (i := 2) (N := some 83) (v := ?_) (a' := ?_) #[true,true,true,false,false,false,false,false,false] rfl rfl (any_of HT_.out (by kernel_rfl)) (fun _ _ _ h => h) (Or.inl ⟨by rfl,?_⟩) ?_ ?_
                       rotate_left
                       ·intro w'
                        go_simp
                        with_reducible rfl
                       rotate_left
                       ·simp only [Act.put,List.setIfInBounds_toArray,List.set_cons_zero,List.set_cons_succ,i64_w,i32_w]
                        rfl
                       refine pure_ (i := 4) (N := some 85) (v := ?_) (a' := ?_) #[true,true,true,false,true,false,false,false,false] rfl rfl (any_of HT_.out (by kernel_rfl)) (fun _ _ _ h => h) (Or.inl ⟨by rfl,?_⟩) ?_ ?_
                       rotate_left
                       ·intro w'
                        go_simp
                        with_reducible rfl
                       rotate_left
                       ·simp only [Act.put,List.setIfInBounds_toArray,List.set_cons_zero,List.set_cons_succ,i64_w,i32_w]
                        rfl
                       refine pure_ (i := 5) (N := some 86) (v := ?_) (a' := ?_) #[true,true,true,false,true,true,false,false,false] rfl rfl (any_of HT_.out (by kernel_rfl)) (fun _ _ _ h => h) (Or.inl ⟨by rfl,?_⟩) ?_ ?_
                       rotate_left
                       ·intro w'
                        go_simp
                        with_reducible rfl
                       rotate_left
                       ·simp only [Act.put,List.setIfInBounds_toArray,List.set_cons_zero,List.set_cons_succ,i64_w,i32_w]
                        rfl
                       refine pure_ (i := 6) (N := some 87) (v := ?_) (a' := ?_) #[true,true,true,false,true,true,true,false,false] rfl rfl (any_of HT_.out (by kernel_rfl)) (fun _ _ _ h => h) (Or.inl ⟨by rfl,?_⟩) ?_ ?_
                       rotate_left
                       ·intro w'
                        go_simp
                        with_reducible rfl
                       rotate_left
                       ·simp only [Act.put,List.setIfInBounds_toArray,List.set_cons_zero,List.set_cons_succ,i64_w,i32_w]
                        rfl
                       refine take_ (i := 3) (N := some 84) (v := ?_) (a' := ?_) #[true,true,true,true,true,true,true,false,false] rfl rfl (take_ofW HT_.out HW_.out (by kernel_rfl)) (fun _ _ _ h => h) (Or.inl ⟨by rfl,?_⟩) hHeld ?_ ?_
                       rotate_left
                       ·rintro w' ⟨s0,s1⟩
                        go_simp
                        with_reducible rfl
                       rotate_left
                       ·simp only [Act.put,List.setIfInBounds_toArray,List.set_cons_zero,List.set_cons_succ,i64_w,i32_w]
                        rfl
                       refine take_ (i := 7) (N := some 88) (v := ?_) (a' := ?_) #[true,true,true,true,true,true,true,true,false] rfl rfl (take_ofW HT_.out HW_.out (by kernel_rfl)) (fun _ _ _ h => h) (Or.inl ⟨by rfl,?_⟩) hHeld ?_ ?_
                       rotate_left
                       ·rintro w' ⟨s0,s1⟩
                        go_simp
                        with_reducible rfl
                       rotate_left
                       ·simp only [Act.put,List.setIfInBounds_toArray,List.set_cons_zero,List.set_cons_succ,i64_w,i32_w]
                        rfl
                       refine pure_ (i := 8) (N := some 89) (v := ?_) (a' := ?_) #[true,true,true,true,true,true,true,true,true] rfl rfl (any_of HT_.out (by kernel_rfl)) (fun _ _ _ h => h) (Or.inl ⟨by rfl,?_⟩) ?_ ?_
                       rotate_left
                       ·intro w'
                        go_simp
                        with_reducible rfl
                       rotate_left
                       ·simp only [Act.put,List.setIfInBounds_toArray,List.set_cons_zero,List.set_cons_succ,i64_w,i32_w]
                        rfl
                       refine done_ (done_of HT_.out (by kernel_rfl)) ?_
                       try go_wp2
                       have n0_ := Aside0.mk (Kd.R_drew HO_3.out)
                       have n1_ := Aside0.mk (Kd.R_drew HO_6.out)
                       have n2_ := Aside0.mk (Kd.R_drew HO_7.out)
                       have n3_ := Aside0.mk (blk_drew BK169.out)
                       have n4_ := Aside0.mk (below_drew1 HB.out)
                       clear HO_3
                       clear HO_6
                       clear HO_7
                       clear BK169
                       clear HB
                       have HO_3 := n0_
                       have HO_6 := n1_
                       have HO_7 := n2_
                       have BK169 := n3_
                       have HB := n4_
                       clear n0_ n1_ n2_ n3_ n4_
                       obtain ⟨Ao91,co91,eo91⟩ := Kd.R_slice HO_7.out
                       (first | subst eo91 | (injection eo91 with f1_ f2_ f3_; have f4_ := f1_.symm; have f5_ := f3_.symm; clear f1_ f2_ f3_; subst f4_; subst f5_))
                       have p198 : 0 ≤ (x9_3 : Int) := of_decide_eq_true (by first | (with_reducible assumption) | assumption)
                       have q198 : x9_3 < (t193.length : Int) := of_decide_eq_true (by first | (with_reducible assumption) | assumption)
                       obtain ⟨ad198,e198,hx198_0⟩ := Kd.at_int (Kd.R_reads' HO_7.out).2.2 x9_3 p198 q198
                       cases e198
                       replace p198 := eq_true p198
                       replace q198 := eq_true q198
                       have p199 : 0 ≤ (x8_2 : Int) := of_decide_eq_true (by first | (with_reducible assumption) | assumption)
                       have q199 : x8_2 < (t193.length : Int) := of_decide_eq_true (by first | (with_reducible assumption) | assumption)
                       obtain ⟨ad199,e199,hx199_0⟩ := Kd.at_int (Kd.R_reads' HO_7.out).2.2 x8_2 p199 q199
                       obtain rfl : ad198 = ad199 := (by injection e199)
                       replace p199 := eq_true p199
                       replace q199 := eq_true q199
                       refine start_ (n := 9) (S := fun w' => w'.cell? (ad198.add (x9_3).toNat) = some (.int .i64 (rd t193 x9_3)) ∧ w'.cell? (ad198.add (x8_2).toNat) = some (.int .i64 (rd t193 x8_2))) (ds := []) #[false,false,false,false,false,false,false,false,false] (by kernel_rfl) rfl rfl ⟨hx198_0,hx199_0⟩ (fun hHeld => ?_); refine with_tabW rf_binds.tab20 rf_binds.bits20 (fun HT_ HW_ => ?_)
                       generalize w88.drew = w90 at HO_3 HO_6 HO_7 BK169 HB hx198_0 hx199_0 hHeld ⊢
                       refine pure_ (i := 0) (N := some 92) (v := ?_) (a' := ?_) #[true,false,false,false,false,false,false,false,false] rfl rfl (any_of HT_.out (by kernel_rfl)) (fun _ _ _ h => h) (Or.inl ⟨by rfl,?_⟩) ?_ ?_
                       rotate_left
                       ·intro w'
                        go_simp
                        with_reducible rfl
                       rotate_left
                       ·simp only [Act.put,List.setIfInBounds_toArray,List.set_cons_zero,List.set_cons_succ,i64_w,i32_w]
                        rfl
                       refine pure_ (i := 1) (N := some 93) (v := ?_) (a' := ?_) #[true,true,false,false,false,false,false,false,false] rfl rfl (any_of HT_.out (by kernel_rfl)) (fun _ _ _ h => h) (Or.inl ⟨by rfl,?_⟩) ?_ ?_
                       rotate_left
                       ·intro w'
                        go_simp
                        with_reducible rfl
                       rotate_left
                       ·simp only [Act.put,List.setIfInBounds_toArray,List.set_cons_zero,List.set_cons_succ,i64_w,i32_w]
                        rfl
                       refine pure_ (i := 2) (N := some 94) (v := ?_) (a' := ?_) #[true,true,true,false,false,false,false,false,false] rfl rfl (any_of HT_.out (by kernel_rfl)) (fun _ _ _ h => h) (Or.inl ⟨by rfl,?_⟩) ?_ ?_
                       rotate_left
                       ·intro w'
                        go_simp
                        with_reducible rfl
                       rotate_left
                       ·simp only [Act.put,List.setIfInBounds_toArray,List.set_cons_zero,List.set_cons_succ,i64_w,i32_w]
                        rfl
                       refine pure_ (i := 4) (N := some 96) (v := ?_) (a' := ?_) #[true,true,true,false,true,false,false,false,false] rfl rfl (any_of HT_.out (by kernel_rfl)) (fun _ _ _ h => h) (Or.inl ⟨by rfl,?_⟩) ?_ ?_
                       rotate_left
                       ·intro w'
                        go_simp
                        with_reducible rfl
                       rotate_left
                       ·simp only [Act.put,List.setIfInBounds_toArray,List.set_cons_zero,List.set_cons_succ,i64_w,i32_w]
                        rfl
                       refine pure_ (i := 5) (N := some 97) (v := ?_) (a' := ?_) #[true,true,true,false,true,true,false,false,false] rfl rfl (any_of HT_.out (by kernel_rfl)) (fun _ _ _ h => h) (Or.inl ⟨by rfl,?_⟩) ?_ ?_
                       rotate_left
                       ·intro w'
                        go_simp
                        with_reducible rfl
                       rotate_left
                       ·simp only [Act.put,List.setIfInBounds_toArray,List.set_cons_zero,List.set_cons_succ,i64_w,i32_w]
                        rfl
                       refine pure_ (i := 6) (N := some 98) (v := ?_) (a' := ?_) #[true,true,true,false,true,true,true,false,false] rfl rfl (any_of HT_.out (by kernel_rfl)) (fun _ _ _ h => h) (Or.inl ⟨by rfl,?_⟩) ?_ ?_
                       rotate_left
                       ·intro w'
                        go_simp
                        with_reducible rfl
                       rotate_left
                       ·simp only [Act.put,List.setIfInBounds_toArray,List.set_cons_zero,List.set_cons_succ,i64_w,i32_w]
                        rfl
                       refine take_ (i := 3) (N := some 95) (v := ?_) (a' := ?_) #[true,true,true,true,true,true,true,false,false] rfl rfl (take_ofW HT_.out HW_.out (by kernel_rfl)) (fun _ _ _ h => h) (Or.inl ⟨by rfl,?_⟩) hHeld ?_ ?_
                       rotate_left
                       ·rintro w' ⟨s0,s1⟩
                        go_simp
                        with_reducible rfl
                       rotate_left
                       ·simp only [Act.put,List.setIfInBounds_toArray,List.set_cons_zero,List.set_cons_succ,i64_w,i32_w]
                        rfl
                       refine take_ (i := 7) (N := some 99) (v := ?_) (a' := ?_) #[true,true,true,true,true,true,true,true,false] rfl rfl (take_ofW HT_.out HW_.out (by kernel_rfl)) (fun _ _ _ h => h) (Or.inl ⟨by rfl,?_⟩) hHeld ?_ ?_
                       rotate_left
                       ·rintro w' ⟨s0,s1⟩
                        go_simp
                        with_reducible rfl
                       rotate_left
                       ·simp only [Act.put,List.setIfInBounds_toArray,List.set_cons_zero,List.set_cons_succ,i64_w,i32_w]
                        rfl
                       refine pure_ (i := 8) (N := some 100) (v := ?_) (a' := ?_) #[true,true,true,true,true,true,true,true,true] rfl rfl (any_of HT_.out (by kernel_rfl)) (fun _ _ _ h => h) (Or.inl ⟨by rfl,?_⟩) ?_ ?_
                       rotate_left
                       ·intro w'
                        go_simp
                        with_reducible rfl
                       rotate_left
                       ·simp only [Act.put,List.setIfInBounds_toArray,List.set_cons_zero,List.set_cons_succ,i64_w,i32_w]
                        rfl
                       refine done_ (done_of HT_.out (by kernel_rfl)) ?_
                       try go_wp2
                       have n0_ := Aside0.mk (Kd.R_drew HO_3.out)
                       have n1_ := Aside0.mk (Kd.R_drew HO_6.out)
                       have n2_ := Aside0.mk (Kd.R_drew HO_7.out)
                       have n3_ := Aside0.mk (blk_drew BK169.out)
                       have n4_ := Aside0.mk (below_drew1 HB.out)
                       clear HO_3
                       clear HO_6
                       clear HO_7
                       clear BK169
                       clear HB
                       have HO_3 := n0_
                       have HO_6 := n1_
                       have HO_7 := n2_
                       have BK169 := n3_
                       have HB := n4_
                       clear n0_ n1_ n2_ n3_ n4_
                       have p212 : 0 ≤ (x8_2 : Int) := of_decide_eq_true (by first | (with_reducible assumption) | assumption)
                       have q212 : x8_2 < (l0_1.length : Int) := of_decide_eq_true (by first | (with_reducible assumption) | assumption)
                       obtain ⟨ad212,e212,hx212_0,hx212_1,hx212_2,hx212_3,hx212_4,hx212_5⟩ := at_T80 HR0_1.out x8_2 p212 q212
                       have hw212_5 := hx212_5
                       have hw212_4 := hx212_4
                       have hw212_3 := hx212_3
                       have hw212_2 := hx212_2
                       have hw212_1 := hx212_1
                       have hw212_0 := hx212_0
                       cases e212
                       replace hx212_0 := (HB.out.cell (World.block_lt_of_cell? w _ hx212_0)).trans hx212_0
                       replace hx212_1 := (HB.out.cell (World.block_lt_of_cell? w _ hx212_1)).trans hx212_1
                       replace hx212_2 := (HB.out.cell (World.block_lt_of_cell? w _ hx212_2)).trans hx212_2
                       replace hx212_3 := (HB.out.cell (World.block_lt_of_cell? w _ hx212_3)).trans hx212_3
                       replace hx212_4 := (HB.out.cell (World.block_lt_of_cell? w _ hx212_4)).trans hx212_4
                       replace hx212_5 := (HB.out.cell (World.block_lt_of_cell? w _ hx212_5)).trans hx212_5
                       replace p212 := eq_true p212
                       replace q212 := eq_true q212
                       have p213 : 0 ≤ (((rd_T80 l0_1 x8_2).f0) : Int) := of_decide_eq_true (by first | (with_reducible assumption) | assumption)
                       have q213 : ((rd_T80 l0_1 x8_2).f0) < (l0_0.length : Int) := of_decide_eq_true (by first | (with_reducible assumption) | assumption)
                       obtain ⟨ad213,e213,hx213_0,hx213_1⟩ := at_T42 HR0_0.out ((rd_T80 l0_1 x8_2).f0) p213 q213
                       have hw213_1 := hx213_1
                       have hw213_0 := hx213_0
                       cases e213
                       replace hx213_0 := (HB.out.cell (World.block_lt_of_cell? w _ hx213_0)).trans hx213_0
                       replace hx213_1 := (HB.out.cell (World.block_lt_of_cell? w _ hx213_1)).trans hx213_1
                       replace p213 := eq_true p213
                       replace q213 := eq_true q213
                       refine start_ (n := 12) (S := fun w' => w'.cell? ⟨gb169,0,none⟩ = some (.slice (some ad213) l0_0.length c0_0) ∧ w'.cell? ⟨gb169,1,none⟩ = some (.slice (some ad212) l0_1.length c0_1) ∧ w'.cell? (ad212.add ((x8_2).toNat * 6)) = some (.int .i64 ((rd_T80 l0_1 x8_2).f0)) ∧ w'.cell? ⟨(ad212.add ((x8_2).toNat * 6)).block,(ad212.add ((x8_2).toNat * 6)).off + 1,none⟩ = some (.int .i64 ((rd_T80 l0_1 x8_2).f1)) ∧ w'.cell? ⟨(ad212.add ((x8_2).toNat * 6)).block,(ad212.add ((x8_2).toNat * 6)).off + 2,none⟩ = some (.int .i64 ((rd_T80 l0_1 x8_2).f2)) ∧ w'.cell? ⟨(ad212.add ((x8_2).toNat * 6)).block,(ad212.add ((x8_2).toNat * 6)).off + 3,none⟩ = some (.int .i64 ((rd_T80 l0_1 x8_2).f3)) ∧ w'.cell? ⟨(ad212.add ((x8_2).toNat * 6)).block,(ad212.add ((x8_2).toNat * 6)).off + 4,none⟩ = some (.int .i64 ((rd_T80 l0_1 x8_2).f4)) ∧ w'.cell? ⟨(ad212.add ((x8_2).toNat * 6)).block,(ad212.add ((x8_2).toNat * 6)).off + 5,none⟩ = some (.int .i64 ((rd_T80 l0_1 x8_2).f5)) ∧ w'.cell? (ad213.add ((((rd_T80 l0_1 x8_2).f0)).toNat * 2)) = some (.int .i64 ((rd_T42 l0_0 ((rd_T80 l0_1 x8_2).f0)).f0)) ∧ w'.cell? ⟨(ad213.add ((((rd_T80 l0_1 x8_2).f0)).toNat * 2)).block,(ad213.add ((((rd_T80 l0_1 x8_2).f0)).toNat * 2)).off + 1,none⟩ = some (.int .i64 ((rd_T42 l0_0 ((rd_T80 l0_1 x8_2).f0)).f1))) (ds := []) #[false,false,false,false,false,false,false,false,false,false,false,false] (by kernel_rfl) rfl rfl ⟨(blk_cell BK169.out 0).trans rfl,(blk_cell BK169.out 1).trans rfl,((HB.out.cell (World.block_lt_of_cell? w _ hw212_0)).trans hw212_0),((HB.out.cell (World.block_lt_of_cell? w _ hw212_1)).trans hw212_1),((HB.out.cell (World.block_lt_of_cell? w _ hw212_2)).trans hw212_2),((HB.out.cell (World.block_lt_of_cell? w _ hw212_3)).trans hw212_3),((HB.out.cell (World.block_lt_of_cell? w _ hw212_4)).trans hw212_4),((HB.out.cell (World.block_lt_of_cell? w _ hw212_5)).trans hw212_5),((HB.out.cell (World.block_lt_of_cell? w _ hw213_0)).trans hw213_0),((HB.out.cell (World.block_lt_of_cell? w _ hw213_1)).trans hw213_1)⟩ (fun hHeld => ?_); refine with_tabW rf_binds.tab23 rf_binds.bits23 (fun HT_ HW_ => ?_)
                       generalize w90.drew = w92 at HO_3 HO_6 HO_7 BK169 HB hx212_0 hx212_1 hx212_2 hx212_3 hx212_4 hx212_5 hx213_0 hx213_1 hHeld ⊢
                       refine pure_ (i := 0) (N := some 103) (v := ?_) (a' := ?_) #[true,false,false,false,false,false,false,false,false,false,false,false] rfl rfl (any_of HT_.out (by kernel_rfl)) (fun _ _ _ h => h) (Or.inl ⟨by rfl,?_⟩) ?_ ?_
                       rotate_left
                       ·intro w'
                        go_simp
                        with_reducible rfl
                       rotate_left
                       ·simp only [Act.put,List.setIfInBounds_toArray,List.set_cons_zero,List.set_cons_succ,i64_w,i32_w]
                        rfl
                       refine pure_ (i := 2) (N := some 105) (v := ?_) (a' := ?_) #[true,false,true,false,false,false,false,false,false,false,false,false] rfl rfl (any_of HT_.out (by kernel_rfl)) (fun _ _ _ h => h) (Or.inl ⟨by rfl,?_⟩) ?_ ?_
                       rotate_left
                       ·intro w'
                        go_simp
                        with_reducible rfl
                       rotate_left
                       ·simp only [Act.put,List.setIfInBounds_toArray,List.set_cons_zero,List.set_cons_succ,i64_w,i32_w]
                        rfl
                       refine pure_ (i := 4) (N := some 107) (v := ?_) (a' := ?_) #[true,false,true,false,true,false,false,false,false,false,false,false] rfl rfl (any_of HT_.out (by kernel_rfl)) (fun _ _ _ h => h) (Or.inl ⟨by rfl,?_⟩) ?_ ?_
                       rotate_left
                       ·intro w'
                        go_simp
                        with_reducible rfl
                       rotate_left
                       ·simp only [Act.put,List.setIfInBounds_toArray,List.set_cons_zero,List.set_cons_succ,i64_w,i32_w]
                        rfl
                       refine take_ (i := 1) (N := some 104) (v := ?_) (a' := ?_) #[true,true,true,false,true,false,false,false,false,false,false,false] rfl rfl (take_ofW HT_.out HW_.out (by kernel_rfl)) (fun _ _ _ h => h) (Or.inl ⟨by rfl,?_⟩) hHeld ?_ ?_
                       rotate_left
                       ·rintro w' ⟨s0,s1,s2,s3,s4,s5,s6,s7,s8,s9⟩
                        go_simp
                        with_reducible rfl
                       rotate_left
                       ·simp only [Act.put,List.setIfInBounds_toArray,List.set_cons_zero,List.set_cons_succ,i64_w,i32_w]
                        rfl
                       refine take_ (i := 3) (N := some 106) (v := ?_) (a' := ?_) #[true,true,true,true,true,false,false,false,false,false,false,false] rfl rfl (take_ofW HT_.out HW_.out (by kernel_rfl)) (fun _ _ _ h => h) (Or.inl ⟨by rfl,?_⟩) hHeld ?_ ?_
                       rotate_left
                       ·rintro w' ⟨s0,s1,s2,s3,s4,s5,s6,s7,s8,s9⟩
                        go_simp
                        with_reducible rfl
                       rotate_left
                       ·simp only [Act.put,List.setIfInBounds_toArray,List.set_cons_zero,List.set_cons_succ,i64_w,i32_w]
                        rfl
                       refine pure_ (i := 5) (N := some 108) (v := ?_) (a' := ?_) #[true,true,true,true,true,true,false,false,false,false,false,false] rfl rfl (any_of HT_.out (by kernel_rfl)) (fun _ _ _ h => h) (Or.inl ⟨by rfl,?_⟩) ?_ ?_
                       rotate_left
                       ·intro w'
                        go_simp
                        with_reducible rfl
                       rotate_left
                       ·simp only [Act.put,List.setIfInBounds_toArray,List.set_cons_zero,List.set_cons_succ,i64_w,i32_w]
                        rfl
                       refine pure_ (i := 6) (N := some 109) (v := ?_) (a' := ?_) #[true,true,true,true,true,true,true,false,false,false,false,false] rfl rfl (any_of HT_.out (by kernel_rfl)) (fun _ _ _ h => h) (Or.inl ⟨by rfl,?_⟩) ?_ ?_
                       rotate_left
                       ·intro w'
                        go_simp
                        with_reducible rfl
                       rotate_left
                       ·simp only [Act.put,List.setIfInBounds_toArray,List.set_cons_zero,List.set_cons_succ,i64_w,i32_w]
                        rfl
                       refine take_ (i := 7) (N := some 110) (v := ?_) (a' := ?_) #[true,true,true,true,true,true,true,true,false,false,false,false] rfl rfl (take_ofW HT_.out HW_.out (by kernel_rfl)) (fun _ _ _ h => h) (Or.inl ⟨by rfl,?_⟩) hHeld ?_ ?_
                       rotate_left
                       ·rintro w' ⟨s0,s1,s2,s3,s4,s5,s6,s7,s8,s9⟩
                        go_simp
                        with_reducible rfl
                       rotate_left
                       ·simp only [Act.put,List.setIfInBounds_toArray,List.set_cons_zero,List.set_cons_succ,i64_w,i32_w]
                        rfl
                       refine pure_ (i := 8) (N := some 111) (v := ?_) (a' := ?_) #[true,true,true,true,true,true,true,true,true,false,false,false] rfl rfl (any_of HT_.out (by kernel_rfl)) (fun _ _ _ h => h) (Or.inl ⟨by rfl,?_⟩) ?_ ?_
                       rotate_left
                       ·intro w'
                        go_simp
                        with_reducible rfl
                       rotate_left
                       ·simp only [Act.put,List.setIfInBounds_toArray,List.set_cons_zero,List.set_cons_succ,i64_w,i32_w]
                        rfl
                       refine take_ (i := 9) (N := some 112) (v := ?_) (a' := ?_) #[true,true,true,true,true,true,true,true,true,true,false,false] rfl rfl (take_ofW HT_.out HW_.out (by kernel_rfl)) (fun _ _ _ h => h) (Or.inl ⟨by rfl,?_⟩) hHeld ?_ ?_
                       rotate_left
                       ·rintro w' ⟨s0,s1,s2,s3,s4,s5,s6,s7,s8,s9⟩
                        go_simp
                        with_reducible rfl
                       rotate_left
                       ·simp only [Act.put,List.setIfInBounds_toArray,List.set_cons_zero,List.set_cons_succ,i64_w,i32_w]
                        rfl
                       refine one_ (i := 10) (N := some 12) #[true,true,true,true,true,true,true,true,true,true,true,false] rfl rfl (one_of HT_.out (by kernel_rfl)) (by decide) (fun K hK => ?_)
                       refine box_step ?hg (N := 12) ?hd (cs := #[.int .i64 0,.int .i64 0]) (t := 42) ?hr ?_; (case hd => rfl); (case hg => rfl); (case hr => first | (go_simp; done) | (go_simp; rfl))
                       intro gb214 hg w93 hbox hb
                       have n0_ := Aside0.mk (Kd.R_below (by (with_reducible repeat (first | apply Kd.R_alloc | apply Kd.R_drewN | apply Kd.R_drew)); exact HO_3.out) hb)
                       have n1_ := Aside0.mk (Kd.R_below (by (with_reducible repeat (first | apply Kd.R_alloc | apply Kd.R_drewN | apply Kd.R_drew)); exact HO_6.out) hb)
                       have n2_ := Aside0.mk (Kd.R_below (by (with_reducible repeat (first | apply Kd.R_alloc | apply Kd.R_drewN | apply Kd.R_drew)); exact HO_7.out) hb)
                       have n3_ := Aside0.mk (blk_below (g := gb169) (o := .cells #[.slice (some ad213) l0_0.length c0_0,.slice (some ad212) l0_1.length c0_1] 25 (0,0)) (by (with_reducible repeat (first | refine blk_drewN ?_ _ | refine blk_drew ?_ | refine blk_alloc ?_ _)); exact BK169.out) hb)
                       have n4_ := Aside0.mk (below_step (by repeat (first | (with_reducible first | exact HB.out | apply below_alloc | apply pw_below_drewN | apply below_drew1 | refine below_set ?_ GE169.out) | exact HB.out)) hb)
                       have n5_ := Aside0.mk (hbox)
                       have n6_ := Aside0.mk ((by rw [hg]; exact (below_size (by repeat (first | (with_reducible first | exact HB.out | apply below_alloc | apply pw_below_drewN | apply below_drew1 | refine below_set ?_ GE169.out) | exact HB.out))) : w.heap.size ≤ gb214))
                       have n7_ := Aside0.mk ((by rw [hg]; exact (below_size (by repeat (first | (with_reducible first | exact HB.out | apply below_alloc | apply pw_below_drewN | apply below_drew1 | refine below_set ?_ GE169.out) | exact HB.out))) : w.heap.size ≤ gb214))
                       have n8_ := Aside0.mk ((by rw [hg]; exact Nat.ne_of_lt (blk_lt (g := gb169) (o := .cells #[.slice (some ad213) l0_0.length c0_0,.slice (some ad212) l0_1.length c0_1] 25 (0,0)) (by (with_reducible repeat (first | refine blk_drewN ?_ _ | refine blk_drew ?_ | refine blk_alloc ?_ _)); exact BK169.out)) : gb169 ≠ gb214))
                       have n9_ := Aside0.mk ((by rw [hg]; exact Nat.ne_of_gt (blk_lt (g := gb169) (o := .cells #[.slice (some ad213) l0_0.length c0_0,.slice (some ad212) l0_1.length c0_1] 25 (0,0)) (by (with_reducible repeat (first | refine blk_drewN ?_ _ | refine blk_drew ?_ | refine blk_alloc ?_ _)); exact BK169.out)) : gb214 ≠ gb169))
                       clear HO_3
                       clear HO_6
                       clear HO_7
                       clear BK169
                       clear HB
                       have HO_3 := n0_
                       have HO_6 := n1_
                       have HO_7 := n2_
                       have BK169 := n3_
                       have HB := n4_
                       have BK214 := n5_
                       have GW214 := n6_
                       have GE214 := n7_
                       have NB169_214 := n8_
                       have NB214_169 := n9_
                       clear n0_ n1_ n2_ n3_ n4_ n5_ n6_ n7_ n8_ n9_
                       clear hb hbox hg
                       refine hK.out _ _ ⟨(blk_cell BK169.out 0).trans rfl,(blk_cell BK169.out 1).trans rfl,((HB.out.cell (World.block_lt_of_cell? w _ hw212_0)).trans hw212_0),((HB.out.cell (World.block_lt_of_cell? w _ hw212_1)).trans hw212_1),((HB.out.cell (World.block_lt_of_cell? w _ hw212_2)).trans hw212_2),((HB.out.cell (World.block_lt_of_cell? w _ hw212_3)).trans hw212_3),((HB.out.cell (World.block_lt_of_cell? w _ hw212_4)).trans hw212_4),((HB.out.cell (World.block_lt_of_cell? w _ hw212_5)).trans hw212_5),((HB.out.cell (World.block_lt_of_cell? w _ hw213_0)).trans hw213_0),((HB.out.cell (World.block_lt_of_cell? w _ hw213_1)).trans hw213_1)⟩ (fun hHeld => ?_)
                       clear hK K
                       refine norm_ (a' := ?_) ?_ ?_
                       rotate_left
                       ·show Act.put _ (some 12) _ = _
                        simp only [Act.put,List.setIfInBounds_toArray,List.set_cons_zero,List.set_cons_succ,i64_w,i32_w]
                        rfl
                       refine one_ (i := 11) (N := none) #[true,true,true,true,true,true,true,true,true,true,true,true] rfl rfl (one_of HT_.out (by kernel_rfl)) (by decide) (fun K hK => ?_)
                       have hs94 : w93.cell? ⟨gb214,0,none⟩ = some (.int .i64 0) := (blk_cell BK214.out 0).trans rfl
                       have hfs94 := blk_frozen BK214.out 0
                       have hns94_0 := NB169_214.out
                       have hms94_0 := NB214_169.out
                       have hs95 : w93.cell? ⟨gb214,1,none⟩ = some (.int .i64 0) := (blk_cell BK214.out 1).trans rfl
                       have hfs95 := blk_frozen BK214.out 1
                       have hns95_0 := NB169_214.out
                       have hms95_0 := NB214_169.out
                       refine skip_ (w1 := ?_) (by rfl) rfl ?_ ?_
                       rotate_left
                       ·go_simp
                        rfl
                       refine hK.out _ _ ⟨((cell_far (p := ⟨gb214,_,none⟩) NB169_214.out _).trans (((cell_far (p := ⟨gb214,_,none⟩) NB169_214.out _).trans (hHeld.1)))),((cell_far (p := ⟨gb214,_,none⟩) NB169_214.out _).trans (((cell_far (p := ⟨gb214,_,none⟩) NB169_214.out _).trans (hHeld.2.1)))),((cell_far (p := ⟨gb214,_,none⟩) (by first | exact Nat.ne_of_lt (Nat.lt_of_lt_of_le (by have := World.block_lt_of_cell? _ _ hw212_0; first | rwa [add_block] at this | exact this) GW214.out) | (rw [add_block]; exact Nat.ne_of_lt (Nat.lt_of_lt_of_le (by have := World.block_lt_of_cell? _ _ hw212_0; first | rwa [add_block] at this | exact this) GW214.out)) | (show (Addr.add _ _).block ≠ _; rw [add_block]; exact Nat.ne_of_lt (Nat.lt_of_lt_of_le (by have := World.block_lt_of_cell? _ _ hw212_0; first | rwa [add_block] at this | exact this) GW214.out)) | (dsimp only; exact Nat.ne_of_lt (Nat.lt_of_lt_of_le (by have := World.block_lt_of_cell? _ _ hw212_0; first | rwa [add_block] at this | exact this) GW214.out))) _).trans (((cell_far (p := ⟨gb214,_,none⟩) (by first | exact Nat.ne_of_lt (Nat.lt_of_lt_of_le (by have := World.block_lt_of_cell? _ _ hw212_0; first | rwa [add_block] at this | exact this) GW214.out) | (rw [add_block]; exact Nat.ne_of_lt (Nat.lt_of_lt_of_le (by have := World.block_lt_of_cell? _ _ hw212_0; first | rwa [add_block] at this | exact this) GW214.out)) | (show (Addr.add _ _).block ≠ _; rw [add_block]; exact Nat.ne_of_lt (Nat.lt_of_lt_of_le (by have := World.block_lt_of_cell? _ _ hw212_0; first | rwa [add_block] at this | exact this) GW214.out)) | (dsimp only; exact Nat.ne_of_lt (Nat.lt_of_lt_of_le (by have := World.block_lt_of_cell? _ _ hw212_0; first | rwa [add_block] at this | exact this) GW214.out))) _).trans (hHeld.2.2.1)))),((cell_far (p := ⟨gb214,_,none⟩) (by first | exact Nat.ne_of_lt (Nat.lt_of_lt_of_le (by have := World.block_lt_of_cell? _ _ hw212_1; first | rwa [add_block] at this | exact this) GW214.out) | (rw [add_block]; exact Nat.ne_of_lt (Nat.lt_of_lt_of_le (by have := World.block_lt_of_cell? _ _ hw212_1; first | rwa [add_block] at this | exact this) GW214.out)) | (show (Addr.add _ _).block ≠ _; rw [add_block]; exact Nat.ne_of_lt (Nat.lt_of_lt_of_le (by have := World.block_lt_of_cell? _ _ hw212_1; first | rwa [add_block] at this | exact this) GW214.out)) | (dsimp only; exact Nat.ne_of_lt (Nat.lt_of_lt_of_le (by have := World.block_lt_of_cell? _ _ hw212_1; first | rwa [add_block] at this | exact this) GW214.out))) _).trans (((cell_far (p := ⟨gb214,_,none⟩) (by first | exact Nat.ne_of_lt (Nat.lt_of_lt_of_le (by have := World.block_lt_of_cell? _ _ hw212_1; first | rwa [add_block] at this | exact this) GW214.out) | (rw [add_block]; exact Nat.ne_of_lt (Nat.lt_of_lt_of_le (by have := World.block_lt_of_cell? _ _ hw212_1; first | rwa [add_block] at this | exact this) GW214.out)) | (show (Addr.add _ _).block ≠ _; rw [add_block]; exact Nat.ne_of_lt (Nat.lt_of_lt_of_le (by have := World.block_lt_of_cell? _ _ hw212_1; first | rwa [add_block] at this | exact this) GW214.out)) | (dsimp only; exact Nat.ne_of_lt (Nat.lt_of_lt_of_le (by have := World.block_lt_of_cell? _ _ hw212_1; first | rwa [add_block] at this | exact this) GW214.out))) _).trans (hHeld.2.2.2.1)))),((cell_far (p := ⟨gb214,_,none⟩) (by first | exact Nat.ne_of_lt (Nat.lt_of_lt_of_le (by have := World.block_lt_of_cell? _ _ hw212_2; first | rwa [add_block] at this | exact this) GW214.out) | (rw [add_block]; exact Nat.ne_of_lt (Nat.lt_of_lt_of_le (by have := World.block_lt_of_cell? _ _ hw212_2; first | rwa [add_block] at this | exact this) GW214.out)) | (show (Addr.add _ _).block ≠ _; rw [add_block]; exact Nat.ne_of_lt (Nat.lt_of_lt_of_le (by have := World.block_lt_of_cell? _ _ hw212_2; first | rwa [add_block] at this | exact this) GW214.out)) | (dsimp only; exact Nat.ne_of_lt (Nat.lt_of_lt_of_le (by have := World.block_lt_of_cell? _ _ hw212_2; first | rwa [add_block] at this | exact this) GW214.out))) _).trans (((cell_far (p := ⟨gb214,_,none⟩) (by first | exact Nat.ne_of_lt (Nat.lt_of_lt_of_le (by have := World.block_lt_of_cell? _ _ hw212_2; first | rwa [add_block] at this | exact this) GW214.out) | (rw [add_block]; exact Nat.ne_of_lt (Nat.lt_of_lt_of_le (by have := World.block_lt_of_cell? _ _ hw212_2; first | rwa [add_block] at this | exact this) GW214.out)) | (show (Addr.add _ _).block ≠ _; rw [add_block]; exact Nat.ne_of_lt (Nat.lt_of_lt_of_le (by have := World.block_lt_of_cell? _ _ hw212_2; first | rwa [add_block] at this | exact this) GW214.out)) | (dsimp only; exact Nat.ne_of_lt (Nat.lt_of_lt_of_le (by have := World.block_lt_of_cell? _ _ hw212_2; first | rwa [add_block] at this | exact this) GW214.out))) _).trans (hHeld.2.2.2.2.1)))),((cell_far (p := ⟨gb214,_,none⟩) (by first | exact Nat.ne_of_lt (Nat.lt_of_lt_of_le (by have := World.block_lt_of_cell? _ _ hw212_3; first | rwa [add_block] at this | exact this) GW214.out) | (rw [add_block]; exact Nat.ne_of_lt (Nat.lt_of_lt_of_le (by have := World.block_lt_of_cell? _ _ hw212_3; first | rwa [add_block] at this | exact this) GW214.out)) | (show (Addr.add _ _).block ≠ _; rw [add_block]; exact Nat.ne_of_lt (Nat.lt_of_lt_of_le (by have := World.block_lt_of_cell? _ _ hw212_3; first | rwa [add_block] at this | exact this) GW214.out)) | (dsimp only; exact Nat.ne_of_lt (Nat.lt_of_lt_of_le (by have := World.block_lt_of_cell? _ _ hw212_3; first | rwa [add_block] at this | exact this) GW214.out))) _).trans (((cell_far (p := ⟨gb214,_,none⟩) (by first | exact Nat.ne_of_lt (Nat.lt_of_lt_of_le (by have := World.block_lt_of_cell? _ _ hw212_3; first | rwa [add_block] at this | exact this) GW214.out) | (rw [add_block]; exact Nat.ne_of_lt (Nat.lt_of_lt_of_le (by have := World.block_lt_of_cell? _ _ hw212_3; first | rwa [add_block] at this | exact this) GW214.out)) | (show (Addr.add _ _).block ≠ _; rw [add_block]; exact Nat.ne_of_lt (Nat.lt_of_lt_of_le (by have := World.block_lt_of_cell? _ _ hw212_3; first | rwa [add_block] at this | exact this) GW214.out)) | (dsimp only; exact Nat.ne_of_lt (Nat.lt_of_lt_of_le (by have := World.block_lt_of_cell? _ _ hw212_3; first | rwa [add_block] at this | exact this) GW214.out))) _).trans (hHeld.2.2.2.2.2.1)))),((cell_far (p := ⟨gb214,_,none⟩) (by first | exact Nat.ne_of_lt (Nat.lt_of_lt_of_le (by have := World.block_lt_of_cell? _ _ hw212_4; first | rwa [add_block] at this | exact this) GW214.out) | (rw [add_block]; exact Nat.ne_of_lt (Nat.lt_of_lt_of_le (by have := World.block_lt_of_cell? _ _ hw212_4; first | rwa [add_block] at this | exact this) GW214.out)) | (show (Addr.add _ _).block ≠ _; rw [add_block]; exact Nat.ne_of_lt (Nat.lt_of_lt_of_le (by have := World.block_lt_of_cell? _ _ hw212_4; first | rwa [add_block] at this | exact this) GW214.out)) | (dsimp only; exact Nat.ne_of_lt (Nat.lt_of_lt_of_le (by have := World.block_lt_of_cell? _ _ hw212_4; first | rwa [add_block] at this | exact this) GW214.out))) _).trans (((cell_far (p := ⟨gb214,_,none⟩) (by first | exact Nat.ne_of_lt (Nat.lt_of_lt_of_le (by have := World.block_lt_of_cell? _ _ hw212_4; first | rwa [add_block] at this | exact this) GW214.out) | (rw [add_block]; exact Nat.ne_of_lt (Nat.lt_of_lt_of_le (by have := World.block_lt_of_cell? _ _ hw212_4; first | rwa [add_block] at this | exact this) GW214.out)) | (show (Addr.add _ _).block ≠ _; rw [add_block]; exact Nat.ne_of_lt (Nat.lt_of_lt_of_le (by have := World.block_lt_of_cell? _ _ hw212_4; first | rwa [add_block] at this | exact this) GW214.out)) | (dsimp only; exact Nat.ne_of_lt (Nat.lt_of_lt_of_le (by have := World.block_lt_of_cell? _ _ hw212_4; first | rwa [add_block] at this | exact this) GW214.out))) _).trans (hHeld.2.2.2.2.2.2.1)))),((cell_far (p := ⟨gb214,_,none⟩) (by first | exact Nat.ne_of_lt (Nat.lt_of_lt_of_le (by have := World.block_lt_of_cell? _ _ hw212_5; first | rwa [add_block] at this | exact this) GW214.out) | (rw [add_block]; exact Nat.ne_of_lt (Nat.lt_of_lt_of_le (by have := World.block_lt_of_cell? _ _ hw212_5; first | rwa [add_block] at this | exact this) GW214.out)) | (show (Addr.add _ _).block ≠ _; rw [add_block]; exact Nat.ne_of_lt (Nat.lt_of_lt_of_le (by have := World.block_lt_of_cell? _ _ hw212_5; first | rwa [add_block] at this | exact this) GW214.out)) | (dsimp only; exact Nat.ne_of_lt (Nat.lt_of_lt_of_le (by have := World.block_lt_of_cell? _ _ hw212_5; first | rwa [add_block] at this | exact this) GW214.out))) _).trans (((cell_far (p := ⟨gb214,_,none⟩) (by first | exact Nat.ne_of_lt (Nat.lt_of_lt_of_le (by have := World.block_lt_of_cell? _ _ hw212_5; first | rwa [add_block] at this | exact this) GW214.out) | (rw [add_block]; exact Nat.ne_of_lt (Nat.lt_of_lt_of_le (by have := World.block_lt_of_cell? _ _ hw212_5; first | rwa [add_block] at this | exact this) GW214.out)) | (show (Addr.add _ _).block ≠ _; rw [add_block]; exact Nat.ne_of_lt (Nat.lt_of_lt_of_le (by have := World.block_lt_of_cell? _ _ hw212_5; first | rwa [add_block] at this | exact this) GW214.out)) | (dsimp only; exact Nat.ne_of_lt (Nat.lt_of_lt_of_le (by have := World.block_lt_of_cell? _ _ hw212_5; first | rwa [add_block] at this | exact this) GW214.out))) _).trans (hHeld.2.2.2.2.2.2.2.1)))),((cell_far (p := ⟨gb214,_,none⟩) (by first | exact Nat.ne_of_lt (Nat.lt_of_lt_of_le (by have := World.block_lt_of_cell? _ _ hw213_0; first | rwa [add_block] at this | exact this) GW214.out) | (rw [add_block]; exact Nat.ne_of_lt (Nat.lt_of_lt_of_le (by have := World.block_lt_of_cell? _ _ hw213_0; first | rwa [add_block] at this | exact this) GW214.out)) | (show (Addr.add _ _).block ≠ _; rw [add_block]; exact Nat.ne_of_lt (Nat.lt_of_lt_of_le (by have := World.block_lt_of_cell? _ _ hw213_0; first | rwa [add_block] at this | exact this) GW214.out)) | (dsimp only; exact Nat.ne_of_lt (Nat.lt_of_lt_of_le (by have := World.block_lt_of_cell? _ _ hw213_0; first | rwa [add_block] at this | exact this) GW214.out))) _).trans (((cell_far (p := ⟨gb214,_,none⟩) (by first | exact Nat.ne_of_lt (Nat.lt_of_lt_of_le (by have := World.block_lt_of_cell? _ _ hw213_0; first | rwa [add_block] at this | exact this) GW214.out) | (rw [add_block]; exact Nat.ne_of_lt (Nat.lt_of_lt_of_le (by have := World.block_lt_of_cell? _ _ hw213_0; first | rwa [add_block] at this | exact this) GW214.out)) | (show (Addr.add _ _).block ≠ _; rw [add_block]; exact Nat.ne_of_lt (Nat.lt_of_lt_of_le (by have := World.block_lt_of_cell? _ _ hw213_0; first | rwa [add_block] at this | exact this) GW214.out)) | (dsimp only; exact Nat.ne_of_lt (Nat.lt_of_lt_of_le (by have := World.block_lt_of_cell? _ _ hw213_0; first | rwa [add_block] at this | exact this) GW214.out))) _).trans (hHeld.2.2.2.2.2.2.2.2.1)))),((cell_far (p := ⟨gb214,_,none⟩) (by first | exact Nat.ne_of_lt (Nat.lt_of_lt_of_le (by have := World.block_lt_of_cell? _ _ hw213_1; first | rwa [add_block] at this | exact this) GW214.out) | (rw [add_block]; exact Nat.ne_of_lt (Nat.lt_of_lt_of_le (by have := World.block_lt_of_cell? _ _ hw213_1; first | rwa [add_block] at this | exact this) GW214.out)) | (show (Addr.add _ _).block ≠ _; rw [add_block]; exact Nat.ne_of_lt (Nat.lt_of_lt_of_le (by have := World.block_lt_of_cell? _ _ hw213_1; first | rwa [add_block] at this | exact this) GW214.out)) | (dsimp only; exact Nat.ne_of_lt (Nat.lt_of_lt_of_le (by have := World.block_lt_of_cell? _ _ hw213_1; first | rwa [add_block] at this | exact this) GW214.out))) _).trans (((cell_far (p := ⟨gb214,_,none⟩) (by first | exact Nat.ne_of_lt (Nat.lt_of_lt_of_le (by have := World.block_lt_of_cell? _ _ hw213_1; first | rwa [add_block] at this | exact this) GW214.out) | (rw [add_block]; exact Nat.ne_of_lt (Nat.lt_of_lt_of_le (by have := World.block_lt_of_cell? _ _ hw213_1; first | rwa [add_block] at this | exact this) GW214.out)) | (show (Addr.add _ _).block ≠ _; rw [add_block]; exact Nat.ne_of_lt (Nat.lt_of_lt_of_le (by have := World.block_lt_of_cell? _ _ hw213_1; first | rwa [add_block] at this | exact this) GW214.out)) | (dsimp only; exact Nat.ne_of_lt (Nat.lt_of_lt_of_le (by have := World.block_lt_of_cell? _ _ hw213_1; first | rwa [add_block] at this | exact this) GW214.out))) _).trans (hHeld.2.2.2.2.2.2.2.2.2))))⟩ (fun hHeld => ?_)
                       clear hK K
                       refine done_ (done_of HT_.out (by kernel_rfl)) ?_
                       try go_wp2
                       have n0_ : Aside0 (Kd.R k27 27 ((w93.setCell ⟨gb214,0,none⟩ (.int .i64 ((rd_T42 l0_0 ((rd_T80 l0_1 x8_2).f0)).f0))).setCell ⟨gb214,1,none⟩ (.int .i64 ((rd_T42 l0_0 ((rd_T80 l0_1 x8_2).f0)).f1))) w.heap.size (fun _ => True) u3 x3_3) := ⟨by (with_reducible repeat (first | apply Kd.R_alloc | apply Kd.R_drewN | apply Kd.R_drew)); exact Kd.R_mono (Kd.R_far (p := ⟨gb214,1,none⟩) (Kd.R_far (p := ⟨gb214,0,none⟩) (Kd.R_types HO_3.out BK214.out (by decide)) (fun _ hk => hk.2) (.int .i64 ((rd_T42 l0_0 ((rd_T80 l0_1 x8_2).f0)).f0))) (fun _ hk => hk.2) (.int .i64 ((rd_T42 l0_0 ((rd_T80 l0_1 x8_2).f0)).f1))) (fun _ hk => trivial)⟩
                       have n1_ : Aside0 (Kd.R (Kd.int .i64) 3 ((w93.setCell ⟨gb214,0,none⟩ (.int .i64 ((rd_T42 l0_0 ((rd_T80 l0_1 x8_2).f0)).f0))).setCell ⟨gb214,1,none⟩ (.int .i64 ((rd_T42 l0_0 ((rd_T80 l0_1 x8_2).f0)).f1))) w.heap.size (fun k_ => some k_ ≠ (.slice (some ad198) t193.length co91 : Value).ownBlock) (.slice (some ad196) t190.length co89) t190) := ⟨by (with_reducible repeat (first | apply Kd.R_alloc | apply Kd.R_drewN | apply Kd.R_drew)); exact Kd.R_mono (Kd.R_far (p := ⟨gb214,1,none⟩) (Kd.R_far (p := ⟨gb214,0,none⟩) (Kd.R_types HO_6.out BK214.out (by decide)) (fun _ hk => hk.2) (.int .i64 ((rd_T42 l0_0 ((rd_T80 l0_1 x8_2).f0)).f0))) (fun _ hk => hk.2) (.int .i64 ((rd_T42 l0_0 ((rd_T80 l0_1 x8_2).f0)).f1))) (fun _ hk => hk.1)⟩
                       have n2_ : Aside0 (Kd.R (Kd.int .i64) 3 ((w93.setCell ⟨gb214,0,none⟩ (.int .i64 ((rd_T42 l0_0 ((rd_T80 l0_1 x8_2).f0)).f0))).setCell ⟨gb214,1,none⟩ (.int .i64 ((rd_T42 l0_0 ((rd_T80 l0_1 x8_2).f0)).f1))) w.heap.size (fun k_ => some k_ ≠ (.slice (some ad196) t190.length co89 : Value).ownBlock) (.slice (some ad198) t193.length co91) t193) := ⟨by (with_reducible repeat (first | apply Kd.R_alloc | apply Kd.R_drewN | apply Kd.R_drew)); exact Kd.R_mono (Kd.R_far (p := ⟨gb214,1,none⟩) (Kd.R_far (p := ⟨gb214,0,none⟩) (Kd.R_types HO_7.out BK214.out (by decide)) (fun _ hk => hk.2) (.int .i64 ((rd_T42 l0_0 ((rd_T80 l0_1 x8_2).f0)).f0))) (fun _ hk => hk.2) (.int .i64 ((rd_T42 l0_0 ((rd_T80 l0_1 x8_2).f0)).f1))) (fun _ hk => hk.1)⟩
                       have n3_ : Aside0 (((w93.setCell ⟨gb214,0,none⟩ (.int .i64 ((rd_T42 l0_0 ((rd_T80 l0_1 x8_2).f0)).f0))).setCell ⟨gb214,1,none⟩ (.int .i64 ((rd_T42 l0_0 ((rd_T80 l0_1 x8_2).f0)).f1))).heap[gb169]? = some (.cells #[.slice (some ad213) l0_0.length c0_0,.slice (some ad212) l0_1.length c0_1] 25 (0,0))) := ⟨by (with_reducible repeat (first | refine blk_drewN ?_ _ | refine blk_drew ?_ | refine blk_alloc ?_ _)); refine blk_far ?_ NB169_214.out _; (with_reducible repeat (first | refine blk_drewN ?_ _ | refine blk_drew ?_ | refine blk_alloc ?_ _)); refine blk_far ?_ NB169_214.out _; (with_reducible repeat (first | refine blk_drewN ?_ _ | refine blk_drew ?_ | refine blk_alloc ?_ _)); exact BK169.out⟩
                       have n4_ : Aside0 (((w93.setCell ⟨gb214,0,none⟩ (.int .i64 ((rd_T42 l0_0 ((rd_T80 l0_1 x8_2).f0)).f0))).setCell ⟨gb214,1,none⟩ (.int .i64 ((rd_T42 l0_0 ((rd_T80 l0_1 x8_2).f0)).f1))).heap[gb214]? = some (.cells #[.int .i64 ((rd_T42 l0_0 ((rd_T80 l0_1 x8_2).f0)).f0),.int .i64 ((rd_T42 l0_0 ((rd_T80 l0_1 x8_2).f0)).f1)] 42 (0,0))) := ⟨by (with_reducible repeat (first | refine blk_drewN ?_ _ | refine blk_drew ?_ | refine blk_alloc ?_ _)); refine blk_put (cs := #[.int .i64 ((rd_T42 l0_0 ((rd_T80 l0_1 x8_2).f0)).f0),.int .i64 0]) ?_ 1 _ rfl; (with_reducible repeat (first | refine blk_drewN ?_ _ | refine blk_drew ?_ | refine blk_alloc ?_ _)); refine blk_put (cs := #[.int .i64 0,.int .i64 0]) ?_ 0 _ rfl; (with_reducible repeat (first | refine blk_drewN ?_ _ | refine blk_drew ?_ | refine blk_alloc ?_ _)); exact BK214.out⟩
                       have n5_ : Aside0 (Below w.heap.size w ((w93.setCell ⟨gb214,0,none⟩ (.int .i64 ((rd_T42 l0_0 ((rd_T80 l0_1 x8_2).f0)).f0))).setCell ⟨gb214,1,none⟩ (.int .i64 ((rd_T42 l0_0 ((rd_T80 l0_1 x8_2).f0)).f1)))) := ⟨by repeat (first | (with_reducible first | exact HB.out | apply below_alloc | apply pw_below_drewN | apply below_drew1 | refine below_set ?_ GE169.out | refine below_set ?_ GE214.out) | exact HB.out)⟩
                       (try clear HO_3)
                       (try clear HO_6)
                       (try clear HO_7)
                       (try clear BK169)
                       (try clear BK214)
                       (try clear HB)
                       generalize ((w93.setCell ⟨gb214,0,none⟩ (.int .i64 ((rd_T42 l0_0 ((rd_T80 l0_1 x8_2).f0)).f0))).setCell ⟨gb214,1,none⟩ (.int .i64 ((rd_T42 l0_0 ((rd_T80 l0_1 x8_2).f0)).f1))) = w96 at n0_ n1_ n2_ n3_ n4_ n5_ ⊢
                       have HO_3 := n0_
                       have HO_6 := n1_
                       have HO_7 := n2_
                       have BK169 := n3_
                       have BK214 := n4_
                       have HB := n5_
                       clear n0_ n1_ n2_ n3_ n4_ n5_
                       have n0_ := Aside0.mk (Kd.R_drew HO_3.out)
                       have n1_ := Aside0.mk (Kd.R_drew HO_6.out)
                       have n2_ := Aside0.mk (Kd.R_drew HO_7.out)
                       have n3_ := Aside0.mk (blk_drew BK169.out)
                       have n4_ := Aside0.mk (blk_drew BK214.out)
                       have n5_ := Aside0.mk (below_drew1 HB.out)
                       clear HO_3
                       clear HO_6
                       clear HO_7
                       clear BK169
                       clear BK214
                       clear HB
                       have HO_3 := n0_
                       have HO_6 := n1_
                       have HO_7 := n2_
                       have BK169 := n3_
                       have BK214 := n4_
                       have HB := n5_
                       clear n0_ n1_ n2_ n3_ n4_ n5_
                       have p215 : 0 ≤ (x9_3 : Int) := of_decide_eq_true (by first | (with_reducible assumption) | assumption)
                       have q215 : x9_3 < (t193.length : Int) := of_decide_eq_true (by first | (with_reducible assumption) | assumption)
                       obtain ⟨ad215,e215,hx215_0⟩ := Kd.at_int (Kd.R_reads' HO_7.out).2.2 x9_3 p215 q215
                       obtain rfl : ad198 = ad215 := (by injection e215)
                       replace p215 := eq_true p215
                       replace q215 := eq_true q215
                       have p216 : 0 ≤ (x8_2 : Int) := of_decide_eq_true (by first | (with_reducible assumption) | assumption)
                       have q216 : x8_2 < (t193.length : Int) := of_decide_eq_true (by first | (with_reducible assumption) | assumption)
                       obtain ⟨ad216,e216,hx216_0⟩ := Kd.at_int (Kd.R_reads' HO_7.out).2.2 x8_2 p216 q216
                       obtain rfl : ad198 = ad216 := (by injection e216)
                       replace p216 := eq_true p216
                       replace q216 := eq_true q216
                       refine start_ (n := 10) (S := fun w' => w'.cell? (ad198.add (x9_3).toNat) = some (.int .i64 (rd t193 x9_3)) ∧ w'.cell? (ad198.add (x8_2).toNat) = some (.int .i64 (rd t193 x8_2))) (ds := []) #[false,false,false,false,false,false,false,false,false,false] (by kernel_rfl) rfl rfl ⟨hx215_0,hx216_0⟩ (fun hHeld => ?_); refine with_tabW rf_binds.tab24 rf_binds.bits24 (fun HT_ HW_ => ?_)
                       generalize w96.drew = w97 at HO_3 HO_6 HO_7 BK169 BK214 HB hx215_0 hx216_0 hHeld ⊢
                       refine pure_ (i := 0) (N := some 113) (v := ?_) (a' := ?_) #[true,false,false,false,false,false,false,false,false,false] rfl rfl (any_of HT_.out (by kernel_rfl)) (fun _ _ _ h => h) (Or.inl ⟨by rfl,?_⟩) ?_ ?_
                       rotate_left
                       ·intro w'
                        go_simp
                        with_reducible rfl
                       rotate_left
                       ·simp only [Act.put,List.setIfInBounds_toArray,List.set_cons_zero,List.set_cons_succ,i64_w,i32_w]
                        rfl
                       refine pure_ (i := 1) (N := some 114) (v := ?_) (a' := ?_) #[true,true,false,false,false,false,false,false,false,false] rfl rfl (any_of HT_.out (by kernel_rfl)) (fun _ _ _ h => h) (Or.inl ⟨by rfl,?_⟩) ?_ ?_
                       rotate_left
                       ·intro w'
                        go_simp
                        with_reducible rfl
                       rotate_left
                       ·simp only [Act.put,List.setIfInBounds_toArray,List.set_cons_zero,List.set_cons_succ,i64_w,i32_w]
                        rfl
                       refine pure_ (i := 2) (N := some 115) (v := ?_) (a' := ?_) #[true,true,true,false,false,false,false,false,false,false] rfl rfl (any_of HT_.out (by kernel_rfl)) (fun _ _ _ h => h) (Or.inl ⟨by rfl,?_⟩) ?_ ?_
                       rotate_left
                       ·intro w'
                        go_simp
                        with_reducible rfl
                       rotate_left
                       ·simp only [Act.put,List.setIfInBounds_toArray,List.set_cons_zero,List.set_cons_succ,i64_w,i32_w]
                        rfl
                       refine pure_ (i := 4) (N := some 117) (v := ?_) (a' := ?_) #[true,true,true,false,true,false,false,false,false,false] rfl rfl (any_of HT_.out (by kernel_rfl)) (fun _ _ _ h => h) (Or.inl ⟨by rfl,?_⟩) ?_ ?_
                       rotate_left
                       ·intro w'
                        go_simp
                        with_reducible rfl
                       rotate_left
                       ·simp only [Act.put,List.setIfInBounds_toArray,List.set_cons_zero,List.set_cons_succ,i64_w,i32_w]
                        rfl
                       refine pure_ (i := 5) (N := some 118) (v := ?_) (a' := ?_) #[true,true,true,false,true,true,false,false,false,false] rfl rfl (any_of HT_.out (by kernel_rfl)) (fun _ _ _ h => h) (Or.inl ⟨by rfl,?_⟩) ?_ ?_
                       rotate_left
                       ·intro w'
                        go_simp
                        with_reducible rfl
                       rotate_left
                       ·simp only [Act.put,List.setIfInBounds_toArray,List.set_cons_zero,List.set_cons_succ,i64_w,i32_w]
                        rfl
                       refine pure_ (i := 6) (N := some 119) (v := ?_) (a' := ?_) #[true,true,true,false,true,true,true,false,false,false] rfl rfl (any_of HT_.out (by kernel_rfl)) (fun _ _ _ h => h) (Or.inl ⟨by rfl,?_⟩) ?_ ?_
                       rotate_left
                       ·intro w'
                        go_simp
                        with_reducible rfl
                       rotate_left
                       ·simp only [Act.put,List.setIfInBounds_toArray,List.set_cons_zero,List.set_cons_succ,i64_w,i32_w]
                        rfl
                       refine take_ (i := 3) (N := some 116) (v := ?_) (a' := ?_) #[true,true,true,true,true,true,true,false,false,false] rfl rfl (take_ofW HT_.out HW_.out (by kernel_rfl)) (fun _ _ _ h => h) (Or.inl ⟨by rfl,?_⟩) hHeld ?_ ?_
                       rotate_left
                       ·rintro w' ⟨s0,s1⟩
                        go_simp
                        with_reducible rfl
                       rotate_left
                       ·simp only [Act.put,List.setIfInBounds_toArray,List.set_cons_zero,List.set_cons_succ,i64_w,i32_w]
                        rfl
                       refine take_ (i := 7) (N := some 120) (v := ?_) (a' := ?_) #[true,true,true,true,true,true,true,true,false,false] rfl rfl (take_ofW HT_.out HW_.out (by kernel_rfl)) (fun _ _ _ h => h) (Or.inl ⟨by rfl,?_⟩) hHeld ?_ ?_
                       rotate_left
                       ·rintro w' ⟨s0,s1⟩
                        go_simp
                        with_reducible rfl
                       rotate_left
                       ·simp only [Act.put,List.setIfInBounds_toArray,List.set_cons_zero,List.set_cons_succ,i64_w,i32_w]
                        rfl
                       refine pure_ (i := 8) (N := some 121) (v := ?_) (a' := ?_) #[true,true,true,true,true,true,true,true,true,false] rfl rfl (any_of HT_.out (by kernel_rfl)) (fun _ _ _ h => h) (Or.inl ⟨by rfl,?_⟩) ?_ ?_
                       rotate_left
                       ·intro w'
                        go_simp
                        with_reducible rfl
                       rotate_left
                       ·simp only [Act.put,List.setIfInBounds_toArray,List.set_cons_zero,List.set_cons_succ,i64_w,i32_w]
                        rfl
                       refine pure_ (i := 9) (N := some 13) (v := ?_) (a' := ?_) #[true,true,true,true,true,true,true,true,true,true] rfl rfl (any_of HT_.out (by kernel_rfl)) (fun _ _ _ h => h) (Or.inl ⟨by rfl,?_⟩) ?_ ?_
                       rotate_left
                       ·intro w'
                        go_simp
                        with_reducible rfl
                       rotate_left
                       ·simp only [Act.put,List.setIfInBounds_toArray,List.set_cons_zero,List.set_cons_succ,i64_w,i32_w]
                        rfl
                       refine done_ (done_of HT_.out (by kernel_rfl)) ?_
                       try go_wp2
                       have n0_ := Aside0.mk (Kd.R_drew HO_3.out)
                       have n1_ := Aside0.mk (Kd.R_drew HO_6.out)
                       have n2_ := Aside0.mk (Kd.R_drew HO_7.out)
                       have n3_ := Aside0.mk (blk_drew BK169.out)
                       have n4_ := Aside0.mk (blk_drew BK214.out)
                       have n5_ := Aside0.mk (below_drew1 HB.out)
                       clear HO_3
                       clear HO_6
                       clear HO_7
                       clear BK169
                       clear BK214
                       clear HB
                       have HO_3 := n0_
                       have HO_6 := n1_
                       have HO_7 := n2_
                       have BK169 := n3_
                       have BK214 := n4_
                       have HB := n5_
                       clear n0_ n1_ n2_ n3_ n4_ n5_
                       refine start_ (n := 19) (S := fun w' => w'.cell? ⟨gb214,0,none⟩ = some (.int .i64 ((rd_T42 l0_0 ((rd_T80 l0_1 x8_2).f0)).f0)) ∧ w'.cell? ⟨gb214,1,none⟩ = some (.int .i64 ((rd_T42 l0_0 ((rd_T80 l0_1 x8_2).f0)).f1))) (ds := []) #[false,false,false,false,false,false,false,false,false,false,false,false,false,false,false,false,false,false,false] (by kernel_rfl) rfl rfl ⟨(blk_cell BK214.out 0).trans rfl,(blk_cell BK214.out 1).trans rfl⟩ (fun hHeld => ?_); refine with_tabW rf_binds.tab25 rf_binds.bits25 (fun HT_ HW_ => ?_)
                       generalize w97.drew = w98 at HO_3 HO_6 HO_7 BK169 BK214 HB hHeld ⊢
                       refine pure_ (i := 0) (N := some 122) (v := ?_) (a' := ?_) #[true,false,false,false,false,false,false,false,false,false,false,false,false,false,false,false,false,false,false] rfl rfl (any_of HT_.out (by kernel_rfl)) (fun _ _ _ h => h) (Or.inl ⟨by rfl,?_⟩) ?_ ?_
                       rotate_left
                       ·intro w'
                        go_simp
                        with_reducible rfl
                       rotate_left
                       ·simp only [Act.put,List.setIfInBounds_toArray,List.set_cons_zero,List.set_cons_succ,i64_w,i32_w]
                        rfl
                       refine pure_ (i := 1) (N := some 123) (v := ?_) (a' := ?_) #[true,true,false,false,false,false,false,false,false,false,false,false,false,false,false,false,false,false,false] rfl rfl (any_of HT_.out (by kernel_rfl)) (fun _ _ _ h => h) (Or.inl ⟨by rfl,?_⟩) ?_ ?_
                       rotate_left
                       ·intro w'
                        go_simp
                        with_reducible rfl
                       rotate_left
                       ·simp only [Act.put,List.setIfInBounds_toArray,List.set_cons_zero,List.set_cons_succ,i64_w,i32_w]
                        rfl
                       refine pure_ (i := 2) (N := some 124) (v := ?_) (a' := ?_) #[true,true,true,false,false,false,false,false,false,false,false,false,false,false,false,false,false,false,false] rfl rfl (any_of HT_.out (by kernel_rfl)) (fun _ _ _ h => h) (Or.inl ⟨by rfl,?_⟩) ?_ ?_
                       rotate_left
                       ·intro w'
                        go_simp
                        with_reducible rfl
                       rotate_left
                       ·simp only [Act.put,List.setIfInBounds_toArray,List.set_cons_zero,List.set_cons_succ,i64_w,i32_w]
                        rfl
                       refine pure_ (i := 3) (N := some 125) (v := ?_) (a' := ?_) #[true,true,true,true,false,false,false,false,false,false,false,false,false,false,false,false,false,false,false] rfl rfl (any_of HT_.out (by kernel_rfl)) (fun _ _ _ h => h) (Or.inl ⟨by rfl,?_⟩) ?_ ?_
                       rotate_left
                       ·intro w'
                        go_simp
                        with_reducible rfl
                       rotate_left
                       ·simp only [Act.put,List.setIfInBounds_toArray,List.set_cons_zero,List.set_cons_succ,i64_w,i32_w]
                        rfl
                       refine pure_ (i := 4) (N := some 126) (v := ?_) (a' := ?_) #[true,true,true,true,true,false,false,false,false,false,false,false,false,false,false,false,false,false,false] rfl rfl (any_of HT_.out (by kernel_rfl)) (fun _ _ _ h => h) (Or.inl ⟨by rfl,?_⟩) ?_ ?_
                       rotate_left
                       ·intro w'
                        go_simp
                        with_reducible rfl
                       rotate_left
                       ·simp only [Act.put,List.setIfInBounds_toArray,List.set_cons_zero,List.set_cons_succ,i64_w,i32_w]
                        rfl
                       refine pure_ (i := 8) (N := some 130) (v := ?_) (a' := ?_) #[true,true,true,true,true,false,false,false,true,false,false,false,false,false,false,false,false,false,false] rfl rfl (any_of HT_.out (by kernel_rfl)) (fun _ _ _ h => h) (Or.inl ⟨by rfl,?_⟩) ?_ ?_
                       rotate_left
                       ·intro w'
                        go_simp
                        with_reducible rfl
                       rotate_left
                       ·simp only [Act.put,List.setIfInBounds_toArray,List.set_cons_zero,List.set_cons_succ,i64_w,i32_w]
                        rfl
                       refine pure_ (i := 9) (N := some 131) (v := ?_) (a' := ?_) #[true,true,true,true,true,false,false,false,true,true,false,false,false,false,false,false,false,false,false] rfl rfl (any_of HT_.out (by kernel_rfl)) (fun _ _ _ h => h) (Or.inl ⟨by rfl,?_⟩) ?_ ?_
                       rotate_left
                       ·intro w'
                        go_simp
                        with_reducible rfl
                       rotate_left
                       ·simp only [Act.put,List.setIfInBounds_toArray,List.set_cons_zero,List.set_cons_succ,i64_w,i32_w]
                        rfl
                       refine pure_ (i := 10) (N := some 132) (v := ?_) (a' := ?_) #[true,true,true,true,true,false,false,false,true,true,true,false,false,false,false,false,false,false,false] rfl rfl (any_of HT_.out (by kernel_rfl)) (fun _ _ _ h => h) (Or.inl ⟨by rfl,?_⟩) ?_ ?_
                       rotate_left
                       ·intro w'
                        go_simp
                        with_reducible rfl
                       rotate_left
                       ·simp only [Act.put,List.setIfInBounds_toArray,List.set_cons_zero,List.set_cons_succ,i64_w,i32_w]
                        rfl
                       refine pure_ (i := 11) (N := some 133) (v := ?_) (a' := ?_) #[true,true,true,true,true,false,false,false,true,true,true,true,false,false,false,false,false,false,false] rfl rfl (any_of HT_.out (by kernel_rfl)) (fun _ _ _ h => h) (Or.inl ⟨by rfl,?_⟩) ?_ ?_
                       rotate_left
                       ·intro w'
                        go_simp
                        with_reducible rfl
                       rotate_left
                       ·simp only [Act.put,List.setIfInBounds_toArray,List.set_cons_zero,List.set_cons_succ,i64_w,i32_w]
                        rfl
                       refine take_ (i := 5) (N := some 127) (v := ?_) (a' := ?_) #[true,true,true,true,true,true,false,false,true,true,true,true,false,false,false,false,false,false,false] rfl rfl (take_ofW HT_.out HW_.out (by kernel_rfl)) (fun _ _ _ h => h) (Or.inl ⟨by rfl,?_⟩) hHeld ?_ ?_
                       rotate_left
                       ·rintro w' ⟨s0,s1⟩
                        go_simp
                        with_reducible rfl
                       rotate_left
                       ·simp only [Act.put,List.setIfInBounds_toArray,List.set_cons_zero,List.set_cons_succ,i64_w,i32_w]
                        rfl
                       refine pure_ (i := 6) (N := some 128) (v := ?_) (a' := ?_) #[true,true,true,true,true,true,true,false,true,true,true,true,false,false,false,false,false,false,false] rfl rfl (any_of HT_.out (by kernel_rfl)) (fun _ _ _ h => h) (Or.inl ⟨by rfl,?_⟩) ?_ ?_
                       rotate_left
                       ·intro w'
                        go_simp
                        with_reducible rfl
                       rotate_left
                       ·simp only [Act.put,List.setIfInBounds_toArray,List.set_cons_zero,List.set_cons_succ,i64_w,i32_w]
                        rfl
                       refine pure_ (i := 7) (N := some 129) (v := ?_) (a' := ?_) #[true,true,true,true,true,true,true,true,true,true,true,true,false,false,false,false,false,false,false] rfl rfl (any_of HT_.out (by kernel_rfl)) (fun _ _ _ h => h) (Or.inl ⟨by rfl,?_⟩) ?_ ?_
                       rotate_left
                       ·intro w'
                        go_simp
                        with_reducible rfl
                       rotate_left
                       ·simp only [Act.put,List.setIfInBounds_toArray,List.set_cons_zero,List.set_cons_succ,i64_w,i32_w]
                        rfl
                       refine take_ (i := 12) (N := some 134) (v := ?_) (a' := ?_) #[true,true,true,true,true,true,true,true,true,true,true,true,true,false,false,false,false,false,false] rfl rfl (take_ofW HT_.out HW_.out (by kernel_rfl)) (fun _ _ _ h => h) (Or.inl ⟨by rfl,?_⟩) hHeld ?_ ?_
                       rotate_left
                       ·rintro w' ⟨s0,s1⟩
                        go_simp
                        with_reducible rfl
                       rotate_left
                       ·simp only [Act.put,List.setIfInBounds_toArray,List.set_cons_zero,List.set_cons_succ,i64_w,i32_w]
                        rfl
                       refine one_ (i := 13) (N := some 135) #[true,true,true,true,true,true,true,true,true,true,true,true,true,true,false,false,false,false,false] rfl rfl (one_of HT_.out (by kernel_rfl)) (by decide) (fun K hK => ?_)
                       refine goes_ Try.func76 (by kernel_rfl) rfl #[.int .i64 (wrap64 ((rd t193 x9_3) - (rd t193 x8_2))),.int .i64 ((rd_T42 l0_0 ((rd_T80 l0_1 x8_2).f0)).f1)] (by rfl) rfl rfl (by (try simp only [List.map_toArray,List.map_cons,List.map_nil]); first | done | rfl | (simp only [List.length_drop,List.length_take]; rfl)) ?_
                       with_reducible refine (rf_up.calls (wrap64 ((rd t193 x9_3) - (rd t193 x8_2))) ((rd_T42 l0_0 ((rd_T80 l0_1 x8_2).f0)).f1) t217 _ A85.out).mono ?_
                       rintro e w' ⟨rfl,⟨nd,rfl⟩⟩
                       refine ⟨_,rfl,?_⟩
                       refine hK.out _ _ ⟨(blk_cell BK214.out 0).trans rfl,(blk_cell BK214.out 1).trans rfl⟩ (fun hHeld => ?_)
                       clear hK K
                       refine norm_ (a' := ?_) ?_ ?_
                       rotate_left
                       ·show Act.put _ (some 135) _ = _
                        simp only [Act.put,List.setIfInBounds_toArray,List.set_cons_zero,List.set_cons_succ,i64_w,i32_w]
                        rfl
                       refine pure_ (i := 14) (N := some 136) (v := ?_) (a' := ?_) #[true,true,true,true,true,true,true,true,true,true,true,true,true,true,true,false,false,false,false] rfl rfl (any_of HT_.out (by kernel_rfl)) (fun _ _ _ h => h) (Or.inl ⟨by rfl,?_⟩) ?_ ?_
                       rotate_left
                       ·intro w'
                        go_simp
                        with_reducible rfl
                       rotate_left
                       ·simp only [Act.put,List.setIfInBounds_toArray,List.set_cons_zero,List.set_cons_succ,i64_w,i32_w]
                        rfl
                       refine pure_ (i := 15) (N := some 137) (v := ?_) (a' := ?_) #[true,true,true,true,true,true,true,true,true,true,true,true,true,true,true,true,false,false,false] rfl rfl (any_of HT_.out (by kernel_rfl)) (fun _ _ _ h => h) (Or.inl ⟨by rfl,?_⟩) ?_ ?_
                       rotate_left
                       ·intro w'
                        go_simp
                        with_reducible rfl
                       rotate_left
                       ·simp only [Act.put,List.setIfInBounds_toArray,List.set_cons_zero,List.set_cons_succ,i64_w,i32_w]
                        rfl
                       refine one_ (i := 16) (N := some 138) #[true,true,true,true,true,true,true,true,true,true,true,true,true,true,true,true,true,false,false] rfl rfl (one_of HT_.out (by kernel_rfl)) (by decide) (fun K hK => ?_)
                       refine Kd.R_lit_step k27 _ 27 ?hg (N := 138) ?hd (xs := ([(⟨x8_2,x9_3,wrap64 (Int.tdiv (wrap64 ((rd t193 x9_3) - (rd t193 x8_2))) ((rd_T42 l0_0 ((rd_T80 l0_1 x8_2).f0)).f0))⟩ : S27),(⟨x9_3,x8_2,wrap64 (-t217)⟩ : S27)] : List (S27))) (inner := [.int .i64 x8_2,.int .i64 x9_3,.int .i64 (wrap64 (Int.tdiv (wrap64 ((rd t193 x9_3) - (rd t193 x8_2))) ((rd_T42 l0_0 ((rd_T80 l0_1 x8_2).f0)).f0))),.int .i64 x9_3,.int .i64 x8_2,.int .i64 (wrap64 (-t217))]) (ok := fun _ => True) (okp := fun _ => True) ?hr ?hp (fun _ hk => hk) trivial (Below.refl _ _) (Nat.le_refl _) (by simp) ?_; (case hd => rfl); (case hg => rfl); (case hr => first | (go_simp; done) | (go_simp; rfl)); (case hp => exact (Reps.c3 (show Kd.M k27 _ _ _ (⟨x8_2,x9_3,wrap64 (Int.tdiv (wrap64 ((rd t193 x9_3) - (rd t193 x8_2))) ((rd_T42 l0_0 ((rd_T80 l0_1 x8_2).f0)).f0))⟩ : S27) [.int .i64 x8_2,.int .i64 x9_3,.int .i64 (wrap64 (Int.tdiv (wrap64 ((rd t193 x9_3) - (rd t193 x8_2))) ((rd_T42 l0_0 ((rd_T80 l0_1 x8_2).f0)).f0)))] from (k27_mkM _ _ _ (⟨x8_2,x9_3,wrap64 (Int.tdiv (wrap64 ((rd t193 x9_3) - (rd t193 x8_2))) ((rd_T42 l0_0 ((rd_T80 l0_1 x8_2).f0)).f0))⟩ : S27) )) (Reps.c3 (show Kd.M k27 _ _ _ (⟨x9_3,x8_2,wrap64 (-t217)⟩ : S27) [.int .i64 x9_3,.int .i64 x8_2,.int .i64 (wrap64 (-t217))] from (k27_mkM _ _ _ (⟨x9_3,x8_2,wrap64 (-t217)⟩ : S27) )) (Reps.none _ _))))
                       intro v219 w99 ho100 hb hg_ hnew_
                       clear hg_ hnew_
                       (first | rw [← Ny218.out] at ho100 | (simp only [Int.reduceToNat] at ho100; rw [← Ny218.out] at ho100))
                       have n0_ := Aside0.mk (Kd.R_elder' (by (with_reducible repeat (first | apply Kd.R_alloc | apply Kd.R_drewN | apply Kd.R_drew)); exact HO_3.out) (Kd.R_base ho100) hb)
                       have n1_ := Aside0.mk (Kd.R_below (by (with_reducible repeat (first | apply Kd.R_alloc | apply Kd.R_drewN | apply Kd.R_drew)); exact HO_6.out) hb)
                       have n2_ := Aside0.mk (Kd.R_below (by (with_reducible repeat (first | apply Kd.R_alloc | apply Kd.R_drewN | apply Kd.R_drew)); exact HO_7.out) hb)
                       have n3_ := Aside0.mk (Kd.R_lower (Kd.R_new' ho100 (Kd.R_lt (by (with_reducible repeat (first | apply Kd.R_alloc | apply Kd.R_drewN | apply Kd.R_drew)); exact HO_3.out))) (below_size (by repeat (first | (with_reducible first | exact HB.out | apply below_alloc | apply pw_below_drewN | apply below_drew1 | refine below_set ?_ GE169.out | refine below_set ?_ GE214.out) | exact HB.out))))
                       have n4_ := Aside0.mk (blk_below (g := gb169) (o := .cells #[.slice (some ad213) l0_0.length c0_0,.slice (some ad212) l0_1.length c0_1] 25 (0,0)) (by (with_reducible repeat (first | refine blk_drewN ?_ _ | refine blk_drew ?_ | refine blk_alloc ?_ _)); exact BK169.out) hb)
                       have n5_ := Aside0.mk (blk_below (g := gb214) (o := .cells #[.int .i64 ((rd_T42 l0_0 ((rd_T80 l0_1 x8_2).f0)).f0),.int .i64 ((rd_T42 l0_0 ((rd_T80 l0_1 x8_2).f0)).f1)] 42 (0,0)) (by (with_reducible repeat (first | refine blk_drewN ?_ _ | refine blk_drew ?_ | refine blk_alloc ?_ _)); exact BK214.out) hb)
                       have n6_ := Aside0.mk (below_step (by repeat (first | (with_reducible first | exact HB.out | apply below_alloc | apply pw_below_drewN | apply below_drew1 | refine below_set ?_ GE169.out | refine below_set ?_ GE214.out) | exact HB.out)) hb)
                       clear HO_3
                       clear HO_6
                       clear HO_7
                       clear BK169
                       clear BK214
                       clear HB
                       have HO_3 := n0_
                       have HO_6 := n1_
                       have HO_7 := n2_
                       have HO220 := n3_
                       have BK169 := n4_
                       have BK214 := n5_
                       have HB := n6_
                       clear n0_ n1_ n2_ n3_ n4_ n5_ n6_
                       clear hb ho100
                       obtain ⟨Ao102,co102,eo102⟩ := Kd.R_slice HO220.out
                       (first | subst eo102 | (injection eo102 with f1_ f2_ f3_; have f4_ := f1_.symm; have f5_ := f3_.symm; clear f1_ f2_ f3_; subst f4_; subst f5_))
                       refine hK.out _ _ ⟨(blk_cell BK214.out 0).trans rfl,(blk_cell BK214.out 1).trans rfl⟩ (fun hHeld => ?_)
                       clear hK K
                       refine norm_ (a' := ?_) ?_ ?_
                       rotate_left
                       ·show Act.put _ (some 138) _ = _
                        simp only [Act.put,List.setIfInBounds_toArray,List.set_cons_zero,List.set_cons_succ,i64_w,i32_w]
                        rfl
                       refine one_ (i := 17) (N := some 139) #[true,true,true,true,true,true,true,true,true,true,true,true,true,true,true,true,true,true,false] rfl rfl (one_of HT_.out (by kernel_rfl)) (by decide) (fun K hK => ?_)
                       refine Kd.R_append_rows_step k27 (w0 := w) w.heap.size (by rfl) (.tmp 122) (.tmp 138) 68 27 (.agg #[(.int .i64 0),(.int .i64 0),(.int .i64 0)]) 24 rfl Try.underlying68 info27 rfl (by decide) (by omega) u3 x3_3 y218 _ _ _ (fun k_ => some k_ ≠ (.slice Ao102 y218.length co102 : Value).ownBlock) (fun _ => False) rfl rfl ?aO ?aR (fun _ _ h => h) (fun _ h => h.elim) ?aF ?aB ?aS ?aL ?_
                       (case aR => repeat (first | exact (Kd.R_reads' HO220.out).2.2 | (with_reducible refine Kd.C_alloc ?_ _) | (with_reducible refine Kd.C_drewN ?_ _) | (with_reducible refine Kd.C_drew ?_)))
                       (case aB => exact (by repeat (first | (with_reducible first | exact HB.out | apply below_alloc | apply pw_below_drewN | apply below_drew1 | refine below_set ?_ GE169.out | refine below_set ?_ GE214.out) | exact HB.out)))
                       (case aF => exact (fun k_ hk => Kd.fresh' (Kd.R_lt (by (with_reducible repeat (first | apply Kd.R_alloc | apply Kd.R_drewN | apply Kd.R_drew)); exact HO220.out)) k_ hk))
                       (case aO => exact (by (with_reducible repeat (first | apply Kd.R_alloc | apply Kd.R_drewN | apply Kd.R_drew)); exact Kd.R_mono HO_3.out (fun _ hk => hk.2)))
                       (case aS => exact (below_size (by repeat (first | (with_reducible first | exact HB.out | apply below_alloc | apply pw_below_drewN | apply below_drew1 | refine below_set ?_ GE169.out | refine below_set ?_ GE214.out) | exact HB.out))))
                       (case aL => have := LMc86.out; omega)
                       intro v222 w101 ho hb hg hat
                       rw [← Ny221.out] at ho
                       have n0_ := Aside0.mk (Kd.R_over' (by (with_reducible repeat (first | apply Kd.R_alloc | apply Kd.R_drewN | apply Kd.R_drew)); exact HO_6.out) (Kd.R_typed (by (with_reducible repeat (first | apply Kd.R_alloc | apply Kd.R_drewN | apply Kd.R_drew)); exact HO_3.out)) (by decide) hg)
                       have n1_ := Aside0.mk (Kd.R_over' (by (with_reducible repeat (first | apply Kd.R_alloc | apply Kd.R_drewN | apply Kd.R_drew)); exact HO_7.out) (Kd.R_typed (by (with_reducible repeat (first | apply Kd.R_alloc | apply Kd.R_drewN | apply Kd.R_drew)); exact HO_3.out)) (by decide) hg)
                       have n2_ := Aside0.mk (blk_grown (g := gb169) (o := .cells #[.slice (some ad213) l0_0.length c0_0,.slice (some ad212) l0_1.length c0_1] 25 (0,0)) (by (with_reducible repeat (first | refine blk_drewN ?_ _ | refine blk_drew ?_ | refine blk_alloc ?_ _)); exact BK169.out) hg (Kd.R_ne HO_3.out BK169.out (by decide)))
                       have n3_ := Aside0.mk (blk_grown (g := gb214) (o := .cells #[.int .i64 ((rd_T42 l0_0 ((rd_T80 l0_1 x8_2).f0)).f0),.int .i64 ((rd_T42 l0_0 ((rd_T80 l0_1 x8_2).f0)).f1)] 42 (0,0)) (by (with_reducible repeat (first | refine blk_drewN ?_ _ | refine blk_drew ?_ | refine blk_alloc ?_ _)); exact BK214.out) hg (Kd.R_ne HO_3.out BK214.out (by decide)))
                       have n4_ := Aside0.mk (Kd.R_after (ok := (fun _ => True)) (by (with_reducible repeat (first | apply Kd.R_alloc | apply Kd.R_drewN | apply Kd.R_drew)); exact HO220.out) hg hat)
                       have n5_ := Aside0.mk (hb)
                       have n6_ := Aside0.mk (ho)
                       clear HO_6
                       clear HO_7
                       clear BK169
                       clear BK214
                       clear HO220
                       clear HB
                       clear HO_3
                       have HO_6 := n0_
                       have HO_7 := n1_
                       have BK169 := n2_
                       have BK214 := n3_
                       have HO220 := n4_
                       have HB := n5_
                       have HO223 := n6_
                       clear n0_ n1_ n2_ n3_ n4_ n5_ n6_
                       clear ho hb hg hat
                       refine hK.out _ _ ⟨(blk_cell BK214.out 0).trans rfl,(blk_cell BK214.out 1).trans rfl⟩ (fun hHeld => ?_)
                       clear hK K
                       refine norm_ (a' := ?_) ?_ ?_
                       rotate_left
                       ·show Act.put _ (some 139) _ = _
                        simp only [Act.put,List.setIfInBounds_toArray,List.set_cons_zero,List.set_cons_succ,i64_w,i32_w]
                        rfl
                       refine pure_ (i := 18) (N := some 3) (v := ?_) (a' := ?_) #[true,true,true,true,true,true,true,true,true,true,true,true,true,true,true,true,true,true,true] rfl rfl (any_of HT_.out (by kernel_rfl)) (fun _ _ _ h => h) (Or.inl ⟨by rfl,?_⟩) ?_ ?_
                       rotate_left
                       ·intro w'
                        go_simp
                        with_reducible rfl
                       rotate_left
                       ·simp only [Act.put,List.setIfInBounds_toArray,List.set_cons_zero,List.set_cons_succ,i64_w,i32_w]
                        rfl
                       refine done_ (done_of HT_.out (by kernel_rfl)) ?_
                       try go_wp2
                       go_roundg k3
                       case measure => have := HK1.out; have := HK2.out; have := HK3.out; omega
                       case rel => exact ⟨(y221),(wrap64 (x9_3 + 1)),(by first | rfl | (simp; done) | (simp [*]; done)),H',⟨by have := HK1.out; have := HK2.out; have := HK3.out; omega⟩,⟨by (with_reducible repeat (first | apply Kd.R_alloc | apply Kd.R_drewN | apply Kd.R_drew)); exact Kd.R_mono HO223.out (fun _ hk => trivial)⟩,⟨by (with_reducible repeat (first | apply Kd.R_alloc | apply Kd.R_drewN | apply Kd.R_drew)); exact HO_6.out⟩,⟨by (with_reducible repeat (first | apply Kd.R_alloc | apply Kd.R_drewN | apply Kd.R_drew)); exact HO_7.out⟩,⟨by (with_reducible repeat (first | refine blk_drewN ?_ _ | refine blk_drew ?_ | refine blk_alloc ?_ _)); exact BK169.out⟩,⟨by repeat (first | (with_reducible first | exact HB.out | apply below_alloc | apply pw_below_drewN | apply below_drew1 | refine below_set ?_ GE169.out | refine below_set ?_ GE214.out) | exact HB.out)⟩⟩
                      ·rw [if_neg c86] at H
                       exact absurd H (by simp)
                    ·rw [if_neg c83] at H
                     exact absurd H (by simp)
                   ·rw [if_neg c82] at H
                    exact absurd H (by simp)
                  ·rw [if_neg c81] at H
                   exact absurd H (by simp)
                ·rw [if_neg c57] at H
                 exact absurd H (by simp)
               ·rw [if_neg c56] at H
                exact absurd H (by simp)
              ·rw [if_neg c55] at H
               have c55b0 : ((rd t190 x8_2) == (rd t190 x9_3)) = false := beq_eq_false_iff_ne.mpr c55
               have c55b1 : ((rd t190 x8_2) != (rd t190 x9_3)) = true := bne_iff_ne.mpr c55
               have H' := Aside0.mk H
               clear H
               have hcz103_0 : wr.cell? ⟨gb169,0,none⟩ = some (.slice A0_0 l0_0.length c0_0) := (blk_cell BK169.out 0).trans rfl
               have hcz103_1 : wr.cell? ⟨gb169,1,none⟩ = some (.slice A0_1 l0_1.length c0_1) := (blk_cell BK169.out 1).trans rfl
               have hfz103_0 := blk_frozen BK169.out 0
               have hfz103_1 := blk_frozen BK169.out 1
               try go_wp2
               have n0_ := Aside0.mk (Kd.R_drew HO_3.out)
               have n1_ := Aside0.mk (Kd.R_drew HO_6.out)
               have n2_ := Aside0.mk (Kd.R_drew HO_7.out)
               have n3_ := Aside0.mk (blk_drew BK169.out)
               have n4_ := Aside0.mk (below_drew1 HB.out)
               clear HO_3
               clear HO_6
               clear HO_7
               clear BK169
               clear HB
               have HO_3 := n0_
               have HO_6 := n1_
               have HO_7 := n2_
               have BK169 := n3_
               have HB := n4_
               clear n0_ n1_ n2_ n3_ n4_
               obtain ⟨Ao105,co105,eo105⟩ := Kd.R_slice HO_6.out
               (first | subst eo105 | (injection eo105 with f1_ f2_ f3_; have f4_ := f1_.symm; have f5_ := f3_.symm; clear f1_ f2_ f3_; subst f4_; subst f5_))
               have p196 : 0 ≤ (x8_2 : Int) := of_decide_eq_true (by first | (with_reducible assumption) | assumption)
               have q196 : x8_2 < (t190.length : Int) := of_decide_eq_true (by first | (with_reducible assumption) | assumption)
               obtain ⟨ad196,e196,hx196_0⟩ := Kd.at_int (Kd.R_reads' HO_6.out).2.2 x8_2 p196 q196
               cases e196
               replace p196 := eq_true p196
               replace q196 := eq_true q196
               have p197 : 0 ≤ (x9_3 : Int) := of_decide_eq_true (by first | (with_reducible assumption) | assumption)
               have q197 : x9_3 < (t190.length : Int) := of_decide_eq_true (by first | (with_reducible assumption) | assumption)
               obtain ⟨ad197,e197,hx197_0⟩ := Kd.at_int (Kd.R_reads' HO_6.out).2.2 x9_3 p197 q197
               obtain rfl : ad196 = ad197 := (by injection e197)
               replace p197 := eq_true p197
               replace q197 := eq_true q197
               refine start_ (n := 9) (S := fun w' => w'.cell? (ad196.add (x8_2).toNat) = some (.int .i64 (rd t190 x8_2)) ∧ w'.cell? (ad196.add (x9_3).toNat) = some (.int .i64 (rd t190 x9_3))) (ds := []) #[false,false,false,false,false,false,false,false,false] (by kernel_rfl) rfl rfl ⟨hx196_0,hx197_0⟩ (fun hHeld => ?_); refine with_tabW rf_binds.tab17 rf_binds.bits17 (fun HT_ HW_ => ?_)
               generalize wr.drew = w104 at HO_3 HO_6 HO_7 BK169 HB hx196_0 hx197_0 hHeld ⊢
               refine pure_ (i := 0) (N := some 81) (v := ?_) (a' := ?_) #[true,false,false,false,false,false,false,false,false] rfl rfl (any_of HT_.out (by kernel_rfl)) (fun _ _ _ h => h) (Or.inl ⟨by rfl,?_⟩) ?_ ?_
               rotate_left
               ·intro w'
                go_simp
                with_reducible rfl
               rotate_left
               ·simp only [Act.put,List.setIfInBounds_toArray,List.set_cons_zero,List.set_cons_succ,i64_w,i32_w]
                rfl
               refine pure_ (i := 1) (N := some 82) (v := ?_) (a' := ?_) #[true,true,false,false,false,false,false,false,false] rfl rfl (any_of HT_.out (by kernel_rfl)) (fun _ _ _ h => h) (Or.inl ⟨by rfl,?_⟩) ?_ ?_
               rotate_left
               ·intro w'
                go_simp
                with_reducible rfl
               rotate_left
               ·simp only [Act.put,List.setIfInBounds_toArray,List.set_cons_zero,List.set_cons_succ,i64_w,i32_w]
                rfl
               refine pure_ (i := 2) (N := some 83) (v := ?_) (a' := ?_) #[true,true,true,false,false,false,false,false,false] rfl rfl (any_of HT_.out (by kernel_rfl)) (fun _ _ _ h => h) (Or.inl ⟨by rfl,?_⟩) ?_ ?_
               rotate_left
               ·intro w'
                go_simp
                with_reducible rfl
               rotate_left
               ·simp only [Act.put,List.setIfInBounds_toArray,List.set_cons_zero,List.set_cons_succ,i64_w,i32_w]
                rfl
               refine pure_ (i := 4) (N := some 85) (v := ?_) (a' := ?_) #[true,true,true,false,true,false,false,false,false] rfl rfl (any_of HT_.out (by kernel_rfl)) (fun _ _ _ h => h) (Or.inl ⟨by rfl,?_⟩) ?_ ?_
               rotate_left
               ·intro w'
                go_simp
                with_reducible rfl
               rotate_left
               ·simp only [Act.put,List.setIfInBounds_toArray,List.set_cons_zero,List.set_cons_succ,i64_w,i32_w]
                rfl
               refine pure_ (i := 5) (N := some 86) (v := ?_) (a' := ?_) #[true,true,true,false,true,true,false,false,false] rfl rfl (any_of HT_.out (by kernel_rfl)) (fun _ _ _ h => h) (Or.inl ⟨by rfl,?_⟩) ?_ ?_
               rotate_left
               ·intro w'
                go_simp
                with_reducible rfl
               rotate_left
               ·simp only [Act.put,List.setIfInBounds_toArray,List.set_cons_zero,List.set_cons_succ,i64_w,i32_w]
                rfl
               refine pure_ (i := 6) (N := some 87) (v := ?_) (a' := ?_) #[true,true,true,false,true,true,true,false,false] rfl rfl (any_of HT_.out (by kernel_rfl)) (fun _ _ _ h => h) (Or.inl ⟨by rfl,?_⟩) ?_ ?_
               rotate_left
               ·intro w'
                go_simp
                with_reducible rfl
               rotate_left
               ·simp only [Act.put,List.setIfInBounds_toArray,List.set_cons_zero,List.set_cons_succ,i64_w,i32_w]
                rfl
               refine take_ (i := 3) (N := some 84) (v := ?_) (a' := ?_) #[true,true,true,true,true,true,true,false,false] rfl rfl (take_ofW HT_.out HW_.out (by kernel_rfl)) (fun _ _ _ h => h) (Or.inl ⟨by rfl,?_⟩) hHeld ?_ ?_
               rotate_left
               ·rintro w' ⟨s0,s1⟩
                go_simp
                with_reducible rfl
               rotate_left
               ·simp only [Act.put,List.setIfInBounds_toArray,List.set_cons_zero,List.set_cons_succ,i64_w,i32_w]
                rfl
               refine take_ (i := 7) (N := some 88) (v := ?_) (a' := ?_) #[true,true,true,true,true,true,true,true,false] rfl rfl (take_ofW HT_.out HW_.out (by kernel_rfl)) (fun _ _ _ h => h) (Or.inl ⟨by rfl,?_⟩) hHeld ?_ ?_
               rotate_left
               ·rintro w' ⟨s0,s1⟩
                go_simp
                with_reducible rfl
               rotate_left
               ·simp only [Act.put,List.setIfInBounds_toArray,List.set_cons_zero,List.set_cons_succ,i64_w,i32_w]
                rfl
               refine pure_ (i := 8) (N := some 89) (v := ?_) (a' := ?_) #[true,true,true,true,true,true,true,true,true] rfl rfl (any_of HT_.out (by kernel_rfl)) (fun _ _ _ h => h) (Or.inl ⟨by rfl,?_⟩) ?_ ?_
               rotate_left
               ·intro w'
                go_simp
                with_reducible rfl
               rotate_left
               ·simp only [Act.put,List.setIfInBounds_toArray,List.set_cons_zero,List.set_cons_succ,i64_w,i32_w]
                rfl
               refine done_ (done_of HT_.out (by kernel_rfl)) ?_
               try go_wp2
               go_roundg k3
               case measure => have := HK1.out; have := HK2.out; have := HK3.out; omega
               case rel => exact ⟨(x3_3),(wrap64 (x9_3 + 1)),(by first | rfl | (simp; done) | (simp [*]; done)),H',⟨by have := HK1.out; have := HK2.out; have := HK3.out; omega⟩,⟨by (with_reducible repeat (first | apply Kd.R_alloc | apply Kd.R_drewN | apply Kd.R_drew)); exact HO_3.out⟩,⟨by (with_reducible repeat (first | apply Kd.R_alloc | apply Kd.R_drewN | apply Kd.R_drew)); exact HO_6.out⟩,⟨by (with_reducible repeat (first | apply Kd.R_alloc | apply Kd.R_drewN | apply Kd.R_drew)); exact HO_7.out⟩,⟨by (with_reducible repeat (first | refine blk_drewN ?_ _ | refine blk_drew ?_ | refine blk_alloc ?_ _)); exact BK169.out⟩,⟨by repeat (first | (with_reducible first | exact HB.out | apply below_alloc | apply pw_below_drewN | apply below_drew1 | refine below_set ?_ GE169.out) | exact HB.out)⟩⟩
             ·rw [if_neg c54] at H
              exact absurd H (by simp)
            ·rw [if_neg c53] at H
             exact absurd H (by simp)
           ·rw [if_neg c52] at H
            exact absurd H (by simp)
          ·rw [if_neg c51] at H
           exact absurd H (by simp)
         ·rw [if_neg c50] at H
          have c50b0 : decide (x9_3 < (l0_1.length : Int)) = false := decide_eq_false c50
          clear c50
          have H' := Aside0.mk H
          clear H
          have hcz106_0 : wr.cell? ⟨gb169,0,none⟩ = some (.slice A0_0 l0_0.length c0_0) := (blk_cell BK169.out 0).trans rfl
          have hcz106_1 : wr.cell? ⟨gb169,1,none⟩ = some (.slice A0_1 l0_1.length c0_1) := (blk_cell BK169.out 1).trans rfl
          have hfz106_0 := blk_frozen BK169.out 0
          have hfz106_1 := blk_frozen BK169.out 1
          go_wp2
          go_roundg k3
          case measure => have := HK1.out; have := HK2.out; have := HK3.out; omega
          case rel => exact ⟨(x3_3),(wrap64 (x8_2 + 1)),(by first | rfl | (simp; done) | (simp [*]; done)),H',⟨by have := HK1.out; have := HK2.out; have := HK3.out; omega⟩,⟨by (with_reducible repeat (first | apply Kd.R_alloc | apply Kd.R_drewN | apply Kd.R_drew)); exact HO_3.out⟩,⟨by (with_reducible repeat (first | apply Kd.R_alloc | apply Kd.R_drewN | apply Kd.R_drew)); exact HO_6.out⟩,⟨by (with_reducible repeat (first | apply Kd.R_alloc | apply Kd.R_drewN | apply Kd.R_drew)); exact HO_7.out⟩,⟨by (with_reducible repeat (first | refine blk_drewN ?_ _ | refine blk_drew ?_ | refine blk_alloc ?_ _)); exact BK169.out⟩,⟨by repeat (first | (with_reducible first | exact HB.out | apply below_alloc | apply pw_below_drewN | apply below_drew1 | refine below_set ?_ GE169.out) | exact HB.out)⟩⟩
      ·rw [if_neg c48] at H
       have c48b0 : decide (x8_2 < (l0_1.length : Int)) = false := decide_eq_false c48
       clear c48
       have H' := Aside0.mk H
       clear H
       have hcz107_0 : wr.cell? ⟨gb169,0,none⟩ = some (.slice A0_0 l0_0.length c0_0) := (blk_cell BK169.out 0).trans rfl
       have hcz107_1 : wr.cell? ⟨gb169,1,none⟩ = some (.slice A0_1 l0_1.length c0_1) := (blk_cell BK169.out 1).trans rfl
       have hfz107_0 := blk_frozen BK169.out 0
       have hfz107_1 := blk_frozen BK169.out 1
       go_wp2
       go_loopg [3,14] k2 (fun kq v3 v14 w' => ∃ (x3_3 : List (S27)) (x14_3 : Int),v14 = .int .i64 x14_3 ∧ Aside0 (rf_binds.l3 kq x3_3 x14_3 l0_0 l0_1 = some r) ∧ Aside0 (kq ≤ k2) ∧ Aside0 (Kd.R k27 27 w' w.heap.size (fun _ => True) v3 x3_3) ∧ Aside0 (w'.heap[gb169]? = some (.cells #[(.slice A0_0 l0_0.length c0_0),(.slice A0_1 l0_1.length c0_1)] 25 (0,0))) ∧ Aside0 (Below w.heap.size w w'))
       case atStart => exact ⟨(x3_2),(1),(by first | rfl | (simp; done) | (simp [*]; done)),H',⟨Nat.le_refl _⟩,⟨by (with_reducible repeat (first | apply Kd.R_alloc | apply Kd.R_drewN | apply Kd.R_drew)); exact HO_3.out⟩,⟨by (with_reducible repeat (first | refine blk_drewN ?_ _ | refine blk_drew ?_ | refine blk_alloc ?_ _)); exact BK169.out⟩,⟨by repeat (first | (with_reducible first | exact HB.out | apply below_alloc | apply pw_below_drewN | apply below_drew1 | refine below_set ?_ GE169.out) | exact HB.out)⟩⟩
       case round =>
        clear H'
        try clear p1
        try clear q1
        try clear hx1
        try clear p2
        try clear q2
        try clear hx2
        try clear c3
        try clear c4
        try clear c5
        try clear p6
        try clear c7
        try clear c8
        try clear p19
        try clear q19
        try clear hx19
        try clear p21
        try clear q21
        try clear hx21
        try clear c48
        try clear c48b0
        try clear c50
        try clear c50b0
        try clear c51
        try clear c52
        try clear c53
        try clear c54
        try clear c55
        try clear c55b0
        try clear c55b1
        try clear c56
        try clear c57
        try clear p64
        try clear c76
        try clear c81
        try clear c82
        try clear c83
        try clear c86
        try clear hcz103_0
        try clear hcz103_1
        try clear hcz106_0
        try clear hcz106_1
        try clear hcz107_0
        try clear hcz107_1
        try clear hfz103_0
        try clear hfz103_1
        try clear hfz106_0
        try clear hfz106_1
        try clear hfz107_0
        try clear hfz107_1
        try clear hx196_0
        try clear hx197_0
        try clear hx215_0
        try clear hx216_0
        try clear p196
        try clear p197
        try clear p215
        try clear p216
        try clear q196
        try clear q197
        try clear q215
        try clear q216
        obtain ⟨x3_3,x14_3,rfl,HA,HK3,HO_3,BK169,HB⟩ := hrel
        cases gk with
        | zero => exact absurd HA.out (by simp [rf_binds.l3])
        | succ k3 =>
         have H := HA.out
         clear HA
         simp only [rf_binds.l3] at H
         by_cases c108 : x14_3 < (l0_1.length : Int)
         ·rw [if_pos c108] at H
          have c108b0 : decide (x14_3 < (l0_1.length : Int)) = true := decide_eq_true c108
          clear c108
          by_cases c109 : x3_3.length < 5864062014805
          ·rw [if_pos c109] at H
           have LMc109 := Aside0.mk c109
           clear c109
           obtain ⟨y224,hy224⟩ : ∃ y_ : List (S27),y_ = (x3_3 ++ [(⟨x14_3,0,0⟩ : S27)]) := ⟨_,rfl⟩
           replace H : (rf_binds.l3 k3 y224 (wrap64 (x14_3 + 1)) l0_0 l0_1) = some r := by first | (rw [hy224]; with_reducible exact H) | (have H2_ := (Option.bind_some _ _).symm.trans H; rw [hy224]; with_reducible exact H2_) | (have H2_ := (Option.bind_some _ _).symm.trans H; with_reducible exact H2_) | with_reducible exact H | (rw [hy224]; exact H) | exact H
           have Ny224 := Aside0.mk hy224
           clear hy224
           have H' := Aside0.mk H
           clear H
           have hcz110_0 : wr.cell? ⟨gb169,0,none⟩ = some (.slice A0_0 l0_0.length c0_0) := (blk_cell BK169.out 0).trans rfl
           have hcz110_1 : wr.cell? ⟨gb169,1,none⟩ = some (.slice A0_1 l0_1.length c0_1) := (blk_cell BK169.out 1).trans rfl
           have hfz110_0 := blk_frozen BK169.out 0
           have hfz110_1 := blk_frozen BK169.out 1
           go_wp2_with (first | ((with_reducible refine gate_builtin (b := .append) (xs := #[.tmp 147,.tmp 150]) rfl ?_); at_builtin; refine Kd.R_append k27 (w0 := w) w.heap.size rfl (.tmp 147) (.tmp 150) 68 27 (.agg #[(.int .i64 0),(.int .i64 0),(.int .i64 0)]) 24 rfl Try.underlying68 info27 rfl (by decide) (by omega) u3 x3_3 (⟨x14_3,0,0⟩ : S27) [.int .i64 x14_3,.int .i64 0,.int .i64 0] (fun _ => True) (fun _ => False) rfl rfl ?aP (fun _ hk => hk.elim) ?aF ?aO ?aB ?aS ?aL ?_; (case aP => exact k27_mkM _ _ _ (⟨x14_3,0,0⟩ : S27)); (case aB => exact (by repeat (first | (with_reducible first | exact HB.out | apply below_alloc | apply pw_below_drewN | apply below_drew1 | refine below_set ?_ GE169.out) | exact HB.out))); (case aF => exact (fun _ _ => trivial)); (case aO => exact (by (with_reducible repeat (first | apply Kd.R_alloc | apply Kd.R_drewN | apply Kd.R_drew)); exact HO_3.out)); (case aS => exact (below_size (by repeat (first | (with_reducible first | exact HB.out | apply below_alloc | apply pw_below_drewN | apply below_drew1 | refine below_set ?_ GE169.out) | exact HB.out)))); (case aL => have := LMc109.out; omega); intro v225 w111 ho hb hg hat; rw [← Ny224.out] at ho; have n0_ := Aside0.mk (blk_grown (g := gb169) (o := .cells #[.slice A0_0 l0_0.length c0_0,.slice A0_1 l0_1.length c0_1] 25 (0,0)) (by (with_reducible repeat (first | refine blk_drewN ?_ _ | refine blk_drew ?_ | refine blk_alloc ?_ _)); exact BK169.out) hg (Kd.R_ne HO_3.out BK169.out (by decide))); have n1_ := Aside0.mk (hb); have n2_ := Aside0.mk (ho); clear BK169; clear HB; clear HO_3; have BK169 := n0_; have HB := n1_; have HO226 := n2_; clear n0_ n1_ n2_; clear ho hb hg hat))
           go_roundg k3
           case measure => have := HK1.out; have := HK2.out; have := HK3.out; omega
           case rel => exact ⟨(y224),(wrap64 (x14_3 + 1)),(by first | rfl | (simp; done) | (simp [*]; done)),H',⟨by have := HK1.out; have := HK2.out; have := HK3.out; omega⟩,⟨by (with_reducible repeat (first | apply Kd.R_alloc | apply Kd.R_drewN | apply Kd.R_drew)); exact HO226.out⟩,⟨by (with_reducible repeat (first | refine blk_drewN ?_ _ | refine blk_drew ?_ | refine blk_alloc ?_ _)); exact BK169.out⟩,⟨by repeat (first | (with_reducible first | exact HB.out | apply below_alloc | apply pw_below_drewN | apply below_drew1 | refine below_set ?_ GE169.out) | exact HB.out)⟩⟩
          ·rw [if_neg c109] at H
           exact absurd H (by simp)
         ·rw [if_neg c108] at H
          have c108b0 : decide (x14_3 < (l0_1.length : Int)) = false := decide_eq_false c108
          clear c108
          obtain rfl := Option.some.inj H
          have hcz112_0 : wr.cell? ⟨gb169,0,none⟩ = some (.slice A0_0 l0_0.length c0_0) := (blk_cell BK169.out 0).trans rfl
          have hcz112_1 : wr.cell? ⟨gb169,1,none⟩ = some (.slice A0_1 l0_1.length c0_1) := (blk_cell BK169.out 1).trans rfl
          have hfz112_0 := blk_frozen BK169.out 0
          have hfz112_1 := blk_frozen BK169.out 1
          go_wp2
          go_ret
          exact ⟨_,by first | rfl | (simp [errW_none,errW_some] <;> rfl) | (simp [*,errW_none,errW_some] <;> rfl),by (with_reducible repeat (first | apply Kd.R_alloc | apply Kd.R_drewN | apply Kd.R_drew)); exact HO_3.out,by repeat (first | (with_reducible first | exact HB.out | apply below_alloc | apply pw_below_drewN | apply below_drew1 | refine below_set ?_ GE169.out) | exact HB.out)⟩

end Go.Proofs.Ytlfopemghafboaa.D
