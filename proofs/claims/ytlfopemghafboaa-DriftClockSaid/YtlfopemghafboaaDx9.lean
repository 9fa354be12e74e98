/- Contracts of functions that the law reaches, each a walk through its code, printed by a program. No condition beyond each theorem's own hypotheses. -/
-- Written by a program of this session (wip/patch_print.py over the kit's printer).
import Derived.Test.YtlfopemghafboaaDx0
import Derived.Test.YtlfopemghafboaaDx2
import Derived.Test.YtlfopemghafboaaDx3
import Derived.Test.YtlfopemghafboaaDx4
import Derived.Test.YtlfopemghafboaaDx7
namespace Go.Proofs.Ytlfopemghafboaa.D
open Go.RowKit Go.Proofs.YtlfopemghafboaaW.PrintWords Go.Proofs.YtlfopemghafboaaW.PrintLast Go.Proofs.YtlfopemghafboaaW.PrintMore
attribute [local go_sem] max2_int min2_int max_two min_two max_three min_three max_four min_four   -- for this text's walks alone
set_option linter.unusedVariables false
set_option linter.unusedSimpArgs false

/-! ### dr_CheckClock: function 36 -/
mutual
def dr_CheckClock.j0 : Nat → List (S82) → Bool → Int → Int → Option (Int)
 | 0,_,_,_,_ => none
 | k + 1,x1,x16,x388000,x388001 => if x16 = true then (some 310) else (dr_CheckClock.l0 k x1 x1 (x1.length : Int) 0 x388000 x388001)
def dr_CheckClock.l0 : Nat → List (S82) → List (S82) → Int → Int → Int → Int → Option (Int)
 | 0,_,_,_,_,_,_ => none
 | k + 1,x1,x17,x18,x19,x388000,x388001 => if x19 < x18 then (if 0 ≤ x19 then (if x19 < (x17.length : Int) then ((dr_between.f ((rd_T82 x17 x19).f0) 0 1000000).bind fun t391 => (if t391 = true then ((dr_between.f ((rd_T82 x17 x19).f1) (-1000000000000000) 1000000000000000).bind fun t392 => (dr_CheckClock.j2 k x1 x19 x17 x18 x19 (!t392) x388000 x388001 ((rd_T82 x17 x19).f0) ((rd_T82 x17 x19).f1))) else (dr_CheckClock.j2 k x1 x19 x17 x18 x19 true x388000 x388001 ((rd_T82 x17 x19).f0) ((rd_T82 x17 x19).f1)))) else (none)) else (none)) else (some 0)
def dr_CheckClock.j2 : Nat → List (S82) → Int → List (S82) → Int → Int → Bool → Int → Int → Int → Int → Option (Int)
 | 0,_,_,_,_,_,_,_,_,_,_ => none
 | k + 1,x1,x5,x17,x18,x19,x33,x388000,x388001,x391000,x391001 => if x33 = true then (some 310) else (if x5 = 0 then (dr_CheckClock.l0 k x1 x17 x18 (wrap64 (x19 + 1)) x388000 x388001) else (if 0 ≤ (wrap64 (x5 - 1)) then (if (wrap64 (x5 - 1)) < (x1.length : Int) then (if (wrap64 (x391000 - ((rd_T82 x1 (wrap64 (x5 - 1))).f0))) ≤ 0 then (some 310) else ((dr_between.f (wrap64 (x391001 - ((rd_T82 x1 (wrap64 (x5 - 1))).f1))) (wrap64 (x388000 * (wrap64 (x391000 - ((rd_T82 x1 (wrap64 (x5 - 1))).f0))))) (wrap64 (x388001 * (wrap64 (x391000 - ((rd_T82 x1 (wrap64 (x5 - 1))).f0)))))).bind fun t395 => (if t395 = true then (dr_CheckClock.l0 k x1 x17 x18 (wrap64 (x19 + 1)) x388000 x388001) else (some 310)))) else (none)) else (none)))
end
def dr_CheckClock.f (k : Nat) (a0_0 : Int) (a0_1 : Int) (l1 : List (S82)) : Option (Int) := (dr_isRate.f a0_0 a0_1).bind fun t388 => (if t388 = true then (dr_CheckClock.j0 k l1 (decide ((l1.length : Int) > 10000)) a0_0 a0_1) else (dr_CheckClock.j0 k l1 true a0_0 a0_1))
set_option maxHeartbeats 8000000 in
set_option maxRecDepth 100000 in
theorem dr_CheckClock.calls (k : Nat) (a0_0 : Int) (a0_1 : Int) (A1 : Option Addr) (c1 : Nat) (l1 : List (S82)) (r : Int) (w : World) (hr1 : Kd.C k82 w A1 l1.length l1) (hc1 : l1.length ≤ c1) (h : dr_CheckClock.f k a0_0 a0_1 l1 = some r) :
  Calls Try.prog 36 #[.agg #[.int .i64 a0_0,.int .i64 a0_1],.slice A1 l1.length c1] w fun e w' => e = .returned (.int .i64 r) ∧ Below w.heap.size w w' := by
 have hu42 := Try.underlying42
 have hu82 := Try.underlying82
 have HR1 := Aside0.mk hr1
 have HC1 := Aside0.mk hc1
 clear hr1 hc1
 have HB := Aside0.mk (Below.refl w.heap.size w)
 have H : ((dr_isRate.f a0_0 a0_1).bind fun t388 => (if t388 = true then (dr_CheckClock.j0 k l1 (decide ((l1.length : Int) > 10000)) a0_0 a0_1) else (dr_CheckClock.j0 k l1 true a0_0 a0_1))) = some r := h
 clear h
 have HC3 := Aside0.mk H
 clear H
 go_enter Try.func36,Try.ntmps36
 go_upto_region 1 with (first | ((with_reducible refine gate_dst (N := 2) rfl ?_); (try (refine gate_guard (by rfl) ?_; dsimp only)); refine box_event ?hg (N := 2) ?hd (cs := #[.int .i64 a0_0,.int .i64 a0_1]) (t := 42) ?hr ?_; (case hd => rfl); (case hg => rfl); (case hr => first | (go_simp; done) | (go_simp; rfl)); intro gb387 hg w4 hbox hb; have n0_ := Aside0.mk (below_step (by repeat (first | (with_reducible first | exact HB.out | apply below_alloc | apply pw_below_drewN | apply below_drew1) | exact HB.out)) hb); have n1_ := Aside0.mk (hbox); have n2_ := Aside0.mk ((by rw [hg]; exact (below_size (by repeat (first | (with_reducible first | exact HB.out | apply below_alloc | apply pw_below_drewN | apply below_drew1) | exact HB.out))) : w.heap.size ≤ gb387)); have n3_ := Aside0.mk ((by rw [hg]; exact (below_size (by repeat (first | (with_reducible first | exact HB.out | apply below_alloc | apply pw_below_drewN | apply below_drew1) | exact HB.out))) : w.heap.size ≤ gb387)); clear HB; have HB := n0_; have BK387 := n1_; have GW387 := n2_; have GE387 := n3_; clear n0_ n1_ n2_ n3_; clear hb hbox hg))
 repeat (go_quiet (first | ((with_reducible refine gate_dst (N := 2) rfl ?_); (try (refine gate_guard (by rfl) ?_; dsimp only)); refine box_event ?hg (N := 2) ?hd (cs := #[.int .i64 a0_0,.int .i64 a0_1]) (t := 42) ?hr ?_; (case hd => rfl); (case hg => rfl); (case hr => first | (go_simp; done) | (go_simp; rfl)); intro gb387 hg w4 hbox hb; have n0_ := Aside0.mk (below_step (by repeat (first | (with_reducible first | exact HB.out | apply below_alloc | apply pw_below_drewN | apply below_drew1) | exact HB.out)) hb); have n1_ := Aside0.mk (hbox); have n2_ := Aside0.mk ((by rw [hg]; exact (below_size (by repeat (first | (with_reducible first | exact HB.out | apply below_alloc | apply pw_below_drewN | apply below_drew1) | exact HB.out))) : w.heap.size ≤ gb387)); have n3_ := Aside0.mk ((by rw [hg]; exact (below_size (by repeat (first | (with_reducible first | exact HB.out | apply below_alloc | apply pw_below_drewN | apply below_drew1) | exact HB.out))) : w.heap.size ≤ gb387)); clear HB; have HB := n0_; have BK387 := n1_; have GW387 := n2_; have GE387 := n3_; clear n0_ n1_ n2_ n3_; clear hb hbox hg)); go_upto_region 1 with (first | ((with_reducible refine gate_dst (N := 2) rfl ?_); (try (refine gate_guard (by rfl) ?_; dsimp only)); refine box_event ?hg (N := 2) ?hd (cs := #[.int .i64 a0_0,.int .i64 a0_1]) (t := 42) ?hr ?_; (case hd => rfl); (case hg => rfl); (case hr => first | (go_simp; done) | (go_simp; rfl)); intro gb387 hg w4 hbox hb; have n0_ := Aside0.mk (below_step (by repeat (first | (with_reducible first | exact HB.out | apply below_alloc | apply pw_below_drewN | apply below_drew1) | exact HB.out)) hb); have n1_ := Aside0.mk (hbox); have n2_ := Aside0.mk ((by rw [hg]; exact (below_size (by repeat (first | (with_reducible first | exact HB.out | apply below_alloc | apply pw_below_drewN | apply below_drew1) | exact HB.out))) : w.heap.size ≤ gb387)); have n3_ := Aside0.mk ((by rw [hg]; exact (below_size (by repeat (first | (with_reducible first | exact HB.out | apply below_alloc | apply pw_below_drewN | apply below_drew1) | exact HB.out))) : w.heap.size ≤ gb387)); clear HB; have HB := n0_; have BK387 := n1_; have GW387 := n2_; have GE387 := n3_; clear n0_ n1_ n2_ n3_; clear hb hbox hg)))
 (try simp only [Act.put,List.setIfInBounds_toArray,List.set_cons_zero,List.set_cons_succ])
 go_cut [16] (fun v16 wc => ∃ (kq : Nat) (x16_2 : Bool),v16 = .bool x16_2 ∧ Aside0 (dr_CheckClock.j0 kq l1 x16_2 a0_0 a0_1 = some r) ∧ Aside0 (kq ≤ k) ∧ Aside0 (wc.heap[gb387]? = some (.cells #[.int .i64 a0_0,.int .i64 a0_1] 42 (0,0))) ∧ Aside0 (Below w.heap.size w wc))
 case first =>
  have H := HC3.out
  clear HC3
  replace H := Option.bind_eq_some_iff.mp H
  obtain ⟨t388,A50,H⟩ := H
  replace H : (if t388 = true then (dr_CheckClock.j0 k l1 (decide ((l1.length : Int) > 10000)) a0_0 a0_1) else (dr_CheckClock.j0 k l1 true a0_0 a0_1)) = some r := H
  have A5 := Aside0.mk A50
  clear A50
  by_cases c6 : t388 = true
  ·subst c6
   have H1 : (dr_CheckClock.j0 k l1 (decide ((l1.length : Int) > 10000)) a0_0 a0_1) = some r := by rw [if_pos rfl] at H; exact H
   clear H
   have H := H1
   clear H1
   have H' := Aside0.mk H
   clear H
   have hcz7_0 : w4.cell? ⟨gb387,0,none⟩ = some (.int .i64 a0_0) := (blk_cell BK387.out 0).trans rfl
   have hcz7_1 : w4.cell? ⟨gb387,1,none⟩ = some (.int .i64 a0_1) := (blk_cell BK387.out 1).trans rfl
   have hfz7_0 := blk_frozen BK387.out 0
   have hfz7_1 := blk_frozen BK387.out 1
   go_wp2_with (first | (go_at_call 73; (with_reducible refine (dr_isRate.calls a0_0 a0_1 true _ A5.out).mono ?_); rintro e w8 ⟨rfl,hb⟩; have n0_ := Aside0.mk (blk_below (g := gb387) (o := .cells #[.int .i64 a0_0,.int .i64 a0_1] 42 (0,0)) (by (with_reducible repeat (first | refine blk_drewN ?_ _ | refine blk_drew ?_ | refine blk_alloc ?_ _)); exact BK387.out) hb); have n1_ := Aside0.mk (below_step (by repeat (first | (with_reducible first | exact HB.out | apply below_alloc | apply pw_below_drewN | apply below_drew1 | refine below_set ?_ GE387.out) | exact HB.out)) hb); clear BK387; clear HB; have BK387 := n0_; have HB := n1_; clear n0_ n1_; (try clear hb); (try clear hb2); (try clear hk); (try clear hi)))
   repeat (go_quiet (first | (go_at_call 73; (with_reducible refine (dr_isRate.calls a0_0 a0_1 true _ A5.out).mono ?_); rintro e w8 ⟨rfl,hb⟩; have n0_ := Aside0.mk (blk_below (g := gb387) (o := .cells #[.int .i64 a0_0,.int .i64 a0_1] 42 (0,0)) (by (with_reducible repeat (first | refine blk_drewN ?_ _ | refine blk_drew ?_ | refine blk_alloc ?_ _)); exact BK387.out) hb); have n1_ := Aside0.mk (below_step (by repeat (first | (with_reducible first | exact HB.out | apply below_alloc | apply pw_below_drewN | apply below_drew1 | refine below_set ?_ GE387.out) | exact HB.out)) hb); clear BK387; clear HB; have BK387 := n0_; have HB := n1_; clear n0_ n1_; (try clear hb); (try clear hb2); (try clear hk); (try clear hi))); try go_wp2_with (first | (go_at_call 73; (with_reducible refine (dr_isRate.calls a0_0 a0_1 true _ A5.out).mono ?_); rintro e w8 ⟨rfl,hb⟩; have n0_ := Aside0.mk (blk_below (g := gb387) (o := .cells #[.int .i64 a0_0,.int .i64 a0_1] 42 (0,0)) (by (with_reducible repeat (first | refine blk_drewN ?_ _ | refine blk_drew ?_ | refine blk_alloc ?_ _)); exact BK387.out) hb); have n1_ := Aside0.mk (below_step (by repeat (first | (with_reducible first | exact HB.out | apply below_alloc | apply pw_below_drewN | apply below_drew1 | refine below_set ?_ GE387.out) | exact HB.out)) hb); clear BK387; clear HB; have BK387 := n0_; have HB := n1_; clear n0_ n1_; (try clear hb); (try clear hb2); (try clear hk); (try clear hi))))
   go_meet
   case rel => exact ⟨_,(decide ((l1.length : Int) > 10000)),(by first | rfl | (simp; done) | (simp [*]; done)),H',⟨by first | omega | exact Nat.le_refl _⟩,⟨by (with_reducible repeat (first | refine blk_drewN ?_ _ | refine blk_drew ?_ | refine blk_alloc ?_ _)); exact BK387.out⟩,⟨by repeat (first | (with_reducible first | exact HB.out | apply below_alloc | apply pw_below_drewN | apply below_drew1 | refine below_set ?_ GE387.out) | exact HB.out)⟩⟩
  ·replace c6 := Bool.eq_false_iff.mpr c6
   subst c6
   have H1 : (dr_CheckClock.j0 k l1 true a0_0 a0_1) = some r := by rw [if_neg (show ¬ (false = true) by decide)] at H; exact H
   clear H
   have H := H1
   clear H1
   have H' := Aside0.mk H
   clear H
   have hcz9_0 : w4.cell? ⟨gb387,0,none⟩ = some (.int .i64 a0_0) := (blk_cell BK387.out 0).trans rfl
   have hcz9_1 : w4.cell? ⟨gb387,1,none⟩ = some (.int .i64 a0_1) := (blk_cell BK387.out 1).trans rfl
   have hfz9_0 := blk_frozen BK387.out 0
   have hfz9_1 := blk_frozen BK387.out 1
   go_wp2_with (first | (go_at_call 73; (with_reducible refine (dr_isRate.calls a0_0 a0_1 false _ A5.out).mono ?_); rintro e w10 ⟨rfl,hb⟩; have n0_ := Aside0.mk (blk_below (g := gb387) (o := .cells #[.int .i64 a0_0,.int .i64 a0_1] 42 (0,0)) (by (with_reducible repeat (first | refine blk_drewN ?_ _ | refine blk_drew ?_ | refine blk_alloc ?_ _)); exact BK387.out) hb); have n1_ := Aside0.mk (below_step (by repeat (first | (with_reducible first | exact HB.out | apply below_alloc | apply pw_below_drewN | apply below_drew1 | refine below_set ?_ GE387.out) | exact HB.out)) hb); clear BK387; clear HB; have BK387 := n0_; have HB := n1_; clear n0_ n1_; (try clear hb); (try clear hb2); (try clear hk); (try clear hi)))
   repeat (go_quiet (first | (go_at_call 73; (with_reducible refine (dr_isRate.calls a0_0 a0_1 false _ A5.out).mono ?_); rintro e w10 ⟨rfl,hb⟩; have n0_ := Aside0.mk (blk_below (g := gb387) (o := .cells #[.int .i64 a0_0,.int .i64 a0_1] 42 (0,0)) (by (with_reducible repeat (first | refine blk_drewN ?_ _ | refine blk_drew ?_ | refine blk_alloc ?_ _)); exact BK387.out) hb); have n1_ := Aside0.mk (below_step (by repeat (first | (with_reducible first | exact HB.out | apply below_alloc | apply pw_below_drewN | apply below_drew1 | refine below_set ?_ GE387.out) | exact HB.out)) hb); clear BK387; clear HB; have BK387 := n0_; have HB := n1_; clear n0_ n1_; (try clear hb); (try clear hb2); (try clear hk); (try clear hi))); try go_wp2_with (first | (go_at_call 73; (with_reducible refine (dr_isRate.calls a0_0 a0_1 false _ A5.out).mono ?_); rintro e w10 ⟨rfl,hb⟩; have n0_ := Aside0.mk (blk_below (g := gb387) (o := .cells #[.int .i64 a0_0,.int .i64 a0_1] 42 (0,0)) (by (with_reducible repeat (first | refine blk_drewN ?_ _ | refine blk_drew ?_ | refine blk_alloc ?_ _)); exact BK387.out) hb); have n1_ := Aside0.mk (below_step (by repeat (first | (with_reducible first | exact HB.out | apply below_alloc | apply pw_below_drewN | apply below_drew1 | refine below_set ?_ GE387.out) | exact HB.out)) hb); clear BK387; clear HB; have BK387 := n0_; have HB := n1_; clear n0_ n1_; (try clear hb); (try clear hb2); (try clear hk); (try clear hi))))
   go_meet
   case rel => exact ⟨_,(true),(by first | rfl | (simp; done) | (simp [*]; done)),H',⟨by first | omega | exact Nat.le_refl _⟩,⟨by (with_reducible repeat (first | refine blk_drewN ?_ _ | refine blk_drew ?_ | refine blk_alloc ?_ _)); exact BK387.out⟩,⟨by repeat (first | (with_reducible first | exact HB.out | apply below_alloc | apply pw_below_drewN | apply below_drew1 | refine below_set ?_ GE387.out) | exact HB.out)⟩⟩
 case rest =>
  clear HC3
  try clear c1
  try clear p2
  try clear c3
  try clear c6
  try clear hcz7_0
  try clear hcz7_1
  try clear hcz9_0
  try clear hcz9_1
  try clear hfz7_0
  try clear hfz7_1
  try clear hfz9_0
  try clear hfz9_1
  obtain ⟨kq,x16_2,rfl,HA,HJ2,BK387,HB⟩ := hcut
  cases kq with
  | zero => exact absurd HA.out (by simp [dr_CheckClock.j0])
  | succ kj2 =>
   have H := HA.out
   clear HA
   simp only [dr_CheckClock.j0] at H
   by_cases c11 : x16_2 = true
   ·subst c11
    have H1 : (some 310) = some r := by rw [if_pos rfl] at H; exact H
    clear H
    have H := H1
    clear H1
    obtain rfl := Option.some.inj H
    go_wp2
    repeat (go_quiet (fail); try go_wp2)
    go_ret
    exact ⟨by first | rfl | (simp [errW_none,errW_some] <;> rfl) | (simp [*,errW_none,errW_some] <;> rfl),by repeat (first | (with_reducible first | exact HB.out | apply below_alloc | apply pw_below_drewN | apply below_drew1 | refine below_set ?_ GE387.out) | exact HB.out)⟩
   ·replace c11 := Bool.eq_false_iff.mpr c11
    subst c11
    have H1 : (dr_CheckClock.l0 kj2 l1 l1 (l1.length : Int) 0 a0_0 a0_1) = some r := by rw [if_neg (show ¬ (false = true) by decide)] at H; exact H
    clear H
    have H := H1
    clear H1
    have H' := Aside0.mk H
    clear H
    go_wp2
    repeat (go_quiet (fail); try go_wp2)
    go_loopg [19] kj2 (fun kq v19 w' => ∃ (x19_2 : Int),v19 = .int .i64 x19_2 ∧ Aside0 (dr_CheckClock.l0 kq l1 l1 (l1.length : Int) x19_2 a0_0 a0_1 = some r) ∧ Aside0 (kq ≤ kj2) ∧ Aside0 (w'.heap[gb387]? = some (.cells #[.int .i64 a0_0,.int .i64 a0_1] 42 (0,0))) ∧ Aside0 (Below w.heap.size w w'))
    case atStart => exact ⟨(0),(by first | rfl | (simp; done) | (simp [*]; done)),H',⟨Nat.le_refl _⟩,⟨by (with_reducible repeat (first | refine blk_drewN ?_ _ | refine blk_drew ?_ | refine blk_alloc ?_ _)); exact BK387.out⟩,⟨by repeat (first | (with_reducible first | exact HB.out | apply below_alloc | apply pw_below_drewN | apply below_drew1 | refine below_set ?_ GE387.out) | exact HB.out)⟩⟩
    case round =>
     clear H'
     try clear c1
     try clear p2
     try clear c3
     try clear c6
     try clear c11
     try clear hcz7_0
     try clear hcz7_1
     try clear hcz9_0
     try clear hcz9_1
     try clear hfz7_0
     try clear hfz7_1
     try clear hfz9_0
     try clear hfz9_1
     try clear p2
     obtain ⟨x19_2,rfl,HA,HK2,BK387,HB⟩ := hrel
     cases gk with
     | zero => exact absurd HA.out (by simp [dr_CheckClock.l0])
     | succ k2 =>
      have H := HA.out
      clear HA
      simp only [dr_CheckClock.l0] at H
      by_cases c12 : x19_2 < (l1.length : Int)
      ·rw [if_pos c12] at H
       have c12b0 : decide (x19_2 < (l1.length : Int)) = true := decide_eq_true c12
       clear c12
       by_cases c13 : 0 ≤ x19_2
       ·rw [if_pos c13] at H
        have c13b0 : decide (0 ≤ x19_2) = true := decide_eq_true c13
        clear c13
        by_cases c14 : x19_2 < (l1.length : Int)
        ·rw [if_pos c14] at H
         have c14b0 : decide (x19_2 < (l1.length : Int)) = true := decide_eq_true c14
         clear c14
         have HC15 := Aside0.mk H
         clear H
         have p389 : 0 ≤ (x19_2 : Int) := of_decide_eq_true (by first | (with_reducible assumption) | assumption)
         have q389 : x19_2 < (l1.length : Int) := of_decide_eq_true (by first | (with_reducible assumption) | assumption)
         obtain ⟨ad389,e389,hx389_0,hx389_1⟩ := at_T82 HR1.out x19_2 p389 q389
         cases e389
         replace hx389_0 := (HB.out.cell (World.block_lt_of_cell? w _ hx389_0)).trans hx389_0
         replace hx389_1 := (HB.out.cell (World.block_lt_of_cell? w _ hx389_1)).trans hx389_1
         replace p389 := eq_true p389
         replace q389 := eq_true q389
         go_upto_region 6 with (first | ((with_reducible refine gate_dst (N := 6) rfl ?_); (try (refine gate_guard (by rfl) ?_; dsimp only)); refine box_event ?hg (N := 6) ?hd (cs := #[.int .i64 0,.int .i64 0]) (t := 82) ?hr ?_; (case hd => rfl); (case hg => rfl); (case hr => first | (go_simp; done) | (go_simp; rfl)); intro gb390 hg w16 hbox hb; have n0_ := Aside0.mk (blk_below (g := gb387) (o := .cells #[.int .i64 a0_0,.int .i64 a0_1] 42 (0,0)) (by (with_reducible repeat (first | refine blk_drewN ?_ _ | refine blk_drew ?_ | refine blk_alloc ?_ _)); exact BK387.out) hb); have n1_ := Aside0.mk (below_step (by repeat (first | (with_reducible first | exact HB.out | apply below_alloc | apply pw_below_drewN | apply below_drew1 | refine below_set ?_ GE387.out) | exact HB.out)) hb); have n2_ := Aside0.mk (hbox); have n3_ := Aside0.mk ((by rw [hg]; exact (below_size (by repeat (first | (with_reducible first | exact HB.out | apply below_alloc | apply pw_below_drewN | apply below_drew1 | refine below_set ?_ GE387.out) | exact HB.out))) : w.heap.size ≤ gb390)); have n4_ := Aside0.mk ((by rw [hg]; exact (below_size (by repeat (first | (with_reducible first | exact HB.out | apply below_alloc | apply pw_below_drewN | apply below_drew1 | refine below_set ?_ GE387.out) | exact HB.out))) : w.heap.size ≤ gb390)); have n5_ := Aside0.mk ((by rw [hg]; exact Nat.ne_of_lt (blk_lt (g := gb387) (o := .cells #[.int .i64 a0_0,.int .i64 a0_1] 42 (0,0)) (by (with_reducible repeat (first | refine blk_drewN ?_ _ | refine blk_drew ?_ | refine blk_alloc ?_ _)); exact BK387.out)) : gb387 ≠ gb390)); have n6_ := Aside0.mk ((by rw [hg]; exact Nat.ne_of_gt (blk_lt (g := gb387) (o := .cells #[.int .i64 a0_0,.int .i64 a0_1] 42 (0,0)) (by (with_reducible repeat (first | refine blk_drewN ?_ _ | refine blk_drew ?_ | refine blk_alloc ?_ _)); exact BK387.out)) : gb390 ≠ gb387)); clear BK387; clear HB; have BK387 := n0_; have HB := n1_; have BK390 := n2_; have GW390 := n3_; have GE390 := n4_; have NB387_390 := n5_; have NB390_387 := n6_; clear n0_ n1_ n2_ n3_ n4_ n5_ n6_; clear hb hbox hg; have hnb17 := NB390_387.out; have hnc17 := NB387_390.out; have hcz18_0 : w16.cell? ⟨gb390,0,none⟩ = some (.int .i64 0) := (blk_cell BK390.out 0).trans rfl; have hcz18_1 : w16.cell? ⟨gb390,1,none⟩ = some (.int .i64 0) := (blk_cell BK390.out 1).trans rfl; have hfz18_0 := blk_frozen BK390.out 0; have hfz18_1 := blk_frozen BK390.out 1))
         repeat (go_quiet (first | ((with_reducible refine gate_dst (N := 6) rfl ?_); (try (refine gate_guard (by rfl) ?_; dsimp only)); refine box_event ?hg (N := 6) ?hd (cs := #[.int .i64 0,.int .i64 0]) (t := 82) ?hr ?_; (case hd => rfl); (case hg => rfl); (case hr => first | (go_simp; done) | (go_simp; rfl)); intro gb390 hg w16 hbox hb; have n0_ := Aside0.mk (blk_below (g := gb387) (o := .cells #[.int .i64 a0_0,.int .i64 a0_1] 42 (0,0)) (by (with_reducible repeat (first | refine blk_drewN ?_ _ | refine blk_drew ?_ | refine blk_alloc ?_ _)); exact BK387.out) hb); have n1_ := Aside0.mk (below_step (by repeat (first | (with_reducible first | exact HB.out | apply below_alloc | apply pw_below_drewN | apply below_drew1 | refine below_set ?_ GE387.out) | exact HB.out)) hb); have n2_ := Aside0.mk (hbox); have n3_ := Aside0.mk ((by rw [hg]; exact (below_size (by repeat (first | (with_reducible first | exact HB.out | apply below_alloc | apply pw_below_drewN | apply below_drew1 | refine below_set ?_ GE387.out) | exact HB.out))) : w.heap.size ≤ gb390)); have n4_ := Aside0.mk ((by rw [hg]; exact (below_size (by repeat (first | (with_reducible first | exact HB.out | apply below_alloc | apply pw_below_drewN | apply below_drew1 | refine below_set ?_ GE387.out) | exact HB.out))) : w.heap.size ≤ gb390)); have n5_ := Aside0.mk ((by rw [hg]; exact Nat.ne_of_lt (blk_lt (g := gb387) (o := .cells #[.int .i64 a0_0,.int .i64 a0_1] 42 (0,0)) (by (with_reducible repeat (first | refine blk_drewN ?_ _ | refine blk_drew ?_ | refine blk_alloc ?_ _)); exact BK387.out)) : gb387 ≠ gb390)); have n6_ := Aside0.mk ((by rw [hg]; exact Nat.ne_of_gt (blk_lt (g := gb387) (o := .cells #[.int .i64 a0_0,.int .i64 a0_1] 42 (0,0)) (by (with_reducible repeat (first | refine blk_drewN ?_ _ | refine blk_drew ?_ | refine blk_alloc ?_ _)); exact BK387.out)) : gb390 ≠ gb387)); clear BK387; clear HB; have BK387 := n0_; have HB := n1_; have BK390 := n2_; have GW390 := n3_; have GE390 := n4_; have NB387_390 := n5_; have NB390_387 := n6_; clear n0_ n1_ n2_ n3_ n4_ n5_ n6_; clear hb hbox hg; have hnb17 := NB390_387.out; have hnc17 := NB387_390.out; have hcz18_0 : w16.cell? ⟨gb390,0,none⟩ = some (.int .i64 0) := (blk_cell BK390.out 0).trans rfl; have hcz18_1 : w16.cell? ⟨gb390,1,none⟩ = some (.int .i64 0) := (blk_cell BK390.out 1).trans rfl; have hfz18_0 := blk_frozen BK390.out 0; have hfz18_1 := blk_frozen BK390.out 1)); go_upto_region 6 with (first | ((with_reducible refine gate_dst (N := 6) rfl ?_); (try (refine gate_guard (by rfl) ?_; dsimp only)); refine box_event ?hg (N := 6) ?hd (cs := #[.int .i64 0,.int .i64 0]) (t := 82) ?hr ?_; (case hd => rfl); (case hg => rfl); (case hr => first | (go_simp; done) | (go_simp; rfl)); intro gb390 hg w16 hbox hb; have n0_ := Aside0.mk (blk_below (g := gb387) (o := .cells #[.int .i64 a0_0,.int .i64 a0_1] 42 (0,0)) (by (with_reducible repeat (first | refine blk_drewN ?_ _ | refine blk_drew ?_ | refine blk_alloc ?_ _)); exact BK387.out) hb); have n1_ := Aside0.mk (below_step (by repeat (first | (with_reducible first | exact HB.out | apply below_alloc | apply pw_below_drewN | apply below_drew1 | refine below_set ?_ GE387.out) | exact HB.out)) hb); have n2_ := Aside0.mk (hbox); have n3_ := Aside0.mk ((by rw [hg]; exact (below_size (by repeat (first | (with_reducible first | exact HB.out | apply below_alloc | apply pw_below_drewN | apply below_drew1 | refine below_set ?_ GE387.out) | exact HB.out))) : w.heap.size ≤ gb390)); have n4_ := Aside0.mk ((by rw [hg]; exact (below_size (by repeat (first | (with_reducible first | exact HB.out | apply below_alloc | apply pw_below_drewN | apply below_drew1 | refine below_set ?_ GE387.out) | exact HB.out))) : w.heap.size ≤ gb390)); have n5_ := Aside0.mk ((by rw [hg]; exact Nat.ne_of_lt (blk_lt (g := gb387) (o := .cells #[.int .i64 a0_0,.int .i64 a0_1] 42 (0,0)) (by (with_reducible repeat (first | refine blk_drewN ?_ _ | refine blk_drew ?_ | refine blk_alloc ?_ _)); exact BK387.out)) : gb387 ≠ gb390)); have n6_ := Aside0.mk ((by rw [hg]; exact Nat.ne_of_gt (blk_lt (g := gb387) (o := .cells #[.int .i64 a0_0,.int .i64 a0_1] 42 (0,0)) (by (with_reducible repeat (first | refine blk_drewN ?_ _ | refine blk_drew ?_ | refine blk_alloc ?_ _)); exact BK387.out)) : gb390 ≠ gb387)); clear BK387; clear HB; have BK387 := n0_; have HB := n1_; have BK390 := n2_; have GW390 := n3_; have GE390 := n4_; have NB387_390 := n5_; have NB390_387 := n6_; clear n0_ n1_ n2_ n3_ n4_ n5_ n6_; clear hb hbox hg; have hnb17 := NB390_387.out; have hnc17 := NB387_390.out; have hcz18_0 : w16.cell? ⟨gb390,0,none⟩ = some (.int .i64 0) := (blk_cell BK390.out 0).trans rfl; have hcz18_1 : w16.cell? ⟨gb390,1,none⟩ = some (.int .i64 0) := (blk_cell BK390.out 1).trans rfl; have hfz18_0 := blk_frozen BK390.out 0; have hfz18_1 := blk_frozen BK390.out 1)))
         (try simp only [Act.put,List.setIfInBounds_toArray,List.set_cons_zero,List.set_cons_succ])
         go_cut [33] (fun v33 wc => ∃ (kq : Nat) (x33_14 : Bool),v33 = .bool x33_14 ∧ Aside0 (dr_CheckClock.j2 kq l1 x19_2 l1 (l1.length : Int) x19_2 x33_14 a0_0 a0_1 ((rd_T82 l1 x19_2).f0) ((rd_T82 l1 x19_2).f1) = some r) ∧ Aside0 (kq ≤ k2) ∧ Aside0 (wc.heap[gb387]? = some (.cells #[.int .i64 a0_0,.int .i64 a0_1] 42 (0,0))) ∧ Aside0 (wc.heap[gb390]? = some (.cells #[.int .i64 ((rd_T82 l1 x19_2).f0),.int .i64 ((rd_T82 l1 x19_2).f1)] 82 (0,0))) ∧ Aside0 (Below w.heap.size w wc))
         case first =>
          have H := HC15.out
          clear HC15
          replace H := Option.bind_eq_some_iff.mp H
          obtain ⟨t391,A190,H⟩ := H
          replace H : (if t391 = true then ((dr_between.f ((rd_T82 l1 x19_2).f1) (-1000000000000000) 1000000000000000).bind fun t392 => (dr_CheckClock.j2 k2 l1 x19_2 l1 (l1.length : Int) x19_2 (!t392) a0_0 a0_1 ((rd_T82 l1 x19_2).f0) ((rd_T82 l1 x19_2).f1))) else (dr_CheckClock.j2 k2 l1 x19_2 l1 (l1.length : Int) x19_2 true a0_0 a0_1 ((rd_T82 l1 x19_2).f0) ((rd_T82 l1 x19_2).f1))) = some r := H
          have A19 := Aside0.mk A190
          clear A190
          by_cases c20 : t391 = true
          ·subst c20
           have H1 : ((dr_between.f ((rd_T82 l1 x19_2).f1) (-1000000000000000) 1000000000000000).bind fun t392 => (dr_CheckClock.j2 k2 l1 x19_2 l1 (l1.length : Int) x19_2 (!t392) a0_0 a0_1 ((rd_T82 l1 x19_2).f0) ((rd_T82 l1 x19_2).f1))) = some r := by rw [if_pos rfl] at H; exact H
           clear H
           have H := H1
           clear H1
           replace H := Option.bind_eq_some_iff.mp H
           obtain ⟨t392,A210,H⟩ := H
           replace H : (dr_CheckClock.j2 k2 l1 x19_2 l1 (l1.length : Int) x19_2 (!t392) a0_0 a0_1 ((rd_T82 l1 x19_2).f0) ((rd_T82 l1 x19_2).f1)) = some r := H
           have A21 := Aside0.mk A210
           clear A210
           have H' := Aside0.mk H
           clear H
           have hnb22 := NB390_387.out
           have hnc22 := NB387_390.out
           have hcz23_0 : w16.cell? ⟨gb390,0,none⟩ = some (.int .i64 0) := (blk_cell BK390.out 0).trans rfl
           have hcz23_1 : w16.cell? ⟨gb390,1,none⟩ = some (.int .i64 0) := (blk_cell BK390.out 1).trans rfl
           have hfz23_0 := blk_frozen BK390.out 0
           have hfz23_1 := blk_frozen BK390.out 1
           go_wp2_with (first | (go_at_call 59; (with_reducible refine (dr_between.calls ((rd_T82 l1 x19_2).f0) 0 1000000 true _ A19.out).mono ?_); rintro e w' ⟨rfl,⟨nd,rfl⟩⟩; (try first | exact ⟨rfl,_,World.drewN_drewN _ _ _⟩ | exact ⟨rfl,_,Eq.trans (World.drewN_drewN _ _ _) (congrArg (World.drewN _) (Nat.add_assoc _ _ _))⟩)) | (go_at_call 59; (with_reducible refine (dr_between.calls ((rd_T82 l1 x19_2).f1) (-1000000000000000) 1000000000000000 t392 _ A21.out).mono ?_); rintro e w' ⟨rfl,⟨nd,rfl⟩⟩; (try first | exact ⟨rfl,_,World.drewN_drewN _ _ _⟩ | exact ⟨rfl,_,Eq.trans (World.drewN_drewN _ _ _) (congrArg (World.drewN _) (Nat.add_assoc _ _ _))⟩)))
           repeat (go_quiet (first | (go_at_call 59; (with_reducible refine (dr_between.calls ((rd_T82 l1 x19_2).f0) 0 1000000 true _ A19.out).mono ?_); rintro e w' ⟨rfl,⟨nd,rfl⟩⟩; (try first | exact ⟨rfl,_,World.drewN_drewN _ _ _⟩ | exact ⟨rfl,_,Eq.trans (World.drewN_drewN _ _ _) (congrArg (World.drewN _) (Nat.add_assoc _ _ _))⟩)) | (go_at_call 59; (with_reducible refine (dr_between.calls ((rd_T82 l1 x19_2).f1) (-1000000000000000) 1000000000000000 t392 _ A21.out).mono ?_); rintro e w' ⟨rfl,⟨nd,rfl⟩⟩; (try first | exact ⟨rfl,_,World.drewN_drewN _ _ _⟩ | exact ⟨rfl,_,Eq.trans (World.drewN_drewN _ _ _) (congrArg (World.drewN _) (Nat.add_assoc _ _ _))⟩))); try go_wp2_with (first | (go_at_call 59; (with_reducible refine (dr_between.calls ((rd_T82 l1 x19_2).f0) 0 1000000 true _ A19.out).mono ?_); rintro e w' ⟨rfl,⟨nd,rfl⟩⟩; (try first | exact ⟨rfl,_,World.drewN_drewN _ _ _⟩ | exact ⟨rfl,_,Eq.trans (World.drewN_drewN _ _ _) (congrArg (World.drewN _) (Nat.add_assoc _ _ _))⟩)) | (go_at_call 59; (with_reducible refine (dr_between.calls ((rd_T82 l1 x19_2).f1) (-1000000000000000) 1000000000000000 t392 _ A21.out).mono ?_); rintro e w' ⟨rfl,⟨nd,rfl⟩⟩; (try first | exact ⟨rfl,_,World.drewN_drewN _ _ _⟩ | exact ⟨rfl,_,Eq.trans (World.drewN_drewN _ _ _) (congrArg (World.drewN _) (Nat.add_assoc _ _ _))⟩))))
           go_meet
           case rel => exact ⟨_,(!t392),(by first | rfl | (simp; done) | (simp [*]; done)),H',⟨by have := HJ2.out; have := HK2.out; first | omega | exact Nat.le_refl _⟩,⟨by (with_reducible repeat (first | refine blk_drewN ?_ _ | refine blk_drew ?_ | refine blk_alloc ?_ _)); refine blk_far ?_ NB387_390.out _; (with_reducible repeat (first | refine blk_drewN ?_ _ | refine blk_drew ?_ | refine blk_alloc ?_ _)); refine blk_far ?_ NB387_390.out _; (with_reducible repeat (first | refine blk_drewN ?_ _ | refine blk_drew ?_ | refine blk_alloc ?_ _)); exact BK387.out⟩,⟨by (with_reducible repeat (first | refine blk_drewN ?_ _ | refine blk_drew ?_ | refine blk_alloc ?_ _)); refine blk_put (cs := #[.int .i64 ((rd_T82 l1 x19_2).f0),.int .i64 0]) ?_ 1 _ rfl; (with_reducible repeat (first | refine blk_drewN ?_ _ | refine blk_drew ?_ | refine blk_alloc ?_ _)); refine blk_put (cs := #[.int .i64 0,.int .i64 0]) ?_ 0 _ rfl; (with_reducible repeat (first | refine blk_drewN ?_ _ | refine blk_drew ?_ | refine blk_alloc ?_ _)); exact BK390.out⟩,⟨by repeat (first | (with_reducible first | exact HB.out | apply below_alloc | apply pw_below_drewN | apply below_drew1 | refine below_set ?_ GE387.out | refine below_set ?_ GE390.out) | exact HB.out)⟩⟩
          ·replace c20 := Bool.eq_false_iff.mpr c20
           subst c20
           have H1 : (dr_CheckClock.j2 k2 l1 x19_2 l1 (l1.length : Int) x19_2 true a0_0 a0_1 ((rd_T82 l1 x19_2).f0) ((rd_T82 l1 x19_2).f1)) = some r := by rw [if_neg (show ¬ (false = true) by decide)] at H; exact H
           clear H
           have H := H1
           clear H1
           have H' := Aside0.mk H
           clear H
           have hnb24 := NB390_387.out
           have hnc24 := NB387_390.out
           have hcz25_0 : w16.cell? ⟨gb390,0,none⟩ = some (.int .i64 0) := (blk_cell BK390.out 0).trans rfl
           have hcz25_1 : w16.cell? ⟨gb390,1,none⟩ = some (.int .i64 0) := (blk_cell BK390.out 1).trans rfl
           have hfz25_0 := blk_frozen BK390.out 0
           have hfz25_1 := blk_frozen BK390.out 1
           go_wp2_with (first | (go_at_call 59; (with_reducible refine (dr_between.calls ((rd_T82 l1 x19_2).f0) 0 1000000 false _ A19.out).mono ?_); rintro e w' ⟨rfl,⟨nd,rfl⟩⟩; (try first | exact ⟨rfl,_,World.drewN_drewN _ _ _⟩ | exact ⟨rfl,_,Eq.trans (World.drewN_drewN _ _ _) (congrArg (World.drewN _) (Nat.add_assoc _ _ _))⟩)))
           repeat (go_quiet (first | (go_at_call 59; (with_reducible refine (dr_between.calls ((rd_T82 l1 x19_2).f0) 0 1000000 false _ A19.out).mono ?_); rintro e w' ⟨rfl,⟨nd,rfl⟩⟩; (try first | exact ⟨rfl,_,World.drewN_drewN _ _ _⟩ | exact ⟨rfl,_,Eq.trans (World.drewN_drewN _ _ _) (congrArg (World.drewN _) (Nat.add_assoc _ _ _))⟩))); try go_wp2_with (first | (go_at_call 59; (with_reducible refine (dr_between.calls ((rd_T82 l1 x19_2).f0) 0 1000000 false _ A19.out).mono ?_); rintro e w' ⟨rfl,⟨nd,rfl⟩⟩; (try first | exact ⟨rfl,_,World.drewN_drewN _ _ _⟩ | exact ⟨rfl,_,Eq.trans (World.drewN_drewN _ _ _) (congrArg (World.drewN _) (Nat.add_assoc _ _ _))⟩))))
           go_meet
           case rel => exact ⟨_,(true),(by first | rfl | (simp; done) | (simp [*]; done)),H',⟨by have := HJ2.out; have := HK2.out; first | omega | exact Nat.le_refl _⟩,⟨by (with_reducible repeat (first | refine blk_drewN ?_ _ | refine blk_drew ?_ | refine blk_alloc ?_ _)); refine blk_far ?_ NB387_390.out _; (with_reducible repeat (first | refine blk_drewN ?_ _ | refine blk_drew ?_ | refine blk_alloc ?_ _)); refine blk_far ?_ NB387_390.out _; (with_reducible repeat (first | refine blk_drewN ?_ _ | refine blk_drew ?_ | refine blk_alloc ?_ _)); exact BK387.out⟩,⟨by (with_reducible repeat (first | refine blk_drewN ?_ _ | refine blk_drew ?_ | refine blk_alloc ?_ _)); refine blk_put (cs := #[.int .i64 ((rd_T82 l1 x19_2).f0),.int .i64 0]) ?_ 1 _ rfl; (with_reducible repeat (first | refine blk_drewN ?_ _ | refine blk_drew ?_ | refine blk_alloc ?_ _)); refine blk_put (cs := #[.int .i64 0,.int .i64 0]) ?_ 0 _ rfl; (with_reducible repeat (first | refine blk_drewN ?_ _ | refine blk_drew ?_ | refine blk_alloc ?_ _)); exact BK390.out⟩,⟨by repeat (first | (with_reducible first | exact HB.out | apply below_alloc | apply pw_below_drewN | apply below_drew1 | refine below_set ?_ GE387.out | refine below_set ?_ GE390.out) | exact HB.out)⟩⟩
         case rest =>
          clear HC15
          try clear c1
          try clear c2
          try clear p2
          try clear c3
          try clear p3
          try clear q3
          try clear hx3
          try clear c6
          try clear c11
          try clear c12
          try clear c12b0
          try clear c13
          try clear c13b0
          try clear c14
          try clear c14b0
          try clear c17
          try clear c20
          try clear c22
          try clear c24
          try clear hcz18_0
          try clear hcz18_1
          try clear hcz23_0
          try clear hcz23_1
          try clear hcz25_0
          try clear hcz25_1
          try clear hcz7_0
          try clear hcz7_1
          try clear hcz9_0
          try clear hcz9_1
          try clear hfz18_0
          try clear hfz18_1
          try clear hfz23_0
          try clear hfz23_1
          try clear hfz25_0
          try clear hfz25_1
          try clear hfz7_0
          try clear hfz7_1
          try clear hfz9_0
          try clear hfz9_1
          try clear hx389_0
          try clear hx389_1
          try clear p2
          try clear p389
          try clear q389
          obtain ⟨kq,x33_14,rfl,HA,HJ14,BK387,BK390,HB⟩ := hcut
          cases kq with
          | zero => exact absurd HA.out (by simp [dr_CheckClock.j2])
          | succ kj14 =>
           have H := HA.out
           clear HA
           simp only [dr_CheckClock.j2] at H
           by_cases c26 : x33_14 = true
           ·subst c26
            have H1 : (some 310) = some r := by rw [if_pos rfl] at H; exact H
            clear H
            have H := H1
            clear H1
            obtain rfl := Option.some.inj H
            go_wp2
            repeat (go_quiet (fail); try go_wp2)
            go_ret
            exact ⟨by first | rfl | (simp [errW_none,errW_some] <;> rfl) | (simp [*,errW_none,errW_some] <;> rfl),by repeat (first | (with_reducible first | exact HB.out | apply below_alloc | apply pw_below_drewN | apply below_drew1 | refine below_set ?_ GE387.out | refine below_set ?_ GE390.out) | exact HB.out)⟩
           ·replace c26 := Bool.eq_false_iff.mpr c26
            subst c26
            have H1 : (if x19_2 = 0 then (dr_CheckClock.l0 kj14 l1 l1 (l1.length : Int) (wrap64 (x19_2 + 1)) a0_0 a0_1) else (if 0 ≤ (wrap64 (x19_2 - 1)) then (if (wrap64 (x19_2 - 1)) < (l1.length : Int) then (if (wrap64 (((rd_T82 l1 x19_2).f0) - ((rd_T82 l1 (wrap64 (x19_2 - 1))).f0))) ≤ 0 then (some 310) else ((dr_between.f (wrap64 (((rd_T82 l1 x19_2).f1) - ((rd_T82 l1 (wrap64 (x19_2 - 1))).f1))) (wrap64 (a0_0 * (wrap64 (((rd_T82 l1 x19_2).f0) - ((rd_T82 l1 (wrap64 (x19_2 - 1))).f0))))) (wrap64 (a0_1 * (wrap64 (((rd_T82 l1 x19_2).f0) - ((rd_T82 l1 (wrap64 (x19_2 - 1))).f0)))))).bind fun t395 => (if t395 = true then (dr_CheckClock.l0 kj14 l1 l1 (l1.length : Int) (wrap64 (x19_2 + 1)) a0_0 a0_1) else (some 310)))) else (none)) else (none))) = some r := by rw [if_neg (show ¬ (false = true) by decide)] at H; exact H
            clear H
            have H := H1
            clear H1
            by_cases c27 : x19_2 = 0
            ·rw [if_pos c27] at H
             have c27b0 : (x19_2 == 0) = true := beq_iff_eq.mpr c27
             have c27b1 : (x19_2 != 0) = false := bne_eq_false_iff_eq.mpr c27
             clear c27
             have H' := Aside0.mk H
             clear H
             go_wp2
             repeat (go_quiet (fail); try go_wp2)
             go_roundg kj14
             case measure => have := HJ2.out; have := HK2.out; have := HJ14.out; omega
             case rel => exact ⟨(wrap64 (x19_2 + 1)),(by first | rfl | (simp; done) | (simp [*]; done)),H',⟨by have := HJ2.out; have := HK2.out; have := HJ14.out; omega⟩,⟨by (with_reducible repeat (first | refine blk_drewN ?_ _ | refine blk_drew ?_ | refine blk_alloc ?_ _)); exact BK387.out⟩,⟨by repeat (first | (with_reducible first | exact HB.out | apply below_alloc | apply pw_below_drewN | apply below_drew1 | refine below_set ?_ GE387.out | refine below_set ?_ GE390.out) | exact HB.out)⟩⟩
            ·rw [if_neg c27] at H
             have c27b0 : (x19_2 == 0) = false := beq_eq_false_iff_ne.mpr c27
             have c27b1 : (x19_2 != 0) = true := bne_iff_ne.mpr c27
             obtain ⟨ji28,hji28⟩ : ∃ j_ : Int,(wrap64 (x19_2 - 1)) = j_ := ⟨_,rfl⟩
             replace H : (if 0 ≤ (ji28) then (if (ji28) < (l1.length : Int) then (if (wrap64 (((rd_T82 l1 x19_2).f0) - ((rd_T82 l1 (ji28)).f0))) ≤ 0 then (some 310) else ((dr_between.f (wrap64 (((rd_T82 l1 x19_2).f1) - ((rd_T82 l1 (ji28)).f1))) (wrap64 (a0_0 * (wrap64 (((rd_T82 l1 x19_2).f0) - ((rd_T82 l1 (ji28)).f0))))) (wrap64 (a0_1 * (wrap64 (((rd_T82 l1 x19_2).f0) - ((rd_T82 l1 (ji28)).f0)))))).bind fun t395 => (if t395 = true then (dr_CheckClock.l0 kj14 l1 l1 (l1.length : Int) (wrap64 (x19_2 + 1)) a0_0 a0_1) else (some 310)))) else (none)) else (none)) = some r := by first | (rw [hji28] at H; exact H) | (simp only [hji28] at H ⊢; exact H)
             have hji28w : (IntKind.i64.wrap (x19_2 - 1)) = ji28 := (i64_w _).trans hji28
             by_cases c29 : 0 ≤ (ji28)
             ·rw [if_pos c29] at H
              have c29b0 : decide (0 ≤ (ji28)) = true := decide_eq_true c29
              clear c29
              by_cases c30 : (ji28) < (l1.length : Int)
              ·rw [if_pos c30] at H
               have c30b0 : decide ((ji28) < (l1.length : Int)) = true := decide_eq_true c30
               clear c30
               by_cases c31 : (wrap64 (((rd_T82 l1 x19_2).f0) - ((rd_T82 l1 (ji28)).f0))) ≤ 0
               ·rw [if_pos c31] at H
                have c31b0 : decide ((wrap64 (((rd_T82 l1 x19_2).f0) - ((rd_T82 l1 (ji28)).f0))) ≤ 0) = true := decide_eq_true c31
                clear c31
                obtain rfl := Option.some.inj H
                have hnb32 := NB390_387.out
                have hnc32 := NB387_390.out
                have hcz33_0 : wc.cell? ⟨gb390,0,none⟩ = some (.int .i64 ((rd_T82 l1 x19_2).f0)) := (blk_cell BK390.out 0).trans rfl
                have hcz33_1 : wc.cell? ⟨gb390,1,none⟩ = some (.int .i64 ((rd_T82 l1 x19_2).f1)) := (blk_cell BK390.out 1).trans rfl
                have hfz33_0 := blk_frozen BK390.out 0
                have hfz33_1 := blk_frozen BK390.out 1
                have p393 : 0 ≤ ((ji28) : Int) := of_decide_eq_true (by first | (with_reducible assumption) | assumption)
                have q393 : (ji28) < (l1.length : Int) := of_decide_eq_true (by first | (with_reducible assumption) | assumption)
                obtain ⟨ad393,e393,hx393_0,hx393_1⟩ := at_T82 HR1.out (ji28) p393 q393
                obtain rfl : ad389 = ad393 := (by injection e393)
                replace hx393_0 := (HB.out.cell (World.block_lt_of_cell? w _ hx393_0)).trans hx393_0
                replace hx393_1 := (HB.out.cell (World.block_lt_of_cell? w _ hx393_1)).trans hx393_1
                replace p393 := eq_true p393
                replace q393 := eq_true q393
                have p394 : 0 ≤ ((ji28) : Int) := of_decide_eq_true (by first | (with_reducible assumption) | assumption)
                have q394 : (ji28) < (l1.length : Int) := of_decide_eq_true (by first | (with_reducible assumption) | assumption)
                obtain ⟨ad394,e394,hx394_0,hx394_1⟩ := at_T82 HR1.out (ji28) p394 q394
                obtain rfl : ad389 = ad394 := (by injection e394)
                replace hx394_0 := (HB.out.cell (World.block_lt_of_cell? w _ hx394_0)).trans hx394_0
                replace hx394_1 := (HB.out.cell (World.block_lt_of_cell? w _ hx394_1)).trans hx394_1
                replace p394 := eq_true p394
                replace q394 := eq_true q394
                go_wp2
                repeat (go_quiet (fail); try go_wp2)
                go_ret
                exact ⟨by first | rfl | (simp [errW_none,errW_some] <;> rfl) | (simp only [← hji28]; first | rfl | (simp [errW_none,errW_some] <;> rfl)) | (simp [*,errW_none,errW_some] <;> rfl),by repeat (first | (with_reducible first | exact HB.out | apply below_alloc | apply pw_below_drewN | apply below_drew1 | refine below_set ?_ GE387.out | refine below_set ?_ GE390.out) | exact HB.out)⟩
               ·rw [if_neg c31] at H
                have c31b0 : decide ((wrap64 (((rd_T82 l1 x19_2).f0) - ((rd_T82 l1 (ji28)).f0))) ≤ 0) = false := decide_eq_false c31
                clear c31
                replace H := Option.bind_eq_some_iff.mp H
                obtain ⟨t395,A340,H⟩ := H
                replace H : (if t395 = true then (dr_CheckClock.l0 kj14 l1 l1 (l1.length : Int) (wrap64 (x19_2 + 1)) a0_0 a0_1) else (some 310)) = some r := H
                have A34 := Aside0.mk A340
                clear A340
                by_cases c35 : t395 = true
                ·subst c35
                 have H1 : (dr_CheckClock.l0 kj14 l1 l1 (l1.length : Int) (wrap64 (x19_2 + 1)) a0_0 a0_1) = some r := by rw [if_pos rfl] at H; exact H
                 clear H
                 have H := H1
                 clear H1
                 have H' := Aside0.mk H
                 clear H
                 have hnb36 := NB390_387.out
                 have hnc36 := NB387_390.out
                 have hcz37_0 : wc.cell? ⟨gb390,0,none⟩ = some (.int .i64 ((rd_T82 l1 x19_2).f0)) := (blk_cell BK390.out 0).trans rfl
                 have hcz37_1 : wc.cell? ⟨gb390,1,none⟩ = some (.int .i64 ((rd_T82 l1 x19_2).f1)) := (blk_cell BK390.out 1).trans rfl
                 have hfz37_0 := blk_frozen BK390.out 0
                 have hfz37_1 := blk_frozen BK390.out 1
                 have p393 : 0 ≤ ((ji28) : Int) := of_decide_eq_true (by first | (with_reducible assumption) | assumption)
                 have q393 : (ji28) < (l1.length : Int) := of_decide_eq_true (by first | (with_reducible assumption) | assumption)
                 obtain ⟨ad393,e393,hx393_0,hx393_1⟩ := at_T82 HR1.out (ji28) p393 q393
                 obtain rfl : ad389 = ad393 := (by injection e393)
                 replace hx393_0 := (HB.out.cell (World.block_lt_of_cell? w _ hx393_0)).trans hx393_0
                 replace hx393_1 := (HB.out.cell (World.block_lt_of_cell? w _ hx393_1)).trans hx393_1
                 replace p393 := eq_true p393
                 replace q393 := eq_true q393
                 have p394 : 0 ≤ ((ji28) : Int) := of_decide_eq_true (by first | (with_reducible assumption) | assumption)
                 have q394 : (ji28) < (l1.length : Int) := of_decide_eq_true (by first | (with_reducible assumption) | assumption)
                 obtain ⟨ad394,e394,hx394_0,hx394_1⟩ := at_T82 HR1.out (ji28) p394 q394
                 obtain rfl : ad389 = ad394 := (by injection e394)
                 replace hx394_0 := (HB.out.cell (World.block_lt_of_cell? w _ hx394_0)).trans hx394_0
                 replace hx394_1 := (HB.out.cell (World.block_lt_of_cell? w _ hx394_1)).trans hx394_1
                 replace p394 := eq_true p394
                 replace q394 := eq_true q394
                 have hcz38_0 : wc.cell? ⟨gb387,0,none⟩ = some (.int .i64 a0_0) := (blk_cell BK387.out 0).trans rfl
                 have hcz38_1 : wc.cell? ⟨gb387,1,none⟩ = some (.int .i64 a0_1) := (blk_cell BK387.out 1).trans rfl
                 have hfz38_0 := blk_frozen BK387.out 0
                 have hfz38_1 := blk_frozen BK387.out 1
                 go_wp2_with (first | (go_at_call 59; (with_reducible refine (dr_between.calls (wrap64 (((rd_T82 l1 x19_2).f1) - ((rd_T82 l1 (ji28)).f1))) (wrap64 (a0_0 * (wrap64 (((rd_T82 l1 x19_2).f0) - ((rd_T82 l1 (ji28)).f0))))) (wrap64 (a0_1 * (wrap64 (((rd_T82 l1 x19_2).f0) - ((rd_T82 l1 (ji28)).f0))))) true _ A34.out).mono ?_); rintro e w' ⟨rfl,⟨nd,rfl⟩⟩; (try first | exact ⟨rfl,_,World.drewN_drewN _ _ _⟩ | exact ⟨rfl,_,Eq.trans (World.drewN_drewN _ _ _) (congrArg (World.drewN _) (Nat.add_assoc _ _ _))⟩)))
                 repeat (go_quiet (first | (go_at_call 59; (with_reducible refine (dr_between.calls (wrap64 (((rd_T82 l1 x19_2).f1) - ((rd_T82 l1 (ji28)).f1))) (wrap64 (a0_0 * (wrap64 (((rd_T82 l1 x19_2).f0) - ((rd_T82 l1 (ji28)).f0))))) (wrap64 (a0_1 * (wrap64 (((rd_T82 l1 x19_2).f0) - ((rd_T82 l1 (ji28)).f0))))) true _ A34.out).mono ?_); rintro e w' ⟨rfl,⟨nd,rfl⟩⟩; (try first | exact ⟨rfl,_,World.drewN_drewN _ _ _⟩ | exact ⟨rfl,_,Eq.trans (World.drewN_drewN _ _ _) (congrArg (World.drewN _) (Nat.add_assoc _ _ _))⟩))); try go_wp2_with (first | (go_at_call 59; (with_reducible refine (dr_between.calls (wrap64 (((rd_T82 l1 x19_2).f1) - ((rd_T82 l1 (ji28)).f1))) (wrap64 (a0_0 * (wrap64 (((rd_T82 l1 x19_2).f0) - ((rd_T82 l1 (ji28)).f0))))) (wrap64 (a0_1 * (wrap64 (((rd_T82 l1 x19_2).f0) - ((rd_T82 l1 (ji28)).f0))))) true _ A34.out).mono ?_); rintro e w' ⟨rfl,⟨nd,rfl⟩⟩; (try first | exact ⟨rfl,_,World.drewN_drewN _ _ _⟩ | exact ⟨rfl,_,Eq.trans (World.drewN_drewN _ _ _) (congrArg (World.drewN _) (Nat.add_assoc _ _ _))⟩))))
                 go_roundg kj14
                 case measure => have := HJ2.out; have := HK2.out; have := HJ14.out; omega
                 case rel => exact ⟨(wrap64 (x19_2 + 1)),(by first | rfl | (simp; done) | (simp [*]; done)),H',⟨by have := HJ2.out; have := HK2.out; have := HJ14.out; omega⟩,⟨by (with_reducible repeat (first | refine blk_drewN ?_ _ | refine blk_drew ?_ | refine blk_alloc ?_ _)); exact BK387.out⟩,⟨by repeat (first | (with_reducible first | exact HB.out | apply below_alloc | apply pw_below_drewN | apply below_drew1 | refine below_set ?_ GE387.out | refine below_set ?_ GE390.out) | exact HB.out)⟩⟩
                ·replace c35 := Bool.eq_false_iff.mpr c35
                 subst c35
                 have H1 : (some 310) = some r := by rw [if_neg (show ¬ (false = true) by decide)] at H; exact H
                 clear H
                 have H := H1
                 clear H1
                 obtain rfl := Option.some.inj H
                 have hnb39 := NB390_387.out
                 have hnc39 := NB387_390.out
                 have hcz40_0 : wc.cell? ⟨gb390,0,none⟩ = some (.int .i64 ((rd_T82 l1 x19_2).f0)) := (blk_cell BK390.out 0).trans rfl
                 have hcz40_1 : wc.cell? ⟨gb390,1,none⟩ = some (.int .i64 ((rd_T82 l1 x19_2).f1)) := (blk_cell BK390.out 1).trans rfl
                 have hfz40_0 := blk_frozen BK390.out 0
                 have hfz40_1 := blk_frozen BK390.out 1
                 have p393 : 0 ≤ ((ji28) : Int) := of_decide_eq_true (by first | (with_reducible assumption) | assumption)
                 have q393 : (ji28) < (l1.length : Int) := of_decide_eq_true (by first | (with_reducible assumption) | assumption)
                 obtain ⟨ad393,e393,hx393_0,hx393_1⟩ := at_T82 HR1.out (ji28) p393 q393
                 obtain rfl : ad389 = ad393 := (by injection e393)
                 replace hx393_0 := (HB.out.cell (World.block_lt_of_cell? w _ hx393_0)).trans hx393_0
                 replace hx393_1 := (HB.out.cell (World.block_lt_of_cell? w _ hx393_1)).trans hx393_1
                 replace p393 := eq_true p393
                 replace q393 := eq_true q393
                 have p394 : 0 ≤ ((ji28) : Int) := of_decide_eq_true (by first | (with_reducible assumption) | assumption)
                 have q394 : (ji28) < (l1.length : Int) := of_decide_eq_true (by first | (with_reducible assumption) | assumption)
                 obtain ⟨ad394,e394,hx394_0,hx394_1⟩ := at_T82 HR1.out (ji28) p394 q394
                 obtain rfl : ad389 = ad394 := (by injection e394)
                 replace hx394_0 := (HB.out.cell (World.block_lt_of_cell? w _ hx394_0)).trans hx394_0
                 replace hx394_1 := (HB.out.cell (World.block_lt_of_cell? w _ hx394_1)).trans hx394_1
                 replace p394 := eq_true p394
                 replace q394 := eq_true q394
                 have hcz41_0 : wc.cell? ⟨gb387,0,none⟩ = some (.int .i64 a0_0) := (blk_cell BK387.out 0).trans rfl
                 have hcz41_1 : wc.cell? ⟨gb387,1,none⟩ = some (.int .i64 a0_1) := (blk_cell BK387.out 1).trans rfl
                 have hfz41_0 := blk_frozen BK387.out 0
                 have hfz41_1 := blk_frozen BK387.out 1
                 go_wp2_with (first | (go_at_call 59; (with_reducible refine (dr_between.calls (wrap64 (((rd_T82 l1 x19_2).f1) - ((rd_T82 l1 (ji28)).f1))) (wrap64 (a0_0 * (wrap64 (((rd_T82 l1 x19_2).f0) - ((rd_T82 l1 (ji28)).f0))))) (wrap64 (a0_1 * (wrap64 (((rd_T82 l1 x19_2).f0) - ((rd_T82 l1 (ji28)).f0))))) false _ A34.out).mono ?_); rintro e w' ⟨rfl,⟨nd,rfl⟩⟩; (try first | exact ⟨rfl,_,World.drewN_drewN _ _ _⟩ | exact ⟨rfl,_,Eq.trans (World.drewN_drewN _ _ _) (congrArg (World.drewN _) (Nat.add_assoc _ _ _))⟩)))
                 repeat (go_quiet (first | (go_at_call 59; (with_reducible refine (dr_between.calls (wrap64 (((rd_T82 l1 x19_2).f1) - ((rd_T82 l1 (ji28)).f1))) (wrap64 (a0_0 * (wrap64 (((rd_T82 l1 x19_2).f0) - ((rd_T82 l1 (ji28)).f0))))) (wrap64 (a0_1 * (wrap64 (((rd_T82 l1 x19_2).f0) - ((rd_T82 l1 (ji28)).f0))))) false _ A34.out).mono ?_); rintro e w' ⟨rfl,⟨nd,rfl⟩⟩; (try first | exact ⟨rfl,_,World.drewN_drewN _ _ _⟩ | exact ⟨rfl,_,Eq.trans (World.drewN_drewN _ _ _) (congrArg (World.drewN _) (Nat.add_assoc _ _ _))⟩))); try go_wp2_with (first | (go_at_call 59; (with_reducible refine (dr_between.calls (wrap64 (((rd_T82 l1 x19_2).f1) - ((rd_T82 l1 (ji28)).f1))) (wrap64 (a0_0 * (wrap64 (((rd_T82 l1 x19_2).f0) - ((rd_T82 l1 (ji28)).f0))))) (wrap64 (a0_1 * (wrap64 (((rd_T82 l1 x19_2).f0) - ((rd_T82 l1 (ji28)).f0))))) false _ A34.out).mono ?_); rintro e w' ⟨rfl,⟨nd,rfl⟩⟩; (try first | exact ⟨rfl,_,World.drewN_drewN _ _ _⟩ | exact ⟨rfl,_,Eq.trans (World.drewN_drewN _ _ _) (congrArg (World.drewN _) (Nat.add_assoc _ _ _))⟩))))
                 go_ret
                 exact ⟨by first | rfl | (simp [errW_none,errW_some] <;> rfl) | (simp only [← hji28]; first | rfl | (simp [errW_none,errW_some] <;> rfl)) | (simp [*,errW_none,errW_some] <;> rfl),by repeat (first | (with_reducible first | exact HB.out | apply below_alloc | apply pw_below_drewN | apply below_drew1 | refine below_set ?_ GE387.out | refine below_set ?_ GE390.out) | exact HB.out)⟩
              ·rw [if_neg c30] at H
               exact absurd H (by simp)
             ·rw [if_neg c29] at H
              exact absurd H (by simp)
        ·rw [if_neg c14] at H
         exact absurd H (by simp)
       ·rw [if_neg c13] at H
        exact absurd H (by simp)
      ·rw [if_neg c12] at H
       have c12b0 : decide (x19_2 < (l1.length : Int)) = false := decide_eq_false c12
       clear c12
       obtain rfl := Option.some.inj H
       go_wp2
       repeat (go_quiet (fail); try go_wp2)
       go_ret
       exact ⟨by first | rfl | (simp [errW_none,errW_some] <;> rfl) | (simp [*,errW_none,errW_some] <;> rfl),by repeat (first | (with_reducible first | exact HB.out | apply below_alloc | apply pw_below_drewN | apply below_drew1 | refine below_set ?_ GE387.out) | exact HB.out)⟩

/-! ### rf_Narrow: function 37 -/
/-! ### rf_Real: function 38 -/
/-! ### rf_Check: function 40 -/
end Go.Proofs.Ytlfopemghafboaa.D
