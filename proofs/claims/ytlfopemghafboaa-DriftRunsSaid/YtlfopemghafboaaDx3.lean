/- Contracts of functions that the law reaches, each a walk through its code, printed by a program. No condition beyond each theorem's own hypotheses. -/
-- Written by a program of this session (wip/patch_print.py over the kit's printer).
import Derived.Test.YtlfopemghafboaaDx0
import Derived.Test.YtlfopemghafboaaDx2
namespace Go.Proofs.Ytlfopemghafboaa.D
open Go.RowKit Go.Proofs.YtlfopemghafboaaW.PrintWords Go.Proofs.YtlfopemghafboaaW.PrintLast Go.Proofs.YtlfopemghafboaaW.PrintMore
attribute [local go_sem] max2_int min2_int max_two min_two max_three min_three max_four min_four   -- for this text's walks alone
set_option linter.unusedVariables false
set_option linter.unusedSimpArgs false

/-! ### rf_IsPlan: function 28 -/
mutual
def rf_IsPlan.j0 : Nat → Bool → List (S42) → List (S80) → Option (Bool)
 | 0,_,_,_ => none
 | k + 1,x27,x128000,x128001 => if x27 = true then (some false) else (rf_IsPlan.l0 k 0 x128000 x128001)
def rf_IsPlan.l0 : Nat → Int → List (S42) → List (S80) → Option (Bool)
 | 0,_,_,_ => none
 | k + 1,x3,x128000,x128001 => if x3 < (x128000.length : Int) then (if 0 ≤ x3 then ((rf_IsRate.f ((rd_T42 x128000 x3).f0) ((rd_T42 x128000 x3).f1)).bind fun t129 => (if t129 = true then (rf_IsPlan.l0 k (wrap64 (x3 + 1)) x128000 x128001) else (some false))) else (none)) else (rf_IsPlan.l1 k 0 x128000 x128001)
def rf_IsPlan.l1 : Nat → Int → List (S42) → List (S80) → Option (Bool)
 | 0,_,_,_ => none
 | k + 1,x4,x128000,x128001 => if x4 < (x128001.length : Int) then (if 0 ≤ x4 then (if ((rd_T80 x128001 x4).f0) < 0 then (rf_IsPlan.j3 k x4 true x128000 x128001 ((rd_T80 x128001 x4).f0) ((rd_T80 x128001 x4).f1) ((rd_T80 x128001 x4).f2) ((rd_T80 x128001 x4).f3) ((rd_T80 x128001 x4).f4) ((rd_T80 x128001 x4).f5)) else (rf_IsPlan.j3 k x4 (decide (((rd_T80 x128001 x4).f0) ≥ (x128000.length : Int))) x128000 x128001 ((rd_T80 x128001 x4).f0) ((rd_T80 x128001 x4).f1) ((rd_T80 x128001 x4).f2) ((rd_T80 x128001 x4).f3) ((rd_T80 x128001 x4).f4) ((rd_T80 x128001 x4).f5))) else (none)) else (if 0 < (x128001.length : Int) then (some (((rd_T80 x128001 0).f1) == 1)) else (none))
def rf_IsPlan.j3 : Nat → Int → Bool → List (S42) → List (S80) → Int → Int → Int → Int → Int → Int → Option (Bool)
 | 0,_,_,_,_,_,_,_,_,_,_ => none
 | k + 1,x4,x64,x128000,x128001,x133000,x133001,x133002,x133003,x133004,x133005 => if x64 = true then (some false) else (if x133001 = 1 then (if x133002 = 0 then (if x133003 = 0 then (if x133004 = 0 then (if x133005 = 0 then (rf_IsPlan.l1 k (wrap64 (x4 + 1)) x128000 x128001) else (some false)) else (some false)) else (some false)) else (some false)) else (if x133001 = 2 then (if x133002 < 0 then (some false) else (if x133002 ≥ x4 then (some false) else (if 0 ≤ x133002 then (if x133002 < (x128001.length : Int) then (if ((rd_T80 x128001 x133002).f0) = x133000 then (if x133003 < 0 then (some false) else (if x133003 > 1000000000000 then (some false) else (if x133004 = 0 then (if x133005 = 0 then (rf_IsPlan.l1 k (wrap64 (x4 + 1)) x128000 x128001) else (some false)) else (some false)))) else (some false)) else (none)) else (none)))) else (if x133001 = 3 then (if x133002 < 0 then (some false) else (if x133002 ≥ x4 then (some false) else (if x133003 = 0 then (if x133004 < 0 then (some false) else (if x133005 < x133004 then (some false) else (if x133005 > 1000000 then (some false) else (rf_IsPlan.l1 k (wrap64 (x4 + 1)) x128000 x128001)))) else (some false)))) else (some false))))
end
def rf_IsPlan.f (k : Nat) (l0_0 : List (S42)) (l0_1 : List (S80)) : Option (Bool) := if (l0_0.length : Int) < 1 then (rf_IsPlan.j0 k true l0_0 l0_1) else (if (l0_0.length : Int) > 32 then (rf_IsPlan.j0 k true l0_0 l0_1) else (if (l0_1.length : Int) < 1 then (rf_IsPlan.j0 k true l0_0 l0_1) else (rf_IsPlan.j0 k (decide ((l0_1.length : Int) > 100)) l0_0 l0_1)))
set_option maxHeartbeats 8000000 in
set_option maxRecDepth 100000 in
theorem rf_IsPlan.calls (k : Nat) (A0_0 : Option Addr) (c0_0 : Nat) (l0_0 : List (S42)) (A0_1 : Option Addr) (c0_1 : Nat) (l0_1 : List (S80)) (r : Bool) (w : World) (hr0_0 : Kd.C k42 w A0_0 l0_0.length l0_0) (hc0_0 : l0_0.length ≤ c0_0) (hr0_1 : Kd.C k80 w A0_1 l0_1.length l0_1) (hc0_1 : l0_1.length ≤ c0_1) (h : rf_IsPlan.f k l0_0 l0_1 = some r) :
  Calls Try.prog 28 #[.agg #[.slice A0_0 l0_0.length c0_0,.slice A0_1 l0_1.length c0_1]] w fun e w' => e = .returned (.bool r) ∧ Below w.heap.size w w' := by
 have hu25 := Try.underlying25
 have hu42 := Try.underlying42
 have hu80 := Try.underlying80
 have HR0_0 := Aside0.mk hr0_0
 have HC0_0 := Aside0.mk hc0_0
 clear hr0_0 hc0_0
 have HR0_1 := Aside0.mk hr0_1
 have HC0_1 := Aside0.mk hc0_1
 clear hr0_1 hc0_1
 have HB := Aside0.mk (Below.refl w.heap.size w)
 have H : (if (l0_0.length : Int) < 1 then (rf_IsPlan.j0 k true l0_0 l0_1) else (if (l0_0.length : Int) > 32 then (rf_IsPlan.j0 k true l0_0 l0_1) else (if (l0_1.length : Int) < 1 then (rf_IsPlan.j0 k true l0_0 l0_1) else (rf_IsPlan.j0 k (decide ((l0_1.length : Int) > 100)) l0_0 l0_1)))) = some r := h
 clear h
 have HC2 := Aside0.mk H
 clear H
 go_enter Try.func28,Try.ntmps28
 go_upto_region 1 with (first | ((with_reducible refine gate_dst (N := 1) rfl ?_); (try (refine gate_guard (by rfl) ?_; dsimp only)); refine box_event ?hg (N := 1) ?hd (cs := #[.slice A0_0 l0_0.length c0_0,.slice A0_1 l0_1.length c0_1]) (t := 25) ?hr ?_; (case hd => rfl); (case hg => rfl); (case hr => first | (go_simp; done) | (go_simp; rfl)); intro gb127 hg w3 hbox hb; have n0_ := Aside0.mk (below_step (by repeat (first | (with_reducible first | exact HB.out | apply below_alloc | apply pw_below_drewN | apply below_drew1) | exact HB.out)) hb); have n1_ := Aside0.mk (hbox); have n2_ := Aside0.mk ((by rw [hg]; exact (below_size (by repeat (first | (with_reducible first | exact HB.out | apply below_alloc | apply pw_below_drewN | apply below_drew1) | exact HB.out))) : w.heap.size ≤ gb127)); have n3_ := Aside0.mk ((by rw [hg]; exact (below_size (by repeat (first | (with_reducible first | exact HB.out | apply below_alloc | apply pw_below_drewN | apply below_drew1) | exact HB.out))) : w.heap.size ≤ gb127)); clear HB; have HB := n0_; have BK127 := n1_; have GW127 := n2_; have GE127 := n3_; clear n0_ n1_ n2_ n3_; clear hb hbox hg))
 repeat (go_quiet (first | ((with_reducible refine gate_dst (N := 1) rfl ?_); (try (refine gate_guard (by rfl) ?_; dsimp only)); refine box_event ?hg (N := 1) ?hd (cs := #[.slice A0_0 l0_0.length c0_0,.slice A0_1 l0_1.length c0_1]) (t := 25) ?hr ?_; (case hd => rfl); (case hg => rfl); (case hr => first | (go_simp; done) | (go_simp; rfl)); intro gb127 hg w3 hbox hb; have n0_ := Aside0.mk (below_step (by repeat (first | (with_reducible first | exact HB.out | apply below_alloc | apply pw_below_drewN | apply below_drew1) | exact HB.out)) hb); have n1_ := Aside0.mk (hbox); have n2_ := Aside0.mk ((by rw [hg]; exact (below_size (by repeat (first | (with_reducible first | exact HB.out | apply below_alloc | apply pw_below_drewN | apply below_drew1) | exact HB.out))) : w.heap.size ≤ gb127)); have n3_ := Aside0.mk ((by rw [hg]; exact (below_size (by repeat (first | (with_reducible first | exact HB.out | apply below_alloc | apply pw_below_drewN | apply below_drew1) | exact HB.out))) : w.heap.size ≤ gb127)); clear HB; have HB := n0_; have BK127 := n1_; have GW127 := n2_; have GE127 := n3_; clear n0_ n1_ n2_ n3_; clear hb hbox hg)); go_upto_region 1 with (first | ((with_reducible refine gate_dst (N := 1) rfl ?_); (try (refine gate_guard (by rfl) ?_; dsimp only)); refine box_event ?hg (N := 1) ?hd (cs := #[.slice A0_0 l0_0.length c0_0,.slice A0_1 l0_1.length c0_1]) (t := 25) ?hr ?_; (case hd => rfl); (case hg => rfl); (case hr => first | (go_simp; done) | (go_simp; rfl)); intro gb127 hg w3 hbox hb; have n0_ := Aside0.mk (below_step (by repeat (first | (with_reducible first | exact HB.out | apply below_alloc | apply pw_below_drewN | apply below_drew1) | exact HB.out)) hb); have n1_ := Aside0.mk (hbox); have n2_ := Aside0.mk ((by rw [hg]; exact (below_size (by repeat (first | (with_reducible first | exact HB.out | apply below_alloc | apply pw_below_drewN | apply below_drew1) | exact HB.out))) : w.heap.size ≤ gb127)); have n3_ := Aside0.mk ((by rw [hg]; exact (below_size (by repeat (first | (with_reducible first | exact HB.out | apply below_alloc | apply pw_below_drewN | apply below_drew1) | exact HB.out))) : w.heap.size ≤ gb127)); clear HB; have HB := n0_; have BK127 := n1_; have GW127 := n2_; have GE127 := n3_; clear n0_ n1_ n2_ n3_; clear hb hbox hg)))
 (try simp only [Act.put,List.setIfInBounds_toArray,List.set_cons_zero,List.set_cons_succ])
 go_cut [27] (fun v27 wc => ∃ (kq : Nat) (x27_1 : Bool),v27 = .bool x27_1 ∧ Aside0 (rf_IsPlan.j0 kq x27_1 l0_0 l0_1 = some r) ∧ Aside0 (kq ≤ k) ∧ Aside0 (wc.heap[gb127]? = some (.cells #[(.slice A0_0 l0_0.length c0_0),(.slice A0_1 l0_1.length c0_1)] 25 (0,0))) ∧ Aside0 (Below w.heap.size w wc))
 case first =>
  have H := HC2.out
  clear HC2
  by_cases c4 : (l0_0.length : Int) < 1
  ·rw [if_pos c4] at H
   have c4b0 : decide ((l0_0.length : Int) < 1) = true := decide_eq_true c4
   have c4b1 : decide (l0_0.length < 1) = true := decide_eq_true (by omega)
   clear c4
   (first | rw [c4b0] | (simp only [i64_w,i32_w]; rw [c4b0]) | skip)
   have H' := Aside0.mk H
   clear H
   have hcz5_0 : w3.cell? ⟨gb127,0,none⟩ = some (.slice A0_0 l0_0.length c0_0) := (blk_cell BK127.out 0).trans rfl
   have hcz5_1 : w3.cell? ⟨gb127,1,none⟩ = some (.slice A0_1 l0_1.length c0_1) := (blk_cell BK127.out 1).trans rfl
   have hfz5_0 := blk_frozen BK127.out 0
   have hfz5_1 := blk_frozen BK127.out 1
   go_wp2
   repeat (go_quiet (fail); try go_wp2)
   go_meet
   case rel => exact ⟨_,(true),(by first | rfl | (simp; done) | (simp [*]; done)),H',⟨by first | omega | exact Nat.le_refl _⟩,⟨by (with_reducible repeat (first | refine blk_drewN ?_ _ | refine blk_drew ?_ | refine blk_alloc ?_ _)); exact BK127.out⟩,⟨by repeat (first | (with_reducible first | exact HB.out | apply below_alloc | apply pw_below_drewN | apply below_drew1 | refine below_set ?_ GE127.out) | exact HB.out)⟩⟩
  ·rw [if_neg c4] at H
   have c4b0 : decide ((l0_0.length : Int) < 1) = false := decide_eq_false c4
   have c4b1 : decide (l0_0.length < 1) = false := decide_eq_false (by omega)
   clear c4
   (first | rw [c4b0] | (simp only [i64_w,i32_w]; rw [c4b0]) | skip)
   by_cases c6 : (l0_0.length : Int) > 32
   ·rw [if_pos c6] at H
    have c6b0 : decide (32 < (l0_0.length : Int)) = true := decide_eq_true c6
    have c6b1 : decide (32 < l0_0.length) = true := decide_eq_true (by omega)
    clear c6
    have H' := Aside0.mk H
    clear H
    have hcz7_0 : w3.cell? ⟨gb127,0,none⟩ = some (.slice A0_0 l0_0.length c0_0) := (blk_cell BK127.out 0).trans rfl
    have hcz7_1 : w3.cell? ⟨gb127,1,none⟩ = some (.slice A0_1 l0_1.length c0_1) := (blk_cell BK127.out 1).trans rfl
    have hfz7_0 := blk_frozen BK127.out 0
    have hfz7_1 := blk_frozen BK127.out 1
    go_wp2
    repeat (go_quiet (fail); try go_wp2)
    go_meet
    case rel => exact ⟨_,(true),(by first | rfl | (simp; done) | (simp [*]; done)),H',⟨by first | omega | exact Nat.le_refl _⟩,⟨by (with_reducible repeat (first | refine blk_drewN ?_ _ | refine blk_drew ?_ | refine blk_alloc ?_ _)); exact BK127.out⟩,⟨by repeat (first | (with_reducible first | exact HB.out | apply below_alloc | apply pw_below_drewN | apply below_drew1 | refine below_set ?_ GE127.out) | exact HB.out)⟩⟩
   ·rw [if_neg c6] at H
    have c6b0 : decide (32 < (l0_0.length : Int)) = false := decide_eq_false c6
    have c6b1 : decide (32 < l0_0.length) = false := decide_eq_false (by omega)
    clear c6
    by_cases c8 : (l0_1.length : Int) < 1
    ·rw [if_pos c8] at H
     have c8b0 : decide ((l0_1.length : Int) < 1) = true := decide_eq_true c8
     have c8b1 : decide (l0_1.length < 1) = true := decide_eq_true (by omega)
     clear c8
     have H' := Aside0.mk H
     clear H
     have hcz9_0 : w3.cell? ⟨gb127,0,none⟩ = some (.slice A0_0 l0_0.length c0_0) := (blk_cell BK127.out 0).trans rfl
     have hcz9_1 : w3.cell? ⟨gb127,1,none⟩ = some (.slice A0_1 l0_1.length c0_1) := (blk_cell BK127.out 1).trans rfl
     have hfz9_0 := blk_frozen BK127.out 0
     have hfz9_1 := blk_frozen BK127.out 1
     go_wp2
     repeat (go_quiet (fail); try go_wp2)
     go_meet
     case rel => exact ⟨_,(true),(by first | rfl | (simp; done) | (simp [*]; done)),H',⟨by first | omega | exact Nat.le_refl _⟩,⟨by (with_reducible repeat (first | refine blk_drewN ?_ _ | refine blk_drew ?_ | refine blk_alloc ?_ _)); exact BK127.out⟩,⟨by repeat (first | (with_reducible first | exact HB.out | apply below_alloc | apply pw_below_drewN | apply below_drew1 | refine below_set ?_ GE127.out) | exact HB.out)⟩⟩
    ·rw [if_neg c8] at H
     have c8b0 : decide ((l0_1.length : Int) < 1) = false := decide_eq_false c8
     have c8b1 : decide (l0_1.length < 1) = false := decide_eq_false (by omega)
     clear c8
     have H' := Aside0.mk H
     clear H
     have hcz10_0 : w3.cell? ⟨gb127,0,none⟩ = some (.slice A0_0 l0_0.length c0_0) := (blk_cell BK127.out 0).trans rfl
     have hcz10_1 : w3.cell? ⟨gb127,1,none⟩ = some (.slice A0_1 l0_1.length c0_1) := (blk_cell BK127.out 1).trans rfl
     have hfz10_0 := blk_frozen BK127.out 0
     have hfz10_1 := blk_frozen BK127.out 1
     go_wp2
     repeat (go_quiet (fail); try go_wp2)
     go_meet
     case rel => exact ⟨_,(decide ((l0_1.length : Int) > 100)),(by first | rfl | (simp; done) | (simp [*]; done)),H',⟨by first | omega | exact Nat.le_refl _⟩,⟨by (with_reducible repeat (first | refine blk_drewN ?_ _ | refine blk_drew ?_ | refine blk_alloc ?_ _)); exact BK127.out⟩,⟨by repeat (first | (with_reducible first | exact HB.out | apply below_alloc | apply pw_below_drewN | apply below_drew1 | refine below_set ?_ GE127.out) | exact HB.out)⟩⟩
 case rest =>
  clear HC2
  try clear c2
  try clear p2
  try clear c4
  try clear c4b0
  try clear c4b1
  try clear c6
  try clear c6b0
  try clear c6b1
  try clear c8
  try clear c8b0
  try clear c8b1
  try clear hcz10_0
  try clear hcz10_1
  try clear hcz5_0
  try clear hcz5_1
  try clear hcz7_0
  try clear hcz7_1
  try clear hcz9_0
  try clear hcz9_1
  try clear hfz10_0
  try clear hfz10_1
  try clear hfz5_0
  try clear hfz5_1
  try clear hfz7_0
  try clear hfz7_1
  try clear hfz9_0
  try clear hfz9_1
  obtain ⟨kq,x27_1,rfl,HA,HJ1,BK127,HB⟩ := hcut
  cases kq with
  | zero => exact absurd HA.out (by simp [rf_IsPlan.j0])
  | succ kj1 =>
   have H := HA.out
   clear HA
   simp only [rf_IsPlan.j0] at H
   by_cases c11 : x27_1 = true
   ·subst c11
    have H1 : (some false) = some r := by rw [if_pos rfl] at H; exact H
    clear H
    have H := H1
    clear H1
    obtain rfl := Option.some.inj H
    go_wp2
    repeat (go_quiet (fail); try go_wp2)
    go_ret
    exact ⟨by first | rfl | (simp [errW_none,errW_some] <;> rfl) | (simp [*,errW_none,errW_some] <;> rfl),by repeat (first | (with_reducible first | exact HB.out | apply below_alloc | apply pw_below_drewN | apply below_drew1 | refine below_set ?_ GE127.out) | exact HB.out)⟩
   ·replace c11 := Bool.eq_false_iff.mpr c11
    subst c11
    have H1 : (rf_IsPlan.l0 kj1 0 l0_0 l0_1) = some r := by rw [if_neg (show ¬ (false = true) by decide)] at H; exact H
    clear H
    have H := H1
    clear H1
    have H' := Aside0.mk H
    clear H
    go_wp2
    repeat (go_quiet (fail); try go_wp2)
    go_loopg [3] kj1 (fun kq v3 w' => ∃ (x3_2 : Int),v3 = .int .i64 x3_2 ∧ Aside0 (rf_IsPlan.l0 kq x3_2 l0_0 l0_1 = some r) ∧ Aside0 (kq ≤ kj1) ∧ Aside0 (w'.heap[gb127]? = some (.cells #[(.slice A0_0 l0_0.length c0_0),(.slice A0_1 l0_1.length c0_1)] 25 (0,0))) ∧ Aside0 (Below w.heap.size w w'))
    case atStart => exact ⟨(0),(by first | rfl | (simp; done) | (simp [*]; done)),H',⟨Nat.le_refl _⟩,⟨by (with_reducible repeat (first | refine blk_drewN ?_ _ | refine blk_drew ?_ | refine blk_alloc ?_ _)); exact BK127.out⟩,⟨by repeat (first | (with_reducible first | exact HB.out | apply below_alloc | apply pw_below_drewN | apply below_drew1 | refine below_set ?_ GE127.out) | exact HB.out)⟩⟩
    case round =>
     clear H'
     try clear c1
     try clear c2
     try clear p2
     try clear c4
     try clear c4b0
     try clear c4b1
     try clear c6
     try clear c6b0
     try clear c6b1
     try clear c8
     try clear c8b0
     try clear c8b1
     try clear c11
     try clear hcz10_0
     try clear hcz10_1
     try clear hcz5_0
     try clear hcz5_1
     try clear hcz7_0
     try clear hcz7_1
     try clear hcz9_0
     try clear hcz9_1
     try clear hfz10_0
     try clear hfz10_1
     try clear hfz5_0
     try clear hfz5_1
     try clear hfz7_0
     try clear hfz7_1
     try clear hfz9_0
     try clear hfz9_1
     try clear p2
     obtain ⟨x3_2,rfl,HA,HK2,BK127,HB⟩ := hrel
     cases gk with
     | zero => exact absurd HA.out (by simp [rf_IsPlan.l0])
     | succ k2 =>
      have H := HA.out
      clear HA
      simp only [rf_IsPlan.l0] at H
      by_cases c12 : x3_2 < (l0_0.length : Int)
      ·rw [if_pos c12] at H
       have c12b0 : decide (x3_2 < (l0_0.length : Int)) = true := decide_eq_true c12
       clear c12
       by_cases c13 : 0 ≤ x3_2
       ·rw [if_pos c13] at H
        have c13b0 : decide (0 ≤ x3_2) = true := decide_eq_true c13
        clear c13
        replace H := Option.bind_eq_some_iff.mp H
        obtain ⟨t129,A140,H⟩ := H
        replace H : (if t129 = true then (rf_IsPlan.l0 k2 (wrap64 (x3_2 + 1)) l0_0 l0_1) else (some false)) = some r := H
        have A14 := Aside0.mk A140
        clear A140
        by_cases c15 : t129 = true
        ·subst c15
         have H1 : (rf_IsPlan.l0 k2 (wrap64 (x3_2 + 1)) l0_0 l0_1) = some r := by rw [if_pos rfl] at H; exact H
         clear H
         have H := H1
         clear H1
         have H' := Aside0.mk H
         clear H
         have hcz16_0 : wr.cell? ⟨gb127,0,none⟩ = some (.slice A0_0 l0_0.length c0_0) := (blk_cell BK127.out 0).trans rfl
         have hcz16_1 : wr.cell? ⟨gb127,1,none⟩ = some (.slice A0_1 l0_1.length c0_1) := (blk_cell BK127.out 1).trans rfl
         have hfz16_0 := blk_frozen BK127.out 0
         have hfz16_1 := blk_frozen BK127.out 1
         have p128 : 0 ≤ (x3_2 : Int) := of_decide_eq_true (by first | (with_reducible assumption) | assumption)
         have q128 : x3_2 < (l0_0.length : Int) := of_decide_eq_true (by first | (with_reducible assumption) | assumption)
         obtain ⟨ad128,e128,hx128_0,hx128_1⟩ := at_T42 HR0_0.out x3_2 p128 q128
         cases e128
         replace hx128_0 := (HB.out.cell (World.block_lt_of_cell? w _ hx128_0)).trans hx128_0
         replace hx128_1 := (HB.out.cell (World.block_lt_of_cell? w _ hx128_1)).trans hx128_1
         replace p128 := eq_true p128
         replace q128 := eq_true q128
         go_wp2_with (first | (go_at_call 52; (with_reducible refine (rf_IsRate.calls ((rd_T42 l0_0 x3_2).f0) ((rd_T42 l0_0 x3_2).f1) true _ A14.out).mono ?_); rintro e w17 ⟨rfl,hb⟩; have n0_ := Aside0.mk (blk_below (g := gb127) (o := .cells #[.slice (some ad128) l0_0.length c0_0,.slice A0_1 l0_1.length c0_1] 25 (0,0)) (by (with_reducible repeat (first | refine blk_drewN ?_ _ | refine blk_drew ?_ | refine blk_alloc ?_ _)); exact BK127.out) hb); have n1_ := Aside0.mk (below_step (by repeat (first | (with_reducible first | exact HB.out | apply below_alloc | apply pw_below_drewN | apply below_drew1 | refine below_set ?_ GE127.out) | exact HB.out)) hb); clear BK127; clear HB; have BK127 := n0_; have HB := n1_; clear n0_ n1_; (try clear hb); (try clear hb2); (try clear hk); (try clear hi)))
         repeat (go_quiet (first | (go_at_call 52; (with_reducible refine (rf_IsRate.calls ((rd_T42 l0_0 x3_2).f0) ((rd_T42 l0_0 x3_2).f1) true _ A14.out).mono ?_); rintro e w17 ⟨rfl,hb⟩; have n0_ := Aside0.mk (blk_below (g := gb127) (o := .cells #[.slice (some ad128) l0_0.length c0_0,.slice A0_1 l0_1.length c0_1] 25 (0,0)) (by (with_reducible repeat (first | refine blk_drewN ?_ _ | refine blk_drew ?_ | refine blk_alloc ?_ _)); exact BK127.out) hb); have n1_ := Aside0.mk (below_step (by repeat (first | (with_reducible first | exact HB.out | apply below_alloc | apply pw_below_drewN | apply below_drew1 | refine below_set ?_ GE127.out) | exact HB.out)) hb); clear BK127; clear HB; have BK127 := n0_; have HB := n1_; clear n0_ n1_; (try clear hb); (try clear hb2); (try clear hk); (try clear hi))); try go_wp2_with (first | (go_at_call 52; (with_reducible refine (rf_IsRate.calls ((rd_T42 l0_0 x3_2).f0) ((rd_T42 l0_0 x3_2).f1) true _ A14.out).mono ?_); rintro e w17 ⟨rfl,hb⟩; have n0_ := Aside0.mk (blk_below (g := gb127) (o := .cells #[.slice (some ad128) l0_0.length c0_0,.slice A0_1 l0_1.length c0_1] 25 (0,0)) (by (with_reducible repeat (first | refine blk_drewN ?_ _ | refine blk_drew ?_ | refine blk_alloc ?_ _)); exact BK127.out) hb); have n1_ := Aside0.mk (below_step (by repeat (first | (with_reducible first | exact HB.out | apply below_alloc | apply pw_below_drewN | apply below_drew1 | refine below_set ?_ GE127.out) | exact HB.out)) hb); clear BK127; clear HB; have BK127 := n0_; have HB := n1_; clear n0_ n1_; (try clear hb); (try clear hb2); (try clear hk); (try clear hi))))
         go_roundg k2
         case measure => have := HJ1.out; have := HK2.out; omega
         case rel => exact ⟨(wrap64 (x3_2 + 1)),(by first | rfl | (simp; done) | (simp [*]; done)),H',⟨by have := HJ1.out; have := HK2.out; omega⟩,⟨by (with_reducible repeat (first | refine blk_drewN ?_ _ | refine blk_drew ?_ | refine blk_alloc ?_ _)); exact BK127.out⟩,⟨by repeat (first | (with_reducible first | exact HB.out | apply below_alloc | apply pw_below_drewN | apply below_drew1 | refine below_set ?_ GE127.out) | exact HB.out)⟩⟩
        ·replace c15 := Bool.eq_false_iff.mpr c15
         subst c15
         have H1 : (some false) = some r := by rw [if_neg (show ¬ (false = true) by decide)] at H; exact H
         clear H
         have H := H1
         clear H1
         obtain rfl := Option.some.inj H
         have hcz18_0 : wr.cell? ⟨gb127,0,none⟩ = some (.slice A0_0 l0_0.length c0_0) := (blk_cell BK127.out 0).trans rfl
         have hcz18_1 : wr.cell? ⟨gb127,1,none⟩ = some (.slice A0_1 l0_1.length c0_1) := (blk_cell BK127.out 1).trans rfl
         have hfz18_0 := blk_frozen BK127.out 0
         have hfz18_1 := blk_frozen BK127.out 1
         have p128 : 0 ≤ (x3_2 : Int) := of_decide_eq_true (by first | (with_reducible assumption) | assumption)
         have q128 : x3_2 < (l0_0.length : Int) := of_decide_eq_true (by first | (with_reducible assumption) | assumption)
         obtain ⟨ad128,e128,hx128_0,hx128_1⟩ := at_T42 HR0_0.out x3_2 p128 q128
         cases e128
         replace hx128_0 := (HB.out.cell (World.block_lt_of_cell? w _ hx128_0)).trans hx128_0
         replace hx128_1 := (HB.out.cell (World.block_lt_of_cell? w _ hx128_1)).trans hx128_1
         replace p128 := eq_true p128
         replace q128 := eq_true q128
         go_wp2_with (first | (go_at_call 52; (with_reducible refine (rf_IsRate.calls ((rd_T42 l0_0 x3_2).f0) ((rd_T42 l0_0 x3_2).f1) false _ A14.out).mono ?_); rintro e w19 ⟨rfl,hb⟩; have n0_ := Aside0.mk (blk_below (g := gb127) (o := .cells #[.slice (some ad128) l0_0.length c0_0,.slice A0_1 l0_1.length c0_1] 25 (0,0)) (by (with_reducible repeat (first | refine blk_drewN ?_ _ | refine blk_drew ?_ | refine blk_alloc ?_ _)); exact BK127.out) hb); have n1_ := Aside0.mk (below_step (by repeat (first | (with_reducible first | exact HB.out | apply below_alloc | apply pw_below_drewN | apply below_drew1 | refine below_set ?_ GE127.out) | exact HB.out)) hb); clear BK127; clear HB; have BK127 := n0_; have HB := n1_; clear n0_ n1_; (try clear hb); (try clear hb2); (try clear hk); (try clear hi)))
         repeat (go_quiet (first | (go_at_call 52; (with_reducible refine (rf_IsRate.calls ((rd_T42 l0_0 x3_2).f0) ((rd_T42 l0_0 x3_2).f1) false _ A14.out).mono ?_); rintro e w19 ⟨rfl,hb⟩; have n0_ := Aside0.mk (blk_below (g := gb127) (o := .cells #[.slice (some ad128) l0_0.length c0_0,.slice A0_1 l0_1.length c0_1] 25 (0,0)) (by (with_reducible repeat (first | refine blk_drewN ?_ _ | refine blk_drew ?_ | refine blk_alloc ?_ _)); exact BK127.out) hb); have n1_ := Aside0.mk (below_step (by repeat (first | (with_reducible first | exact HB.out | apply below_alloc | apply pw_below_drewN | apply below_drew1 | refine below_set ?_ GE127.out) | exact HB.out)) hb); clear BK127; clear HB; have BK127 := n0_; have HB := n1_; clear n0_ n1_; (try clear hb); (try clear hb2); (try clear hk); (try clear hi))); try go_wp2_with (first | (go_at_call 52; (with_reducible refine (rf_IsRate.calls ((rd_T42 l0_0 x3_2).f0) ((rd_T42 l0_0 x3_2).f1) false _ A14.out).mono ?_); rintro e w19 ⟨rfl,hb⟩; have n0_ := Aside0.mk (blk_below (g := gb127) (o := .cells #[.slice (some ad128) l0_0.length c0_0,.slice A0_1 l0_1.length c0_1] 25 (0,0)) (by (with_reducible repeat (first | refine blk_drewN ?_ _ | refine blk_drew ?_ | refine blk_alloc ?_ _)); exact BK127.out) hb); have n1_ := Aside0.mk (below_step (by repeat (first | (with_reducible first | exact HB.out | apply below_alloc | apply pw_below_drewN | apply below_drew1 | refine below_set ?_ GE127.out) | exact HB.out)) hb); clear BK127; clear HB; have BK127 := n0_; have HB := n1_; clear n0_ n1_; (try clear hb); (try clear hb2); (try clear hk); (try clear hi))))
         go_ret
         exact ⟨by first | rfl | (simp [errW_none,errW_some] <;> rfl) | (simp [*,errW_none,errW_some] <;> rfl),by repeat (first | (with_reducible first | exact HB.out | apply below_alloc | apply pw_below_drewN | apply below_drew1 | refine below_set ?_ GE127.out) | exact HB.out)⟩
       ·rw [if_neg c13] at H
        exact absurd H (by simp)
      ·rw [if_neg c12] at H
       have c12b0 : decide (x3_2 < (l0_0.length : Int)) = false := decide_eq_false c12
       clear c12
       have H' := Aside0.mk H
       clear H
       have hcz20_0 : wr.cell? ⟨gb127,0,none⟩ = some (.slice A0_0 l0_0.length c0_0) := (blk_cell BK127.out 0).trans rfl
       have hcz20_1 : wr.cell? ⟨gb127,1,none⟩ = some (.slice A0_1 l0_1.length c0_1) := (blk_cell BK127.out 1).trans rfl
       have hfz20_0 := blk_frozen BK127.out 0
       have hfz20_1 := blk_frozen BK127.out 1
       go_wp2
       repeat (go_quiet (fail); try go_wp2)
       go_loopg [4] k2 (fun kq v4 w' => ∃ (x4_3 : Int),v4 = .int .i64 x4_3 ∧ Aside0 (rf_IsPlan.l1 kq x4_3 l0_0 l0_1 = some r) ∧ Aside0 (kq ≤ k2) ∧ Aside0 (w'.heap[gb127]? = some (.cells #[(.slice A0_0 l0_0.length c0_0),(.slice A0_1 l0_1.length c0_1)] 25 (0,0))) ∧ Aside0 (Below w.heap.size w w'))
       case atStart => exact ⟨(0),(by first | rfl | (simp; done) | (simp [*]; done)),H',⟨Nat.le_refl _⟩,⟨by (with_reducible repeat (first | refine blk_drewN ?_ _ | refine blk_drew ?_ | refine blk_alloc ?_ _)); exact BK127.out⟩,⟨by repeat (first | (with_reducible first | exact HB.out | apply below_alloc | apply pw_below_drewN | apply below_drew1 | refine below_set ?_ GE127.out) | exact HB.out)⟩⟩
       case round =>
        clear H'
        try clear c1
        try clear p1
        try clear q1
        try clear hx1
        try clear c2
        try clear p2
        try clear c4
        try clear c4b0
        try clear c4b1
        try clear c6
        try clear c6b0
        try clear c6b1
        try clear p6
        try clear c8
        try clear c8b0
        try clear c8b1
        try clear c11
        try clear c12
        try clear c12b0
        try clear p12
        try clear q12
        try clear hx12
        try clear c13
        try clear c13b0
        try clear c15
        try clear hcz10_0
        try clear hcz10_1
        try clear hcz16_0
        try clear hcz16_1
        try clear hcz18_0
        try clear hcz18_1
        try clear hcz20_0
        try clear hcz20_1
        try clear hcz5_0
        try clear hcz5_1
        try clear hcz7_0
        try clear hcz7_1
        try clear hcz9_0
        try clear hcz9_1
        try clear hfz10_0
        try clear hfz10_1
        try clear hfz16_0
        try clear hfz16_1
        try clear hfz18_0
        try clear hfz18_1
        try clear hfz20_0
        try clear hfz20_1
        try clear hfz5_0
        try clear hfz5_1
        try clear hfz7_0
        try clear hfz7_1
        try clear hfz9_0
        try clear hfz9_1
        try clear hx128_0
        try clear hx128_1
        try clear p128
        try clear p2
        try clear q128
        obtain ⟨x4_3,rfl,HA,HK3,BK127,HB⟩ := hrel
        cases gk with
        | zero => exact absurd HA.out (by simp [rf_IsPlan.l1])
        | succ k3 =>
         have H := HA.out
         clear HA
         simp only [rf_IsPlan.l1] at H
         by_cases c21 : x4_3 < (l0_1.length : Int)
         ·rw [if_pos c21] at H
          have c21b0 : decide (x4_3 < (l0_1.length : Int)) = true := decide_eq_true c21
          clear c21
          by_cases c22 : 0 ≤ x4_3
          ·rw [if_pos c22] at H
           have c22b0 : decide (0 ≤ x4_3) = true := decide_eq_true c22
           clear c22
           have HC23 := Aside0.mk H
           clear H
           have hcz24_0 : wr.cell? ⟨gb127,0,none⟩ = some (.slice A0_0 l0_0.length c0_0) := (blk_cell BK127.out 0).trans rfl
           have hcz24_1 : wr.cell? ⟨gb127,1,none⟩ = some (.slice A0_1 l0_1.length c0_1) := (blk_cell BK127.out 1).trans rfl
           have hfz24_0 := blk_frozen BK127.out 0
           have hfz24_1 := blk_frozen BK127.out 1
           have p131 : 0 ≤ (x4_3 : Int) := of_decide_eq_true (by first | (with_reducible assumption) | assumption)
           have q131 : x4_3 < (l0_1.length : Int) := of_decide_eq_true (by first | (with_reducible assumption) | assumption)
           obtain ⟨ad131,e131,hx131_0,hx131_1,hx131_2,hx131_3,hx131_4,hx131_5⟩ := at_T80 HR0_1.out x4_3 p131 q131
           cases e131
           replace hx131_0 := (HB.out.cell (World.block_lt_of_cell? w _ hx131_0)).trans hx131_0
           replace hx131_1 := (HB.out.cell (World.block_lt_of_cell? w _ hx131_1)).trans hx131_1
           replace hx131_2 := (HB.out.cell (World.block_lt_of_cell? w _ hx131_2)).trans hx131_2
           replace hx131_3 := (HB.out.cell (World.block_lt_of_cell? w _ hx131_3)).trans hx131_3
           replace hx131_4 := (HB.out.cell (World.block_lt_of_cell? w _ hx131_4)).trans hx131_4
           replace hx131_5 := (HB.out.cell (World.block_lt_of_cell? w _ hx131_5)).trans hx131_5
           replace p131 := eq_true p131
           replace q131 := eq_true q131
           go_upto_region 12 with (first | ((with_reducible refine gate_dst (N := 5) rfl ?_); (try (refine gate_guard (by rfl) ?_; dsimp only)); refine box_event ?hg (N := 5) ?hd (cs := #[.int .i64 0,.int .i64 0,.int .i64 0,.int .i64 0,.int .i64 0,.int .i64 0]) (t := 80) ?hr ?_; (case hd => rfl); (case hg => rfl); (case hr => first | (go_simp; done) | (go_simp; rfl)); intro gb132 hg w25 hbox hb; have n0_ := Aside0.mk (blk_below (g := gb127) (o := .cells #[.slice A0_0 l0_0.length c0_0,.slice (some ad131) l0_1.length c0_1] 25 (0,0)) (by (with_reducible repeat (first | refine blk_drewN ?_ _ | refine blk_drew ?_ | refine blk_alloc ?_ _)); exact BK127.out) hb); have n1_ := Aside0.mk (below_step (by repeat (first | (with_reducible first | exact HB.out | apply below_alloc | apply pw_below_drewN | apply below_drew1 | refine below_set ?_ GE127.out) | exact HB.out)) hb); have n2_ := Aside0.mk (hbox); have n3_ := Aside0.mk ((by rw [hg]; exact (below_size (by repeat (first | (with_reducible first | exact HB.out | apply below_alloc | apply pw_below_drewN | apply below_drew1 | refine below_set ?_ GE127.out) | exact HB.out))) : w.heap.size ≤ gb132)); have n4_ := Aside0.mk ((by rw [hg]; exact (below_size (by repeat (first | (with_reducible first | exact HB.out | apply below_alloc | apply pw_below_drewN | apply below_drew1 | refine below_set ?_ GE127.out) | exact HB.out))) : w.heap.size ≤ gb132)); have n5_ := Aside0.mk ((by rw [hg]; exact Nat.ne_of_lt (blk_lt (g := gb127) (o := .cells #[.slice A0_0 l0_0.length c0_0,.slice (some ad131) l0_1.length c0_1] 25 (0,0)) (by (with_reducible repeat (first | refine blk_drewN ?_ _ | refine blk_drew ?_ | refine blk_alloc ?_ _)); exact BK127.out)) : gb127 ≠ gb132)); have n6_ := Aside0.mk ((by rw [hg]; exact Nat.ne_of_gt (blk_lt (g := gb127) (o := .cells #[.slice A0_0 l0_0.length c0_0,.slice (some ad131) l0_1.length c0_1] 25 (0,0)) (by (with_reducible repeat (first | refine blk_drewN ?_ _ | refine blk_drew ?_ | refine blk_alloc ?_ _)); exact BK127.out)) : gb132 ≠ gb127)); clear BK127; clear HB; have BK127 := n0_; have HB := n1_; have BK132 := n2_; have GW132 := n3_; have GE132 := n4_; have NB127_132 := n5_; have NB132_127 := n6_; clear n0_ n1_ n2_ n3_ n4_ n5_ n6_; clear hb hbox hg; have hnb26 := NB132_127.out; have hnc26 := NB127_132.out; have hcz27_0 : w25.cell? ⟨gb132,0,none⟩ = some (.int .i64 0) := (blk_cell BK132.out 0).trans rfl; have hcz27_1 : w25.cell? ⟨gb132,1,none⟩ = some (.int .i64 0) := (blk_cell BK132.out 1).trans rfl; have hcz27_2 : w25.cell? ⟨gb132,2,none⟩ = some (.int .i64 0) := (blk_cell BK132.out 2).trans rfl; have hcz27_3 : w25.cell? ⟨gb132,3,none⟩ = some (.int .i64 0) := (blk_cell BK132.out 3).trans rfl; have hcz27_4 : w25.cell? ⟨gb132,4,none⟩ = some (.int .i64 0) := (blk_cell BK132.out 4).trans rfl; have hcz27_5 : w25.cell? ⟨gb132,5,none⟩ = some (.int .i64 0) := (blk_cell BK132.out 5).trans rfl; have hfz27_0 := blk_frozen BK132.out 0; have hfz27_1 := blk_frozen BK132.out 1; have hfz27_2 := blk_frozen BK132.out 2; have hfz27_3 := blk_frozen BK132.out 3; have hfz27_4 := blk_frozen BK132.out 4; have hfz27_5 := blk_frozen BK132.out 5))
           repeat (go_quiet (first | ((with_reducible refine gate_dst (N := 5) rfl ?_); (try (refine gate_guard (by rfl) ?_; dsimp only)); refine box_event ?hg (N := 5) ?hd (cs := #[.int .i64 0,.int .i64 0,.int .i64 0,.int .i64 0,.int .i64 0,.int .i64 0]) (t := 80) ?hr ?_; (case hd => rfl); (case hg => rfl); (case hr => first | (go_simp; done) | (go_simp; rfl)); intro gb132 hg w25 hbox hb; have n0_ := Aside0.mk (blk_below (g := gb127) (o := .cells #[.slice A0_0 l0_0.length c0_0,.slice (some ad131) l0_1.length c0_1] 25 (0,0)) (by (with_reducible repeat (first | refine blk_drewN ?_ _ | refine blk_drew ?_ | refine blk_alloc ?_ _)); exact BK127.out) hb); have n1_ := Aside0.mk (below_step (by repeat (first | (with_reducible first | exact HB.out | apply below_alloc | apply pw_below_drewN | apply below_drew1 | refine below_set ?_ GE127.out) | exact HB.out)) hb); have n2_ := Aside0.mk (hbox); have n3_ := Aside0.mk ((by rw [hg]; exact (below_size (by repeat (first | (with_reducible first | exact HB.out | apply below_alloc | apply pw_below_drewN | apply below_drew1 | refine below_set ?_ GE127.out) | exact HB.out))) : w.heap.size ≤ gb132)); have n4_ := Aside0.mk ((by rw [hg]; exact (below_size (by repeat (first | (with_reducible first | exact HB.out | apply below_alloc | apply pw_below_drewN | apply below_drew1 | refine below_set ?_ GE127.out) | exact HB.out))) : w.heap.size ≤ gb132)); have n5_ := Aside0.mk ((by rw [hg]; exact Nat.ne_of_lt (blk_lt (g := gb127) (o := .cells #[.slice A0_0 l0_0.length c0_0,.slice (some ad131) l0_1.length c0_1] 25 (0,0)) (by (with_reducible repeat (first | refine blk_drewN ?_ _ | refine blk_drew ?_ | refine blk_alloc ?_ _)); exact BK127.out)) : gb127 ≠ gb132)); have n6_ := Aside0.mk ((by rw [hg]; exact Nat.ne_of_gt (blk_lt (g := gb127) (o := .cells #[.slice A0_0 l0_0.length c0_0,.slice (some ad131) l0_1.length c0_1] 25 (0,0)) (by (with_reducible repeat (first | refine blk_drewN ?_ _ | refine blk_drew ?_ | refine blk_alloc ?_ _)); exact BK127.out)) : gb132 ≠ gb127)); clear BK127; clear HB; have BK127 := n0_; have HB := n1_; have BK132 := n2_; have GW132 := n3_; have GE132 := n4_; have NB127_132 := n5_; have NB132_127 := n6_; clear n0_ n1_ n2_ n3_ n4_ n5_ n6_; clear hb hbox hg; have hnb26 := NB132_127.out; have hnc26 := NB127_132.out; have hcz27_0 : w25.cell? ⟨gb132,0,none⟩ = some (.int .i64 0) := (blk_cell BK132.out 0).trans rfl; have hcz27_1 : w25.cell? ⟨gb132,1,none⟩ = some (.int .i64 0) := (blk_cell BK132.out 1).trans rfl; have hcz27_2 : w25.cell? ⟨gb132,2,none⟩ = some (.int .i64 0) := (blk_cell BK132.out 2).trans rfl; have hcz27_3 : w25.cell? ⟨gb132,3,none⟩ = some (.int .i64 0) := (blk_cell BK132.out 3).trans rfl; have hcz27_4 : w25.cell? ⟨gb132,4,none⟩ = some (.int .i64 0) := (blk_cell BK132.out 4).trans rfl; have hcz27_5 : w25.cell? ⟨gb132,5,none⟩ = some (.int .i64 0) := (blk_cell BK132.out 5).trans rfl; have hfz27_0 := blk_frozen BK132.out 0; have hfz27_1 := blk_frozen BK132.out 1; have hfz27_2 := blk_frozen BK132.out 2; have hfz27_3 := blk_frozen BK132.out 3; have hfz27_4 := blk_frozen BK132.out 4; have hfz27_5 := blk_frozen BK132.out 5)); go_upto_region 12 with (first | ((with_reducible refine gate_dst (N := 5) rfl ?_); (try (refine gate_guard (by rfl) ?_; dsimp only)); refine box_event ?hg (N := 5) ?hd (cs := #[.int .i64 0,.int .i64 0,.int .i64 0,.int .i64 0,.int .i64 0,.int .i64 0]) (t := 80) ?hr ?_; (case hd => rfl); (case hg => rfl); (case hr => first | (go_simp; done) | (go_simp; rfl)); intro gb132 hg w25 hbox hb; have n0_ := Aside0.mk (blk_below (g := gb127) (o := .cells #[.slice A0_0 l0_0.length c0_0,.slice (some ad131) l0_1.length c0_1] 25 (0,0)) (by (with_reducible repeat (first | refine blk_drewN ?_ _ | refine blk_drew ?_ | refine blk_alloc ?_ _)); exact BK127.out) hb); have n1_ := Aside0.mk (below_step (by repeat (first | (with_reducible first | exact HB.out | apply below_alloc | apply pw_below_drewN | apply below_drew1 | refine below_set ?_ GE127.out) | exact HB.out)) hb); have n2_ := Aside0.mk (hbox); have n3_ := Aside0.mk ((by rw [hg]; exact (below_size (by repeat (first | (with_reducible first | exact HB.out | apply below_alloc | apply pw_below_drewN | apply below_drew1 | refine below_set ?_ GE127.out) | exact HB.out))) : w.heap.size ≤ gb132)); have n4_ := Aside0.mk ((by rw [hg]; exact (below_size (by repeat (first | (with_reducible first | exact HB.out | apply below_alloc | apply pw_below_drewN | apply below_drew1 | refine below_set ?_ GE127.out) | exact HB.out))) : w.heap.size ≤ gb132)); have n5_ := Aside0.mk ((by rw [hg]; exact Nat.ne_of_lt (blk_lt (g := gb127) (o := .cells #[.slice A0_0 l0_0.length c0_0,.slice (some ad131) l0_1.length c0_1] 25 (0,0)) (by (with_reducible repeat (first | refine blk_drewN ?_ _ | refine blk_drew ?_ | refine blk_alloc ?_ _)); exact BK127.out)) : gb127 ≠ gb132)); have n6_ := Aside0.mk ((by rw [hg]; exact Nat.ne_of_gt (blk_lt (g := gb127) (o := .cells #[.slice A0_0 l0_0.length c0_0,.slice (some ad131) l0_1.length c0_1] 25 (0,0)) (by (with_reducible repeat (first | refine blk_drewN ?_ _ | refine blk_drew ?_ | refine blk_alloc ?_ _)); exact BK127.out)) : gb132 ≠ gb127)); clear BK127; clear HB; have BK127 := n0_; have HB := n1_; have BK132 := n2_; have GW132 := n3_; have GE132 := n4_; have NB127_132 := n5_; have NB132_127 := n6_; clear n0_ n1_ n2_ n3_ n4_ n5_ n6_; clear hb hbox hg; have hnb26 := NB132_127.out; have hnc26 := NB127_132.out; have hcz27_0 : w25.cell? ⟨gb132,0,none⟩ = some (.int .i64 0) := (blk_cell BK132.out 0).trans rfl; have hcz27_1 : w25.cell? ⟨gb132,1,none⟩ = some (.int .i64 0) := (blk_cell BK132.out 1).trans rfl; have hcz27_2 : w25.cell? ⟨gb132,2,none⟩ = some (.int .i64 0) := (blk_cell BK132.out 2).trans rfl; have hcz27_3 : w25.cell? ⟨gb132,3,none⟩ = some (.int .i64 0) := (blk_cell BK132.out 3).trans rfl; have hcz27_4 : w25.cell? ⟨gb132,4,none⟩ = some (.int .i64 0) := (blk_cell BK132.out 4).trans rfl; have hcz27_5 : w25.cell? ⟨gb132,5,none⟩ = some (.int .i64 0) := (blk_cell BK132.out 5).trans rfl; have hfz27_0 := blk_frozen BK132.out 0; have hfz27_1 := blk_frozen BK132.out 1; have hfz27_2 := blk_frozen BK132.out 2; have hfz27_3 := blk_frozen BK132.out 3; have hfz27_4 := blk_frozen BK132.out 4; have hfz27_5 := blk_frozen BK132.out 5)))
           (try simp only [Act.put,List.setIfInBounds_toArray,List.set_cons_zero,List.set_cons_succ])
           go_cut [64] (fun v64 wc => ∃ (kq : Nat) (x64_22 : Bool),v64 = .bool x64_22 ∧ Aside0 (rf_IsPlan.j3 kq x4_3 x64_22 l0_0 l0_1 ((rd_T80 l0_1 x4_3).f0) ((rd_T80 l0_1 x4_3).f1) ((rd_T80 l0_1 x4_3).f2) ((rd_T80 l0_1 x4_3).f3) ((rd_T80 l0_1 x4_3).f4) ((rd_T80 l0_1 x4_3).f5) = some r) ∧ Aside0 (kq ≤ k3) ∧ Aside0 (wc.heap[gb127]? = some (.cells #[(.slice A0_0 l0_0.length c0_0),(.slice (some ad131) l0_1.length c0_1)] 25 (0,0))) ∧ Aside0 (wc.heap[gb132]? = some (.cells #[.int .i64 ((rd_T80 l0_1 x4_3).f0),.int .i64 ((rd_T80 l0_1 x4_3).f1),.int .i64 ((rd_T80 l0_1 x4_3).f2),.int .i64 ((rd_T80 l0_1 x4_3).f3),.int .i64 ((rd_T80 l0_1 x4_3).f4),.int .i64 ((rd_T80 l0_1 x4_3).f5)] 80 (0,0))) ∧ Aside0 (Below w.heap.size w wc))
           case first =>
            have H := HC23.out
            clear HC23
            by_cases c28 : ((rd_T80 l0_1 x4_3).f0) < 0
            ·rw [if_pos c28] at H
             have c28b0 : decide (((rd_T80 l0_1 x4_3).f0) < 0) = true := decide_eq_true c28
             clear c28
             (first | rw [c28b0] | (simp only [i64_w,i32_w]; rw [c28b0]) | skip)
             have H' := Aside0.mk H
             clear H
             have hnb29 := NB132_127.out
             have hnc29 := NB127_132.out
             have hcz30_0 : w25.cell? ⟨gb132,0,none⟩ = some (.int .i64 0) := (blk_cell BK132.out 0).trans rfl
             have hcz30_1 : w25.cell? ⟨gb132,1,none⟩ = some (.int .i64 0) := (blk_cell BK132.out 1).trans rfl
             have hcz30_2 : w25.cell? ⟨gb132,2,none⟩ = some (.int .i64 0) := (blk_cell BK132.out 2).trans rfl
             have hcz30_3 : w25.cell? ⟨gb132,3,none⟩ = some (.int .i64 0) := (blk_cell BK132.out 3).trans rfl
             have hcz30_4 : w25.cell? ⟨gb132,4,none⟩ = some (.int .i64 0) := (blk_cell BK132.out 4).trans rfl
             have hcz30_5 : w25.cell? ⟨gb132,5,none⟩ = some (.int .i64 0) := (blk_cell BK132.out 5).trans rfl
             have hfz30_0 := blk_frozen BK132.out 0
             have hfz30_1 := blk_frozen BK132.out 1
             have hfz30_2 := blk_frozen BK132.out 2
             have hfz30_3 := blk_frozen BK132.out 3
             have hfz30_4 := blk_frozen BK132.out 4
             have hfz30_5 := blk_frozen BK132.out 5
             go_wp2
             repeat (go_quiet (fail); try go_wp2)
             go_meet
             case rel => exact ⟨_,(true),(by first | rfl | (simp; done) | (simp [*]; done)),H',⟨by have := HJ1.out; have := HK2.out; have := HK3.out; first | omega | exact Nat.le_refl _⟩,⟨by (with_reducible repeat (first | refine blk_drewN ?_ _ | refine blk_drew ?_ | refine blk_alloc ?_ _)); refine blk_far ?_ NB127_132.out _; (with_reducible repeat (first | refine blk_drewN ?_ _ | refine blk_drew ?_ | refine blk_alloc ?_ _)); refine blk_far ?_ NB127_132.out _; (with_reducible repeat (first | refine blk_drewN ?_ _ | refine blk_drew ?_ | refine blk_alloc ?_ _)); refine blk_far ?_ NB127_132.out _; (with_reducible repeat (first | refine blk_drewN ?_ _ | refine blk_drew ?_ | refine blk_alloc ?_ _)); refine blk_far ?_ NB127_132.out _; (with_reducible repeat (first | refine blk_drewN ?_ _ | refine blk_drew ?_ | refine blk_alloc ?_ _)); refine blk_far ?_ NB127_132.out _; (with_reducible repeat (first | refine blk_drewN ?_ _ | refine blk_drew ?_ | refine blk_alloc ?_ _)); refine blk_far ?_ NB127_132.out _; (with_reducible repeat (first | refine blk_drewN ?_ _ | refine blk_drew ?_ | refine blk_alloc ?_ _)); exact BK127.out⟩,⟨by (with_reducible repeat (first | refine blk_drewN ?_ _ | refine blk_drew ?_ | refine blk_alloc ?_ _)); refine blk_put (cs := #[.int .i64 ((rd_T80 l0_1 x4_3).f0),.int .i64 ((rd_T80 l0_1 x4_3).f1),.int .i64 ((rd_T80 l0_1 x4_3).f2),.int .i64 ((rd_T80 l0_1 x4_3).f3),.int .i64 ((rd_T80 l0_1 x4_3).f4),.int .i64 0]) ?_ 5 _ rfl; (with_reducible repeat (first | refine blk_drewN ?_ _ | refine blk_drew ?_ | refine blk_alloc ?_ _)); refine blk_put (cs := #[.int .i64 ((rd_T80 l0_1 x4_3).f0),.int .i64 ((rd_T80 l0_1 x4_3).f1),.int .i64 ((rd_T80 l0_1 x4_3).f2),.int .i64 ((rd_T80 l0_1 x4_3).f3),.int .i64 0,.int .i64 0]) ?_ 4 _ rfl; (with_reducible repeat (first | refine blk_drewN ?_ _ | refine blk_drew ?_ | refine blk_alloc ?_ _)); refine blk_put (cs := #[.int .i64 ((rd_T80 l0_1 x4_3).f0),.int .i64 ((rd_T80 l0_1 x4_3).f1),.int .i64 ((rd_T80 l0_1 x4_3).f2),.int .i64 0,.int .i64 0,.int .i64 0]) ?_ 3 _ rfl; (with_reducible repeat (first | refine blk_drewN ?_ _ | refine blk_drew ?_ | refine blk_alloc ?_ _)); refine blk_put (cs := #[.int .i64 ((rd_T80 l0_1 x4_3).f0),.int .i64 ((rd_T80 l0_1 x4_3).f1),.int .i64 0,.int .i64 0,.int .i64 0,.int .i64 0]) ?_ 2 _ rfl; (with_reducible repeat (first | refine blk_drewN ?_ _ | refine blk_drew ?_ | refine blk_alloc ?_ _)); refine blk_put (cs := #[.int .i64 ((rd_T80 l0_1 x4_3).f0),.int .i64 0,.int .i64 0,.int .i64 0,.int .i64 0,.int .i64 0]) ?_ 1 _ rfl; (with_reducible repeat (first | refine blk_drewN ?_ _ | refine blk_drew ?_ | refine blk_alloc ?_ _)); refine blk_put (cs := #[.int .i64 0,.int .i64 0,.int .i64 0,.int .i64 0,.int .i64 0,.int .i64 0]) ?_ 0 _ rfl; (with_reducible repeat (first | refine blk_drewN ?_ _ | refine blk_drew ?_ | refine blk_alloc ?_ _)); exact BK132.out⟩,⟨by repeat (first | (with_reducible first | exact HB.out | apply below_alloc | apply pw_below_drewN | apply below_drew1 | refine below_set ?_ GE127.out | refine below_set ?_ GE132.out) | exact HB.out)⟩⟩
            ·rw [if_neg c28] at H
             have c28b0 : decide (((rd_T80 l0_1 x4_3).f0) < 0) = false := decide_eq_false c28
             clear c28
             (first | rw [c28b0] | (simp only [i64_w,i32_w]; rw [c28b0]) | skip)
             have H' := Aside0.mk H
             clear H
             have hnb31 := NB132_127.out
             have hnc31 := NB127_132.out
             have hcz32_0 : w25.cell? ⟨gb132,0,none⟩ = some (.int .i64 0) := (blk_cell BK132.out 0).trans rfl
             have hcz32_1 : w25.cell? ⟨gb132,1,none⟩ = some (.int .i64 0) := (blk_cell BK132.out 1).trans rfl
             have hcz32_2 : w25.cell? ⟨gb132,2,none⟩ = some (.int .i64 0) := (blk_cell BK132.out 2).trans rfl
             have hcz32_3 : w25.cell? ⟨gb132,3,none⟩ = some (.int .i64 0) := (blk_cell BK132.out 3).trans rfl
             have hcz32_4 : w25.cell? ⟨gb132,4,none⟩ = some (.int .i64 0) := (blk_cell BK132.out 4).trans rfl
             have hcz32_5 : w25.cell? ⟨gb132,5,none⟩ = some (.int .i64 0) := (blk_cell BK132.out 5).trans rfl
             have hfz32_0 := blk_frozen BK132.out 0
             have hfz32_1 := blk_frozen BK132.out 1
             have hfz32_2 := blk_frozen BK132.out 2
             have hfz32_3 := blk_frozen BK132.out 3
             have hfz32_4 := blk_frozen BK132.out 4
             have hfz32_5 := blk_frozen BK132.out 5
             have hcz33_0 : w25.cell? ⟨gb127,0,none⟩ = some (.slice A0_0 l0_0.length c0_0) := (blk_cell BK127.out 0).trans rfl
             have hcz33_1 : w25.cell? ⟨gb127,1,none⟩ = some (.slice (some ad131) l0_1.length c0_1) := (blk_cell BK127.out 1).trans rfl
             have hfz33_0 := blk_frozen BK127.out 0
             have hfz33_1 := blk_frozen BK127.out 1
             go_wp2
             repeat (go_quiet (fail); try go_wp2)
             go_meet
             case rel => exact ⟨_,(decide (((rd_T80 l0_1 x4_3).f0) ≥ (l0_0.length : Int))),(by first | rfl | (simp; done) | (simp [*]; done)),H',⟨by have := HJ1.out; have := HK2.out; have := HK3.out; first | omega | exact Nat.le_refl _⟩,⟨by (with_reducible repeat (first | refine blk_drewN ?_ _ | refine blk_drew ?_ | refine blk_alloc ?_ _)); refine blk_far ?_ NB127_132.out _; (with_reducible repeat (first | refine blk_drewN ?_ _ | refine blk_drew ?_ | refine blk_alloc ?_ _)); refine blk_far ?_ NB127_132.out _; (with_reducible repeat (first | refine blk_drewN ?_ _ | refine blk_drew ?_ | refine blk_alloc ?_ _)); refine blk_far ?_ NB127_132.out _; (with_reducible repeat (first | refine blk_drewN ?_ _ | refine blk_drew ?_ | refine blk_alloc ?_ _)); refine blk_far ?_ NB127_132.out _; (with_reducible repeat (first | refine blk_drewN ?_ _ | refine blk_drew ?_ | refine blk_alloc ?_ _)); refine blk_far ?_ NB127_132.out _; (with_reducible repeat (first | refine blk_drewN ?_ _ | refine blk_drew ?_ | refine blk_alloc ?_ _)); refine blk_far ?_ NB127_132.out _; (with_reducible repeat (first | refine blk_drewN ?_ _ | refine blk_drew ?_ | refine blk_alloc ?_ _)); exact BK127.out⟩,⟨by (with_reducible repeat (first | refine blk_drewN ?_ _ | refine blk_drew ?_ | refine blk_alloc ?_ _)); refine blk_put (cs := #[.int .i64 ((rd_T80 l0_1 x4_3).f0),.int .i64 ((rd_T80 l0_1 x4_3).f1),.int .i64 ((rd_T80 l0_1 x4_3).f2),.int .i64 ((rd_T80 l0_1 x4_3).f3),.int .i64 ((rd_T80 l0_1 x4_3).f4),.int .i64 0]) ?_ 5 _ rfl; (with_reducible repeat (first | refine blk_drewN ?_ _ | refine blk_drew ?_ | refine blk_alloc ?_ _)); refine blk_put (cs := #[.int .i64 ((rd_T80 l0_1 x4_3).f0),.int .i64 ((rd_T80 l0_1 x4_3).f1),.int .i64 ((rd_T80 l0_1 x4_3).f2),.int .i64 ((rd_T80 l0_1 x4_3).f3),.int .i64 0,.int .i64 0]) ?_ 4 _ rfl; (with_reducible repeat (first | refine blk_drewN ?_ _ | refine blk_drew ?_ | refine blk_alloc ?_ _)); refine blk_put (cs := #[.int .i64 ((rd_T80 l0_1 x4_3).f0),.int .i64 ((rd_T80 l0_1 x4_3).f1),.int .i64 ((rd_T80 l0_1 x4_3).f2),.int .i64 0,.int .i64 0,.int .i64 0]) ?_ 3 _ rfl; (with_reducible repeat (first | refine blk_drewN ?_ _ | refine blk_drew ?_ | refine blk_alloc ?_ _)); refine blk_put (cs := #[.int .i64 ((rd_T80 l0_1 x4_3).f0),.int .i64 ((rd_T80 l0_1 x4_3).f1),.int .i64 0,.int .i64 0,.int .i64 0,.int .i64 0]) ?_ 2 _ rfl; (with_reducible repeat (first | refine blk_drewN ?_ _ | refine blk_drew ?_ | refine blk_alloc ?_ _)); refine blk_put (cs := #[.int .i64 ((rd_T80 l0_1 x4_3).f0),.int .i64 0,.int .i64 0,.int .i64 0,.int .i64 0,.int .i64 0]) ?_ 1 _ rfl; (with_reducible repeat (first | refine blk_drewN ?_ _ | refine blk_drew ?_ | refine blk_alloc ?_ _)); refine blk_put (cs := #[.int .i64 0,.int .i64 0,.int .i64 0,.int .i64 0,.int .i64 0,.int .i64 0]) ?_ 0 _ rfl; (with_reducible repeat (first | refine blk_drewN ?_ _ | refine blk_drew ?_ | refine blk_alloc ?_ _)); exact BK132.out⟩,⟨by repeat (first | (with_reducible first | exact HB.out | apply below_alloc | apply pw_below_drewN | apply below_drew1 | refine below_set ?_ GE127.out | refine below_set ?_ GE132.out) | exact HB.out)⟩⟩
           case rest =>
            clear HC23
            try clear c1
            try clear p1
            try clear q1
            try clear hx1
            try clear c2
            try clear p2
            try clear c3
            try clear c4
            try clear c4b0
            try clear c4b1
            try clear c6
            try clear c6b0
            try clear c6b1
            try clear p6
            try clear c8
            try clear c8b0
            try clear c8b1
            try clear c11
            try clear c12
            try clear c12b0
            try clear p12
            try clear q12
            try clear hx12
            try clear c13
            try clear c13b0
            try clear p13
            try clear q13
            try clear hx13
            try clear c15
            try clear c21
            try clear c21b0
            try clear c22
            try clear c22b0
            try clear c26
            try clear c28
            try clear c28b0
            try clear c29
            try clear c31
            try clear hcz10_0
            try clear hcz10_1
            try clear hcz16_0
            try clear hcz16_1
            try clear hcz18_0
            try clear hcz18_1
            try clear hcz20_0
            try clear hcz20_1
            try clear hcz24_0
            try clear hcz24_1
            try clear hcz27_0
            try clear hcz27_1
            try clear hcz27_2
            try clear hcz27_3
            try clear hcz27_4
            try clear hcz27_5
            try clear hcz30_0
            try clear hcz30_1
            try clear hcz30_2
            try clear hcz30_3
            try clear hcz30_4
            try clear hcz30_5
            try clear hcz32_0
            try clear hcz32_1
            try clear hcz32_2
            try clear hcz32_3
            try clear hcz32_4
            try clear hcz32_5
            try clear hcz33_0
            try clear hcz33_1
            try clear hcz5_0
            try clear hcz5_1
            try clear hcz7_0
            try clear hcz7_1
            try clear hcz9_0
            try clear hcz9_1
            try clear hfz10_0
            try clear hfz10_1
            try clear hfz16_0
            try clear hfz16_1
            try clear hfz18_0
            try clear hfz18_1
            try clear hfz20_0
            try clear hfz20_1
            try clear hfz24_0
            try clear hfz24_1
            try clear hfz27_0
            try clear hfz27_1
            try clear hfz27_2
            try clear hfz27_3
            try clear hfz27_4
            try clear hfz27_5
            try clear hfz30_0
            try clear hfz30_1
            try clear hfz30_2
            try clear hfz30_3
            try clear hfz30_4
            try clear hfz30_5
            try clear hfz32_0
            try clear hfz32_1
            try clear hfz32_2
            try clear hfz32_3
            try clear hfz32_4
            try clear hfz32_5
            try clear hfz33_0
            try clear hfz33_1
            try clear hfz5_0
            try clear hfz5_1
            try clear hfz7_0
            try clear hfz7_1
            try clear hfz9_0
            try clear hfz9_1
            try clear hx128_0
            try clear hx128_1
            try clear hx131_0
            try clear hx131_1
            try clear hx131_2
            try clear hx131_3
            try clear hx131_4
            try clear hx131_5
            try clear p1
            try clear p12
            try clear p128
            try clear p131
            try clear p2
            try clear p6
            try clear q1
            try clear q12
            try clear q128
            try clear q131
            obtain ⟨kq,x64_22,rfl,HA,HJ22,BK127,BK132,HB⟩ := hcut
            cases kq with
            | zero => exact absurd HA.out (by simp [rf_IsPlan.j3])
            | succ kj22 =>
             have H := HA.out
             clear HA
             simp only [rf_IsPlan.j3] at H
             by_cases c34 : x64_22 = true
             ·subst c34
              have H1 : (some false) = some r := by rw [if_pos rfl] at H; exact H
              clear H
              have H := H1
              clear H1
              obtain rfl := Option.some.inj H
              go_wp2
              repeat (go_quiet (fail); try go_wp2)
              go_ret
              exact ⟨by first | rfl | (simp [errW_none,errW_some] <;> rfl) | (simp [*,errW_none,errW_some] <;> rfl),by repeat (first | (with_reducible first | exact HB.out | apply below_alloc | apply pw_below_drewN | apply below_drew1 | refine below_set ?_ GE127.out | refine below_set ?_ GE132.out) | exact HB.out)⟩
             ·replace c34 := Bool.eq_false_iff.mpr c34
              subst c34
              have H1 : (if ((rd_T80 l0_1 x4_3).f1) = 1 then (if ((rd_T80 l0_1 x4_3).f2) = 0 then (if ((rd_T80 l0_1 x4_3).f3) = 0 then (if ((rd_T80 l0_1 x4_3).f4) = 0 then (if ((rd_T80 l0_1 x4_3).f5) = 0 then (rf_IsPlan.l1 kj22 (wrap64 (x4_3 + 1)) l0_0 l0_1) else (some false)) else (some false)) else (some false)) else (some false)) else (if ((rd_T80 l0_1 x4_3).f1) = 2 then (if ((rd_T80 l0_1 x4_3).f2) < 0 then (some false) else (if ((rd_T80 l0_1 x4_3).f2) ≥ x4_3 then (some false) else (if 0 ≤ ((rd_T80 l0_1 x4_3).f2) then (if ((rd_T80 l0_1 x4_3).f2) < (l0_1.length : Int) then (if ((rd_T80 l0_1 ((rd_T80 l0_1 x4_3).f2)).f0) = ((rd_T80 l0_1 x4_3).f0) then (if ((rd_T80 l0_1 x4_3).f3) < 0 then (some false) else (if ((rd_T80 l0_1 x4_3).f3) > 1000000000000 then (some false) else (if ((rd_T80 l0_1 x4_3).f4) = 0 then (if ((rd_T80 l0_1 x4_3).f5) = 0 then (rf_IsPlan.l1 kj22 (wrap64 (x4_3 + 1)) l0_0 l0_1) else (some false)) else (some false)))) else (some false)) else (none)) else (none)))) else (if ((rd_T80 l0_1 x4_3).f1) = 3 then (if ((rd_T80 l0_1 x4_3).f2) < 0 then (some false) else (if ((rd_T80 l0_1 x4_3).f2) ≥ x4_3 then (some false) else (if ((rd_T80 l0_1 x4_3).f3) = 0 then (if ((rd_T80 l0_1 x4_3).f4) < 0 then (some false) else (if ((rd_T80 l0_1 x4_3).f5) < ((rd_T80 l0_1 x4_3).f4) then (some false) else (if ((rd_T80 l0_1 x4_3).f5) > 1000000 then (some false) else (rf_IsPlan.l1 kj22 (wrap64 (x4_3 + 1)) l0_0 l0_1)))) else (some false)))) else (some false)))) = some r := by rw [if_neg (show ¬ (false = true) by decide)] at H; exact H
              clear H
              have H := H1
              clear H1
              by_cases c35 : ((rd_T80 l0_1 x4_3).f1) = 1
              ·rw [if_pos c35] at H
               have c35b0 : (((rd_T80 l0_1 x4_3).f1) == 1) = true := beq_iff_eq.mpr c35
               have c35b1 : (((rd_T80 l0_1 x4_3).f1) != 1) = false := bne_eq_false_iff_eq.mpr c35
               clear c35
               by_cases c36 : ((rd_T80 l0_1 x4_3).f2) = 0
               ·rw [if_pos c36] at H
                have c36b0 : (((rd_T80 l0_1 x4_3).f2) == 0) = true := beq_iff_eq.mpr c36
                have c36b1 : (((rd_T80 l0_1 x4_3).f2) != 0) = false := bne_eq_false_iff_eq.mpr c36
                clear c36
                by_cases c37 : ((rd_T80 l0_1 x4_3).f3) = 0
                ·rw [if_pos c37] at H
                 have c37b0 : (((rd_T80 l0_1 x4_3).f3) == 0) = true := beq_iff_eq.mpr c37
                 have c37b1 : (((rd_T80 l0_1 x4_3).f3) != 0) = false := bne_eq_false_iff_eq.mpr c37
                 clear c37
                 by_cases c38 : ((rd_T80 l0_1 x4_3).f4) = 0
                 ·rw [if_pos c38] at H
                  have c38b0 : (((rd_T80 l0_1 x4_3).f4) == 0) = true := beq_iff_eq.mpr c38
                  have c38b1 : (((rd_T80 l0_1 x4_3).f4) != 0) = false := bne_eq_false_iff_eq.mpr c38
                  clear c38
                  by_cases c39 : ((rd_T80 l0_1 x4_3).f5) = 0
                  ·rw [if_pos c39] at H
                   have c39b0 : (((rd_T80 l0_1 x4_3).f5) == 0) = true := beq_iff_eq.mpr c39
                   have c39b1 : (((rd_T80 l0_1 x4_3).f5) != 0) = false := bne_eq_false_iff_eq.mpr c39
                   clear c39
                   have H' := Aside0.mk H
                   clear H
                   have hnb40 := NB132_127.out
                   have hnc40 := NB127_132.out
                   have hcz41_0 : wc.cell? ⟨gb132,0,none⟩ = some (.int .i64 ((rd_T80 l0_1 x4_3).f0)) := (blk_cell BK132.out 0).trans rfl
                   have hcz41_1 : wc.cell? ⟨gb132,1,none⟩ = some (.int .i64 ((rd_T80 l0_1 x4_3).f1)) := (blk_cell BK132.out 1).trans rfl
                   have hcz41_2 : wc.cell? ⟨gb132,2,none⟩ = some (.int .i64 ((rd_T80 l0_1 x4_3).f2)) := (blk_cell BK132.out 2).trans rfl
                   have hcz41_3 : wc.cell? ⟨gb132,3,none⟩ = some (.int .i64 ((rd_T80 l0_1 x4_3).f3)) := (blk_cell BK132.out 3).trans rfl
                   have hcz41_4 : wc.cell? ⟨gb132,4,none⟩ = some (.int .i64 ((rd_T80 l0_1 x4_3).f4)) := (blk_cell BK132.out 4).trans rfl
                   have hcz41_5 : wc.cell? ⟨gb132,5,none⟩ = some (.int .i64 ((rd_T80 l0_1 x4_3).f5)) := (blk_cell BK132.out 5).trans rfl
                   have hfz41_0 := blk_frozen BK132.out 0
                   have hfz41_1 := blk_frozen BK132.out 1
                   have hfz41_2 := blk_frozen BK132.out 2
                   have hfz41_3 := blk_frozen BK132.out 3
                   have hfz41_4 := blk_frozen BK132.out 4
                   have hfz41_5 := blk_frozen BK132.out 5
                   go_wp2
                   repeat (go_quiet (fail); try go_wp2)
                   go_roundg kj22
                   case measure => have := HJ1.out; have := HK2.out; have := HK3.out; have := HJ22.out; omega
                   case rel => exact ⟨(wrap64 (x4_3 + 1)),(by first | rfl | (simp; done) | (simp [*]; done)),H',⟨by have := HJ1.out; have := HK2.out; have := HK3.out; have := HJ22.out; omega⟩,⟨by (with_reducible repeat (first | refine blk_drewN ?_ _ | refine blk_drew ?_ | refine blk_alloc ?_ _)); exact BK127.out⟩,⟨by repeat (first | (with_reducible first | exact HB.out | apply below_alloc | apply pw_below_drewN | apply below_drew1 | refine below_set ?_ GE127.out | refine below_set ?_ GE132.out) | exact HB.out)⟩⟩
                  ·rw [if_neg c39] at H
                   have c39b0 : (((rd_T80 l0_1 x4_3).f5) == 0) = false := beq_eq_false_iff_ne.mpr c39
                   have c39b1 : (((rd_T80 l0_1 x4_3).f5) != 0) = true := bne_iff_ne.mpr c39
                   obtain rfl := Option.some.inj H
                   have hnb42 := NB132_127.out
                   have hnc42 := NB127_132.out
                   have hcz43_0 : wc.cell? ⟨gb132,0,none⟩ = some (.int .i64 ((rd_T80 l0_1 x4_3).f0)) := (blk_cell BK132.out 0).trans rfl
                   have hcz43_1 : wc.cell? ⟨gb132,1,none⟩ = some (.int .i64 ((rd_T80 l0_1 x4_3).f1)) := (blk_cell BK132.out 1).trans rfl
                   have hcz43_2 : wc.cell? ⟨gb132,2,none⟩ = some (.int .i64 ((rd_T80 l0_1 x4_3).f2)) := (blk_cell BK132.out 2).trans rfl
                   have hcz43_3 : wc.cell? ⟨gb132,3,none⟩ = some (.int .i64 ((rd_T80 l0_1 x4_3).f3)) := (blk_cell BK132.out 3).trans rfl
                   have hcz43_4 : wc.cell? ⟨gb132,4,none⟩ = some (.int .i64 ((rd_T80 l0_1 x4_3).f4)) := (blk_cell BK132.out 4).trans rfl
                   have hcz43_5 : wc.cell? ⟨gb132,5,none⟩ = some (.int .i64 ((rd_T80 l0_1 x4_3).f5)) := (blk_cell BK132.out 5).trans rfl
                   have hfz43_0 := blk_frozen BK132.out 0
                   have hfz43_1 := blk_frozen BK132.out 1
                   have hfz43_2 := blk_frozen BK132.out 2
                   have hfz43_3 := blk_frozen BK132.out 3
                   have hfz43_4 := blk_frozen BK132.out 4
                   have hfz43_5 := blk_frozen BK132.out 5
                   go_wp2
                   repeat (go_quiet (fail); try go_wp2)
                   go_ret
                   exact ⟨by first | rfl | (simp [errW_none,errW_some] <;> rfl) | (simp [*,errW_none,errW_some] <;> rfl),by repeat (first | (with_reducible first | exact HB.out | apply below_alloc | apply pw_below_drewN | apply below_drew1 | refine below_set ?_ GE127.out | refine below_set ?_ GE132.out) | exact HB.out)⟩
                 ·rw [if_neg c38] at H
                  have c38b0 : (((rd_T80 l0_1 x4_3).f4) == 0) = false := beq_eq_false_iff_ne.mpr c38
                  have c38b1 : (((rd_T80 l0_1 x4_3).f4) != 0) = true := bne_iff_ne.mpr c38
                  obtain rfl := Option.some.inj H
                  have hnb44 := NB132_127.out
                  have hnc44 := NB127_132.out
                  have hcz45_0 : wc.cell? ⟨gb132,0,none⟩ = some (.int .i64 ((rd_T80 l0_1 x4_3).f0)) := (blk_cell BK132.out 0).trans rfl
                  have hcz45_1 : wc.cell? ⟨gb132,1,none⟩ = some (.int .i64 ((rd_T80 l0_1 x4_3).f1)) := (blk_cell BK132.out 1).trans rfl
                  have hcz45_2 : wc.cell? ⟨gb132,2,none⟩ = some (.int .i64 ((rd_T80 l0_1 x4_3).f2)) := (blk_cell BK132.out 2).trans rfl
                  have hcz45_3 : wc.cell? ⟨gb132,3,none⟩ = some (.int .i64 ((rd_T80 l0_1 x4_3).f3)) := (blk_cell BK132.out 3).trans rfl
                  have hcz45_4 : wc.cell? ⟨gb132,4,none⟩ = some (.int .i64 ((rd_T80 l0_1 x4_3).f4)) := (blk_cell BK132.out 4).trans rfl
                  have hcz45_5 : wc.cell? ⟨gb132,5,none⟩ = some (.int .i64 ((rd_T80 l0_1 x4_3).f5)) := (blk_cell BK132.out 5).trans rfl
                  have hfz45_0 := blk_frozen BK132.out 0
                  have hfz45_1 := blk_frozen BK132.out 1
                  have hfz45_2 := blk_frozen BK132.out 2
                  have hfz45_3 := blk_frozen BK132.out 3
                  have hfz45_4 := blk_frozen BK132.out 4
                  have hfz45_5 := blk_frozen BK132.out 5
                  go_wp2
                  repeat (go_quiet (fail); try go_wp2)
                  go_ret
                  exact ⟨by first | rfl | (simp [errW_none,errW_some] <;> rfl) | (simp [*,errW_none,errW_some] <;> rfl),by repeat (first | (with_reducible first | exact HB.out | apply below_alloc | apply pw_below_drewN | apply below_drew1 | refine below_set ?_ GE127.out | refine below_set ?_ GE132.out) | exact HB.out)⟩
                ·rw [if_neg c37] at H
                 have c37b0 : (((rd_T80 l0_1 x4_3).f3) == 0) = false := beq_eq_false_iff_ne.mpr c37
                 have c37b1 : (((rd_T80 l0_1 x4_3).f3) != 0) = true := bne_iff_ne.mpr c37
                 obtain rfl := Option.some.inj H
                 have hnb46 := NB132_127.out
                 have hnc46 := NB127_132.out
                 have hcz47_0 : wc.cell? ⟨gb132,0,none⟩ = some (.int .i64 ((rd_T80 l0_1 x4_3).f0)) := (blk_cell BK132.out 0).trans rfl
                 have hcz47_1 : wc.cell? ⟨gb132,1,none⟩ = some (.int .i64 ((rd_T80 l0_1 x4_3).f1)) := (blk_cell BK132.out 1).trans rfl
                 have hcz47_2 : wc.cell? ⟨gb132,2,none⟩ = some (.int .i64 ((rd_T80 l0_1 x4_3).f2)) := (blk_cell BK132.out 2).trans rfl
                 have hcz47_3 : wc.cell? ⟨gb132,3,none⟩ = some (.int .i64 ((rd_T80 l0_1 x4_3).f3)) := (blk_cell BK132.out 3).trans rfl
                 have hcz47_4 : wc.cell? ⟨gb132,4,none⟩ = some (.int .i64 ((rd_T80 l0_1 x4_3).f4)) := (blk_cell BK132.out 4).trans rfl
                 have hcz47_5 : wc.cell? ⟨gb132,5,none⟩ = some (.int .i64 ((rd_T80 l0_1 x4_3).f5)) := (blk_cell BK132.out 5).trans rfl
                 have hfz47_0 := blk_frozen BK132.out 0
                 have hfz47_1 := blk_frozen BK132.out 1
                 have hfz47_2 := blk_frozen BK132.out 2
                 have hfz47_3 := blk_frozen BK132.out 3
                 have hfz47_4 := blk_frozen BK132.out 4
                 have hfz47_5 := blk_frozen BK132.out 5
                 go_wp2
                 repeat (go_quiet (fail); try go_wp2)
                 go_ret
                 exact ⟨by first | rfl | (simp [errW_none,errW_some] <;> rfl) | (simp [*,errW_none,errW_some] <;> rfl),by repeat (first | (with_reducible first | exact HB.out | apply below_alloc | apply pw_below_drewN | apply below_drew1 | refine below_set ?_ GE127.out | refine below_set ?_ GE132.out) | exact HB.out)⟩
               ·rw [if_neg c36] at H
                have c36b0 : (((rd_T80 l0_1 x4_3).f2) == 0) = false := beq_eq_false_iff_ne.mpr c36
                have c36b1 : (((rd_T80 l0_1 x4_3).f2) != 0) = true := bne_iff_ne.mpr c36
                obtain rfl := Option.some.inj H
                have hnb48 := NB132_127.out
                have hnc48 := NB127_132.out
                have hcz49_0 : wc.cell? ⟨gb132,0,none⟩ = some (.int .i64 ((rd_T80 l0_1 x4_3).f0)) := (blk_cell BK132.out 0).trans rfl
                have hcz49_1 : wc.cell? ⟨gb132,1,none⟩ = some (.int .i64 ((rd_T80 l0_1 x4_3).f1)) := (blk_cell BK132.out 1).trans rfl
                have hcz49_2 : wc.cell? ⟨gb132,2,none⟩ = some (.int .i64 ((rd_T80 l0_1 x4_3).f2)) := (blk_cell BK132.out 2).trans rfl
                have hcz49_3 : wc.cell? ⟨gb132,3,none⟩ = some (.int .i64 ((rd_T80 l0_1 x4_3).f3)) := (blk_cell BK132.out 3).trans rfl
                have hcz49_4 : wc.cell? ⟨gb132,4,none⟩ = some (.int .i64 ((rd_T80 l0_1 x4_3).f4)) := (blk_cell BK132.out 4).trans rfl
                have hcz49_5 : wc.cell? ⟨gb132,5,none⟩ = some (.int .i64 ((rd_T80 l0_1 x4_3).f5)) := (blk_cell BK132.out 5).trans rfl
                have hfz49_0 := blk_frozen BK132.out 0
                have hfz49_1 := blk_frozen BK132.out 1
                have hfz49_2 := blk_frozen BK132.out 2
                have hfz49_3 := blk_frozen BK132.out 3
                have hfz49_4 := blk_frozen BK132.out 4
                have hfz49_5 := blk_frozen BK132.out 5
                go_wp2
                repeat (go_quiet (fail); try go_wp2)
                go_ret
                exact ⟨by first | rfl | (simp [errW_none,errW_some] <;> rfl) | (simp [*,errW_none,errW_some] <;> rfl),by repeat (first | (with_reducible first | exact HB.out | apply below_alloc | apply pw_below_drewN | apply below_drew1 | refine below_set ?_ GE127.out | refine below_set ?_ GE132.out) | exact HB.out)⟩
              ·rw [if_neg c35] at H
               have c35b0 : (((rd_T80 l0_1 x4_3).f1) == 1) = false := beq_eq_false_iff_ne.mpr c35
               have c35b1 : (((rd_T80 l0_1 x4_3).f1) != 1) = true := bne_iff_ne.mpr c35
               by_cases c50 : ((rd_T80 l0_1 x4_3).f1) = 2
               ·rw [if_pos c50] at H
                have c50b0 : (((rd_T80 l0_1 x4_3).f1) == 2) = true := beq_iff_eq.mpr c50
                have c50b1 : (((rd_T80 l0_1 x4_3).f1) != 2) = false := bne_eq_false_iff_eq.mpr c50
                clear c50
                by_cases c51 : ((rd_T80 l0_1 x4_3).f2) < 0
                ·rw [if_pos c51] at H
                 have c51b0 : decide (((rd_T80 l0_1 x4_3).f2) < 0) = true := decide_eq_true c51
                 clear c51
                 obtain rfl := Option.some.inj H
                 have hnb52 := NB132_127.out
                 have hnc52 := NB127_132.out
                 have hcz53_0 : wc.cell? ⟨gb132,0,none⟩ = some (.int .i64 ((rd_T80 l0_1 x4_3).f0)) := (blk_cell BK132.out 0).trans rfl
                 have hcz53_1 : wc.cell? ⟨gb132,1,none⟩ = some (.int .i64 ((rd_T80 l0_1 x4_3).f1)) := (blk_cell BK132.out 1).trans rfl
                 have hcz53_2 : wc.cell? ⟨gb132,2,none⟩ = some (.int .i64 ((rd_T80 l0_1 x4_3).f2)) := (blk_cell BK132.out 2).trans rfl
                 have hcz53_3 : wc.cell? ⟨gb132,3,none⟩ = some (.int .i64 ((rd_T80 l0_1 x4_3).f3)) := (blk_cell BK132.out 3).trans rfl
                 have hcz53_4 : wc.cell? ⟨gb132,4,none⟩ = some (.int .i64 ((rd_T80 l0_1 x4_3).f4)) := (blk_cell BK132.out 4).trans rfl
                 have hcz53_5 : wc.cell? ⟨gb132,5,none⟩ = some (.int .i64 ((rd_T80 l0_1 x4_3).f5)) := (blk_cell BK132.out 5).trans rfl
                 have hfz53_0 := blk_frozen BK132.out 0
                 have hfz53_1 := blk_frozen BK132.out 1
                 have hfz53_2 := blk_frozen BK132.out 2
                 have hfz53_3 := blk_frozen BK132.out 3
                 have hfz53_4 := blk_frozen BK132.out 4
                 have hfz53_5 := blk_frozen BK132.out 5
                 go_wp2
                 repeat (go_quiet (fail); try go_wp2)
                 go_ret
                 exact ⟨by first | rfl | (simp [errW_none,errW_some] <;> rfl) | (simp [*,errW_none,errW_some] <;> rfl),by repeat (first | (with_reducible first | exact HB.out | apply below_alloc | apply pw_below_drewN | apply below_drew1 | refine below_set ?_ GE127.out | refine below_set ?_ GE132.out) | exact HB.out)⟩
                ·rw [if_neg c51] at H
                 have c51b0 : decide (((rd_T80 l0_1 x4_3).f2) < 0) = false := decide_eq_false c51
                 clear c51
                 by_cases c54 : ((rd_T80 l0_1 x4_3).f2) ≥ x4_3
                 ·rw [if_pos c54] at H
                  have c54b0 : decide (x4_3 ≤ ((rd_T80 l0_1 x4_3).f2)) = true := decide_eq_true c54
                  clear c54
                  obtain rfl := Option.some.inj H
                  have hnb55 := NB132_127.out
                  have hnc55 := NB127_132.out
                  have hcz56_0 : wc.cell? ⟨gb132,0,none⟩ = some (.int .i64 ((rd_T80 l0_1 x4_3).f0)) := (blk_cell BK132.out 0).trans rfl
                  have hcz56_1 : wc.cell? ⟨gb132,1,none⟩ = some (.int .i64 ((rd_T80 l0_1 x4_3).f1)) := (blk_cell BK132.out 1).trans rfl
                  have hcz56_2 : wc.cell? ⟨gb132,2,none⟩ = some (.int .i64 ((rd_T80 l0_1 x4_3).f2)) := (blk_cell BK132.out 2).trans rfl
                  have hcz56_3 : wc.cell? ⟨gb132,3,none⟩ = some (.int .i64 ((rd_T80 l0_1 x4_3).f3)) := (blk_cell BK132.out 3).trans rfl
                  have hcz56_4 : wc.cell? ⟨gb132,4,none⟩ = some (.int .i64 ((rd_T80 l0_1 x4_3).f4)) := (blk_cell BK132.out 4).trans rfl
                  have hcz56_5 : wc.cell? ⟨gb132,5,none⟩ = some (.int .i64 ((rd_T80 l0_1 x4_3).f5)) := (blk_cell BK132.out 5).trans rfl
                  have hfz56_0 := blk_frozen BK132.out 0
                  have hfz56_1 := blk_frozen BK132.out 1
                  have hfz56_2 := blk_frozen BK132.out 2
                  have hfz56_3 := blk_frozen BK132.out 3
                  have hfz56_4 := blk_frozen BK132.out 4
                  have hfz56_5 := blk_frozen BK132.out 5
                  go_wp2
                  repeat (go_quiet (fail); try go_wp2)
                  go_ret
                  exact ⟨by first | rfl | (simp [errW_none,errW_some] <;> rfl) | (simp [*,errW_none,errW_some] <;> rfl),by repeat (first | (with_reducible first | exact HB.out | apply below_alloc | apply pw_below_drewN | apply below_drew1 | refine below_set ?_ GE127.out | refine below_set ?_ GE132.out) | exact HB.out)⟩
                 ·rw [if_neg c54] at H
                  have c54b0 : decide (x4_3 ≤ ((rd_T80 l0_1 x4_3).f2)) = false := decide_eq_false c54
                  clear c54
                  by_cases c57 : 0 ≤ ((rd_T80 l0_1 x4_3).f2)
                  ·rw [if_pos c57] at H
                   have c57b0 : decide (0 ≤ ((rd_T80 l0_1 x4_3).f2)) = true := decide_eq_true c57
                   clear c57
                   by_cases c58 : ((rd_T80 l0_1 x4_3).f2) < (l0_1.length : Int)
                   ·rw [if_pos c58] at H
                    have c58b0 : decide (((rd_T80 l0_1 x4_3).f2) < (l0_1.length : Int)) = true := decide_eq_true c58
                    clear c58
                    by_cases c59 : ((rd_T80 l0_1 ((rd_T80 l0_1 x4_3).f2)).f0) = ((rd_T80 l0_1 x4_3).f0)
                    ·rw [if_pos c59] at H
                     have c59b0 : (((rd_T80 l0_1 ((rd_T80 l0_1 x4_3).f2)).f0) == ((rd_T80 l0_1 x4_3).f0)) = true := beq_iff_eq.mpr c59
                     have c59b1 : (((rd_T80 l0_1 ((rd_T80 l0_1 x4_3).f2)).f0) != ((rd_T80 l0_1 x4_3).f0)) = false := bne_eq_false_iff_eq.mpr c59
                     clear c59
                     by_cases c60 : ((rd_T80 l0_1 x4_3).f3) < 0
                     ·rw [if_pos c60] at H
                      have c60b0 : decide (((rd_T80 l0_1 x4_3).f3) < 0) = true := decide_eq_true c60
                      clear c60
                      obtain rfl := Option.some.inj H
                      have hnb61 := NB132_127.out
                      have hnc61 := NB127_132.out
                      have hcz62_0 : wc.cell? ⟨gb132,0,none⟩ = some (.int .i64 ((rd_T80 l0_1 x4_3).f0)) := (blk_cell BK132.out 0).trans rfl
                      have hcz62_1 : wc.cell? ⟨gb132,1,none⟩ = some (.int .i64 ((rd_T80 l0_1 x4_3).f1)) := (blk_cell BK132.out 1).trans rfl
                      have hcz62_2 : wc.cell? ⟨gb132,2,none⟩ = some (.int .i64 ((rd_T80 l0_1 x4_3).f2)) := (blk_cell BK132.out 2).trans rfl
                      have hcz62_3 : wc.cell? ⟨gb132,3,none⟩ = some (.int .i64 ((rd_T80 l0_1 x4_3).f3)) := (blk_cell BK132.out 3).trans rfl
                      have hcz62_4 : wc.cell? ⟨gb132,4,none⟩ = some (.int .i64 ((rd_T80 l0_1 x4_3).f4)) := (blk_cell BK132.out 4).trans rfl
                      have hcz62_5 : wc.cell? ⟨gb132,5,none⟩ = some (.int .i64 ((rd_T80 l0_1 x4_3).f5)) := (blk_cell BK132.out 5).trans rfl
                      have hfz62_0 := blk_frozen BK132.out 0
                      have hfz62_1 := blk_frozen BK132.out 1
                      have hfz62_2 := blk_frozen BK132.out 2
                      have hfz62_3 := blk_frozen BK132.out 3
                      have hfz62_4 := blk_frozen BK132.out 4
                      have hfz62_5 := blk_frozen BK132.out 5
                      have hcz63_0 : wc.cell? ⟨gb127,0,none⟩ = some (.slice A0_0 l0_0.length c0_0) := (blk_cell BK127.out 0).trans rfl
                      have hcz63_1 : wc.cell? ⟨gb127,1,none⟩ = some (.slice (some ad131) l0_1.length c0_1) := (blk_cell BK127.out 1).trans rfl
                      have hfz63_0 := blk_frozen BK127.out 0
                      have hfz63_1 := blk_frozen BK127.out 1
                      have p133 : 0 ≤ (((rd_T80 l0_1 x4_3).f2) : Int) := of_decide_eq_true (by first | (with_reducible assumption) | assumption)
                      have q133 : ((rd_T80 l0_1 x4_3).f2) < (l0_1.length : Int) := of_decide_eq_true (by first | (with_reducible assumption) | assumption)
                      obtain ⟨ad133,e133,hx133_0,hx133_1,hx133_2,hx133_3,hx133_4,hx133_5⟩ := at_T80 HR0_1.out ((rd_T80 l0_1 x4_3).f2) p133 q133
                      obtain rfl : ad131 = ad133 := (by injection e133)
                      replace hx133_0 := (HB.out.cell (World.block_lt_of_cell? w _ hx133_0)).trans hx133_0
                      replace hx133_1 := (HB.out.cell (World.block_lt_of_cell? w _ hx133_1)).trans hx133_1
                      replace hx133_2 := (HB.out.cell (World.block_lt_of_cell? w _ hx133_2)).trans hx133_2
                      replace hx133_3 := (HB.out.cell (World.block_lt_of_cell? w _ hx133_3)).trans hx133_3
                      replace hx133_4 := (HB.out.cell (World.block_lt_of_cell? w _ hx133_4)).trans hx133_4
                      replace hx133_5 := (HB.out.cell (World.block_lt_of_cell? w _ hx133_5)).trans hx133_5
                      replace p133 := eq_true p133
                      replace q133 := eq_true q133
                      go_wp2
                      repeat (go_quiet (fail); try go_wp2)
                      go_ret
                      exact ⟨by first | rfl | (simp [errW_none,errW_some] <;> rfl) | (simp [*,errW_none,errW_some] <;> rfl),by repeat (first | (with_reducible first | exact HB.out | apply below_alloc | apply pw_below_drewN | apply below_drew1 | refine below_set ?_ GE127.out | refine below_set ?_ GE132.out) | exact HB.out)⟩
                     ·rw [if_neg c60] at H
                      have c60b0 : decide (((rd_T80 l0_1 x4_3).f3) < 0) = false := decide_eq_false c60
                      clear c60
                      by_cases c64 : ((rd_T80 l0_1 x4_3).f3) > 1000000000000
                      ·rw [if_pos c64] at H
                       have c64b0 : decide (1000000000000 < ((rd_T80 l0_1 x4_3).f3)) = true := decide_eq_true c64
                       clear c64
                       obtain rfl := Option.some.inj H
                       have hnb65 := NB132_127.out
                       have hnc65 := NB127_132.out
                       have hcz66_0 : wc.cell? ⟨gb132,0,none⟩ = some (.int .i64 ((rd_T80 l0_1 x4_3).f0)) := (blk_cell BK132.out 0).trans rfl
                       have hcz66_1 : wc.cell? ⟨gb132,1,none⟩ = some (.int .i64 ((rd_T80 l0_1 x4_3).f1)) := (blk_cell BK132.out 1).trans rfl
                       have hcz66_2 : wc.cell? ⟨gb132,2,none⟩ = some (.int .i64 ((rd_T80 l0_1 x4_3).f2)) := (blk_cell BK132.out 2).trans rfl
                       have hcz66_3 : wc.cell? ⟨gb132,3,none⟩ = some (.int .i64 ((rd_T80 l0_1 x4_3).f3)) := (blk_cell BK132.out 3).trans rfl
                       have hcz66_4 : wc.cell? ⟨gb132,4,none⟩ = some (.int .i64 ((rd_T80 l0_1 x4_3).f4)) := (blk_cell BK132.out 4).trans rfl
                       have hcz66_5 : wc.cell? ⟨gb132,5,none⟩ = some (.int .i64 ((rd_T80 l0_1 x4_3).f5)) := (blk_cell BK132.out 5).trans rfl
                       have hfz66_0 := blk_frozen BK132.out 0
                       have hfz66_1 := blk_frozen BK132.out 1
                       have hfz66_2 := blk_frozen BK132.out 2
                       have hfz66_3 := blk_frozen BK132.out 3
                       have hfz66_4 := blk_frozen BK132.out 4
                       have hfz66_5 := blk_frozen BK132.out 5
                       have hcz67_0 : wc.cell? ⟨gb127,0,none⟩ = some (.slice A0_0 l0_0.length c0_0) := (blk_cell BK127.out 0).trans rfl
                       have hcz67_1 : wc.cell? ⟨gb127,1,none⟩ = some (.slice (some ad131) l0_1.length c0_1) := (blk_cell BK127.out 1).trans rfl
                       have hfz67_0 := blk_frozen BK127.out 0
                       have hfz67_1 := blk_frozen BK127.out 1
                       have p133 : 0 ≤ (((rd_T80 l0_1 x4_3).f2) : Int) := of_decide_eq_true (by first | (with_reducible assumption) | assumption)
                       have q133 : ((rd_T80 l0_1 x4_3).f2) < (l0_1.length : Int) := of_decide_eq_true (by first | (with_reducible assumption) | assumption)
                       obtain ⟨ad133,e133,hx133_0,hx133_1,hx133_2,hx133_3,hx133_4,hx133_5⟩ := at_T80 HR0_1.out ((rd_T80 l0_1 x4_3).f2) p133 q133
                       obtain rfl : ad131 = ad133 := (by injection e133)
                       replace hx133_0 := (HB.out.cell (World.block_lt_of_cell? w _ hx133_0)).trans hx133_0
                       replace hx133_1 := (HB.out.cell (World.block_lt_of_cell? w _ hx133_1)).trans hx133_1
                       replace hx133_2 := (HB.out.cell (World.block_lt_of_cell? w _ hx133_2)).trans hx133_2
                       replace hx133_3 := (HB.out.cell (World.block_lt_of_cell? w _ hx133_3)).trans hx133_3
                       replace hx133_4 := (HB.out.cell (World.block_lt_of_cell? w _ hx133_4)).trans hx133_4
                       replace hx133_5 := (HB.out.cell (World.block_lt_of_cell? w _ hx133_5)).trans hx133_5
                       replace p133 := eq_true p133
                       replace q133 := eq_true q133
                       go_wp2
                       repeat (go_quiet (fail); try go_wp2)
                       go_ret
                       exact ⟨by first | rfl | (simp [errW_none,errW_some] <;> rfl) | (simp [*,errW_none,errW_some] <;> rfl),by repeat (first | (with_reducible first | exact HB.out | apply below_alloc | apply pw_below_drewN | apply below_drew1 | refine below_set ?_ GE127.out | refine below_set ?_ GE132.out) | exact HB.out)⟩
                      ·rw [if_neg c64] at H
                       have c64b0 : decide (1000000000000 < ((rd_T80 l0_1 x4_3).f3)) = false := decide_eq_false c64
                       clear c64
                       by_cases c68 : ((rd_T80 l0_1 x4_3).f4) = 0
                       ·rw [if_pos c68] at H
                        have c68b0 : (((rd_T80 l0_1 x4_3).f4) == 0) = true := beq_iff_eq.mpr c68
                        have c68b1 : (((rd_T80 l0_1 x4_3).f4) != 0) = false := bne_eq_false_iff_eq.mpr c68
                        clear c68
                        by_cases c69 : ((rd_T80 l0_1 x4_3).f5) = 0
                        ·rw [if_pos c69] at H
                         have c69b0 : (((rd_T80 l0_1 x4_3).f5) == 0) = true := beq_iff_eq.mpr c69
                         have c69b1 : (((rd_T80 l0_1 x4_3).f5) != 0) = false := bne_eq_false_iff_eq.mpr c69
                         clear c69
                         have H' := Aside0.mk H
                         clear H
                         have hnb70 := NB132_127.out
                         have hnc70 := NB127_132.out
                         have hcz71_0 : wc.cell? ⟨gb132,0,none⟩ = some (.int .i64 ((rd_T80 l0_1 x4_3).f0)) := (blk_cell BK132.out 0).trans rfl
                         have hcz71_1 : wc.cell? ⟨gb132,1,none⟩ = some (.int .i64 ((rd_T80 l0_1 x4_3).f1)) := (blk_cell BK132.out 1).trans rfl
                         have hcz71_2 : wc.cell? ⟨gb132,2,none⟩ = some (.int .i64 ((rd_T80 l0_1 x4_3).f2)) := (blk_cell BK132.out 2).trans rfl
                         have hcz71_3 : wc.cell? ⟨gb132,3,none⟩ = some (.int .i64 ((rd_T80 l0_1 x4_3).f3)) := (blk_cell BK132.out 3).trans rfl
                         have hcz71_4 : wc.cell? ⟨gb132,4,none⟩ = some (.int .i64 ((rd_T80 l0_1 x4_3).f4)) := (blk_cell BK132.out 4).trans rfl
                         have hcz71_5 : wc.cell? ⟨gb132,5,none⟩ = some (.int .i64 ((rd_T80 l0_1 x4_3).f5)) := (blk_cell BK132.out 5).trans rfl
                         have hfz71_0 := blk_frozen BK132.out 0
                         have hfz71_1 := blk_frozen BK132.out 1
                         have hfz71_2 := blk_frozen BK132.out 2
                         have hfz71_3 := blk_frozen BK132.out 3
                         have hfz71_4 := blk_frozen BK132.out 4
                         have hfz71_5 := blk_frozen BK132.out 5
                         have hcz72_0 : wc.cell? ⟨gb127,0,none⟩ = some (.slice A0_0 l0_0.length c0_0) := (blk_cell BK127.out 0).trans rfl
                         have hcz72_1 : wc.cell? ⟨gb127,1,none⟩ = some (.slice (some ad131) l0_1.length c0_1) := (blk_cell BK127.out 1).trans rfl
                         have hfz72_0 := blk_frozen BK127.out 0
                         have hfz72_1 := blk_frozen BK127.out 1
                         have p133 : 0 ≤ (((rd_T80 l0_1 x4_3).f2) : Int) := of_decide_eq_true (by first | (with_reducible assumption) | assumption)
                         have q133 : ((rd_T80 l0_1 x4_3).f2) < (l0_1.length : Int) := of_decide_eq_true (by first | (with_reducible assumption) | assumption)
                         obtain ⟨ad133,e133,hx133_0,hx133_1,hx133_2,hx133_3,hx133_4,hx133_5⟩ := at_T80 HR0_1.out ((rd_T80 l0_1 x4_3).f2) p133 q133
                         obtain rfl : ad131 = ad133 := (by injection e133)
                         replace hx133_0 := (HB.out.cell (World.block_lt_of_cell? w _ hx133_0)).trans hx133_0
                         replace hx133_1 := (HB.out.cell (World.block_lt_of_cell? w _ hx133_1)).trans hx133_1
                         replace hx133_2 := (HB.out.cell (World.block_lt_of_cell? w _ hx133_2)).trans hx133_2
                         replace hx133_3 := (HB.out.cell (World.block_lt_of_cell? w _ hx133_3)).trans hx133_3
                         replace hx133_4 := (HB.out.cell (World.block_lt_of_cell? w _ hx133_4)).trans hx133_4
                         replace hx133_5 := (HB.out.cell (World.block_lt_of_cell? w _ hx133_5)).trans hx133_5
                         replace p133 := eq_true p133
                         replace q133 := eq_true q133
                         go_wp2
                         repeat (go_quiet (fail); try go_wp2)
                         go_roundg kj22
                         case measure => have := HJ1.out; have := HK2.out; have := HK3.out; have := HJ22.out; omega
                         case rel => exact ⟨(wrap64 (x4_3 + 1)),(by first | rfl | (simp; done) | (simp [*]; done)),H',⟨by have := HJ1.out; have := HK2.out; have := HK3.out; have := HJ22.out; omega⟩,⟨by (with_reducible repeat (first | refine blk_drewN ?_ _ | refine blk_drew ?_ | refine blk_alloc ?_ _)); exact BK127.out⟩,⟨by repeat (first | (with_reducible first | exact HB.out | apply below_alloc | apply pw_below_drewN | apply below_drew1 | refine below_set ?_ GE127.out | refine below_set ?_ GE132.out) | exact HB.out)⟩⟩
                        ·rw [if_neg c69] at H
                         have c69b0 : (((rd_T80 l0_1 x4_3).f5) == 0) = false := beq_eq_false_iff_ne.mpr c69
                         have c69b1 : (((rd_T80 l0_1 x4_3).f5) != 0) = true := bne_iff_ne.mpr c69
                         obtain rfl := Option.some.inj H
                         have hnb73 := NB132_127.out
                         have hnc73 := NB127_132.out
                         have hcz74_0 : wc.cell? ⟨gb132,0,none⟩ = some (.int .i64 ((rd_T80 l0_1 x4_3).f0)) := (blk_cell BK132.out 0).trans rfl
                         have hcz74_1 : wc.cell? ⟨gb132,1,none⟩ = some (.int .i64 ((rd_T80 l0_1 x4_3).f1)) := (blk_cell BK132.out 1).trans rfl
                         have hcz74_2 : wc.cell? ⟨gb132,2,none⟩ = some (.int .i64 ((rd_T80 l0_1 x4_3).f2)) := (blk_cell BK132.out 2).trans rfl
                         have hcz74_3 : wc.cell? ⟨gb132,3,none⟩ = some (.int .i64 ((rd_T80 l0_1 x4_3).f3)) := (blk_cell BK132.out 3).trans rfl
                         have hcz74_4 : wc.cell? ⟨gb132,4,none⟩ = some (.int .i64 ((rd_T80 l0_1 x4_3).f4)) := (blk_cell BK132.out 4).trans rfl
                         have hcz74_5 : wc.cell? ⟨gb132,5,none⟩ = some (.int .i64 ((rd_T80 l0_1 x4_3).f5)) := (blk_cell BK132.out 5).trans rfl
                         have hfz74_0 := blk_frozen BK132.out 0
                         have hfz74_1 := blk_frozen BK132.out 1
                         have hfz74_2 := blk_frozen BK132.out 2
                         have hfz74_3 := blk_frozen BK132.out 3
                         have hfz74_4 := blk_frozen BK132.out 4
                         have hfz74_5 := blk_frozen BK132.out 5
                         have hcz75_0 : wc.cell? ⟨gb127,0,none⟩ = some (.slice A0_0 l0_0.length c0_0) := (blk_cell BK127.out 0).trans rfl
                         have hcz75_1 : wc.cell? ⟨gb127,1,none⟩ = some (.slice (some ad131) l0_1.length c0_1) := (blk_cell BK127.out 1).trans rfl
                         have hfz75_0 := blk_frozen BK127.out 0
                         have hfz75_1 := blk_frozen BK127.out 1
                         have p133 : 0 ≤ (((rd_T80 l0_1 x4_3).f2) : Int) := of_decide_eq_true (by first | (with_reducible assumption) | assumption)
                         have q133 : ((rd_T80 l0_1 x4_3).f2) < (l0_1.length : Int) := of_decide_eq_true (by first | (with_reducible assumption) | assumption)
                         obtain ⟨ad133,e133,hx133_0,hx133_1,hx133_2,hx133_3,hx133_4,hx133_5⟩ := at_T80 HR0_1.out ((rd_T80 l0_1 x4_3).f2) p133 q133
                         obtain rfl : ad131 = ad133 := (by injection e133)
                         replace hx133_0 := (HB.out.cell (World.block_lt_of_cell? w _ hx133_0)).trans hx133_0
                         replace hx133_1 := (HB.out.cell (World.block_lt_of_cell? w _ hx133_1)).trans hx133_1
                         replace hx133_2 := (HB.out.cell (World.block_lt_of_cell? w _ hx133_2)).trans hx133_2
                         replace hx133_3 := (HB.out.cell (World.block_lt_of_cell? w _ hx133_3)).trans hx133_3
                         replace hx133_4 := (HB.out.cell (World.block_lt_of_cell? w _ hx133_4)).trans hx133_4
                         replace hx133_5 := (HB.out.cell (World.block_lt_of_cell? w _ hx133_5)).trans hx133_5
                         replace p133 := eq_true p133
                         replace q133 := eq_true q133
                         go_wp2
                         repeat (go_quiet (fail); try go_wp2)
                         go_ret
                         exact ⟨by first | rfl | (simp [errW_none,errW_some] <;> rfl) | (simp [*,errW_none,errW_some] <;> rfl),by repeat (first | (with_reducible first | exact HB.out | apply below_alloc | apply pw_below_drewN | apply below_drew1 | refine below_set ?_ GE127.out | refine below_set ?_ GE132.out) | exact HB.out)⟩
                       ·rw [if_neg c68] at H
                        have c68b0 : (((rd_T80 l0_1 x4_3).f4) == 0) = false := beq_eq_false_iff_ne.mpr c68
                        have c68b1 : (((rd_T80 l0_1 x4_3).f4) != 0) = true := bne_iff_ne.mpr c68
                        obtain rfl := Option.some.inj H
                        have hnb76 := NB132_127.out
                        have hnc76 := NB127_132.out
                        have hcz77_0 : wc.cell? ⟨gb132,0,none⟩ = some (.int .i64 ((rd_T80 l0_1 x4_3).f0)) := (blk_cell BK132.out 0).trans rfl
                        have hcz77_1 : wc.cell? ⟨gb132,1,none⟩ = some (.int .i64 ((rd_T80 l0_1 x4_3).f1)) := (blk_cell BK132.out 1).trans rfl
                        have hcz77_2 : wc.cell? ⟨gb132,2,none⟩ = some (.int .i64 ((rd_T80 l0_1 x4_3).f2)) := (blk_cell BK132.out 2).trans rfl
                        have hcz77_3 : wc.cell? ⟨gb132,3,none⟩ = some (.int .i64 ((rd_T80 l0_1 x4_3).f3)) := (blk_cell BK132.out 3).trans rfl
                        have hcz77_4 : wc.cell? ⟨gb132,4,none⟩ = some (.int .i64 ((rd_T80 l0_1 x4_3).f4)) := (blk_cell BK132.out 4).trans rfl
                        have hcz77_5 : wc.cell? ⟨gb132,5,none⟩ = some (.int .i64 ((rd_T80 l0_1 x4_3).f5)) := (blk_cell BK132.out 5).trans rfl
                        have hfz77_0 := blk_frozen BK132.out 0
                        have hfz77_1 := blk_frozen BK132.out 1
                        have hfz77_2 := blk_frozen BK132.out 2
                        have hfz77_3 := blk_frozen BK132.out 3
                        have hfz77_4 := blk_frozen BK132.out 4
                        have hfz77_5 := blk_frozen BK132.out 5
                        have hcz78_0 : wc.cell? ⟨gb127,0,none⟩ = some (.slice A0_0 l0_0.length c0_0) := (blk_cell BK127.out 0).trans rfl
                        have hcz78_1 : wc.cell? ⟨gb127,1,none⟩ = some (.slice (some ad131) l0_1.length c0_1) := (blk_cell BK127.out 1).trans rfl
                        have hfz78_0 := blk_frozen BK127.out 0
                        have hfz78_1 := blk_frozen BK127.out 1
                        have p133 : 0 ≤ (((rd_T80 l0_1 x4_3).f2) : Int) := of_decide_eq_true (by first | (with_reducible assumption) | assumption)
                        have q133 : ((rd_T80 l0_1 x4_3).f2) < (l0_1.length : Int) := of_decide_eq_true (by first | (with_reducible assumption) | assumption)
                        obtain ⟨ad133,e133,hx133_0,hx133_1,hx133_2,hx133_3,hx133_4,hx133_5⟩ := at_T80 HR0_1.out ((rd_T80 l0_1 x4_3).f2) p133 q133
                        obtain rfl : ad131 = ad133 := (by injection e133)
                        replace hx133_0 := (HB.out.cell (World.block_lt_of_cell? w _ hx133_0)).trans hx133_0
                        replace hx133_1 := (HB.out.cell (World.block_lt_of_cell? w _ hx133_1)).trans hx133_1
                        replace hx133_2 := (HB.out.cell (World.block_lt_of_cell? w _ hx133_2)).trans hx133_2
                        replace hx133_3 := (HB.out.cell (World.block_lt_of_cell? w _ hx133_3)).trans hx133_3
                        replace hx133_4 := (HB.out.cell (World.block_lt_of_cell? w _ hx133_4)).trans hx133_4
                        replace hx133_5 := (HB.out.cell (World.block_lt_of_cell? w _ hx133_5)).trans hx133_5
                        replace p133 := eq_true p133
                        replace q133 := eq_true q133
                        go_wp2
                        repeat (go_quiet (fail); try go_wp2)
                        go_ret
                        exact ⟨by first | rfl | (simp [errW_none,errW_some] <;> rfl) | (simp [*,errW_none,errW_some] <;> rfl),by repeat (first | (with_reducible first | exact HB.out | apply below_alloc | apply pw_below_drewN | apply below_drew1 | refine below_set ?_ GE127.out | refine below_set ?_ GE132.out) | exact HB.out)⟩
                    ·rw [if_neg c59] at H
                     have c59b0 : (((rd_T80 l0_1 ((rd_T80 l0_1 x4_3).f2)).f0) == ((rd_T80 l0_1 x4_3).f0)) = false := beq_eq_false_iff_ne.mpr c59
                     have c59b1 : (((rd_T80 l0_1 ((rd_T80 l0_1 x4_3).f2)).f0) != ((rd_T80 l0_1 x4_3).f0)) = true := bne_iff_ne.mpr c59
                     obtain rfl := Option.some.inj H
                     have hnb79 := NB132_127.out
                     have hnc79 := NB127_132.out
                     have hcz80_0 : wc.cell? ⟨gb132,0,none⟩ = some (.int .i64 ((rd_T80 l0_1 x4_3).f0)) := (blk_cell BK132.out 0).trans rfl
                     have hcz80_1 : wc.cell? ⟨gb132,1,none⟩ = some (.int .i64 ((rd_T80 l0_1 x4_3).f1)) := (blk_cell BK132.out 1).trans rfl
                     have hcz80_2 : wc.cell? ⟨gb132,2,none⟩ = some (.int .i64 ((rd_T80 l0_1 x4_3).f2)) := (blk_cell BK132.out 2).trans rfl
                     have hcz80_3 : wc.cell? ⟨gb132,3,none⟩ = some (.int .i64 ((rd_T80 l0_1 x4_3).f3)) := (blk_cell BK132.out 3).trans rfl
                     have hcz80_4 : wc.cell? ⟨gb132,4,none⟩ = some (.int .i64 ((rd_T80 l0_1 x4_3).f4)) := (blk_cell BK132.out 4).trans rfl
                     have hcz80_5 : wc.cell? ⟨gb132,5,none⟩ = some (.int .i64 ((rd_T80 l0_1 x4_3).f5)) := (blk_cell BK132.out 5).trans rfl
                     have hfz80_0 := blk_frozen BK132.out 0
                     have hfz80_1 := blk_frozen BK132.out 1
                     have hfz80_2 := blk_frozen BK132.out 2
                     have hfz80_3 := blk_frozen BK132.out 3
                     have hfz80_4 := blk_frozen BK132.out 4
                     have hfz80_5 := blk_frozen BK132.out 5
                     have hcz81_0 : wc.cell? ⟨gb127,0,none⟩ = some (.slice A0_0 l0_0.length c0_0) := (blk_cell BK127.out 0).trans rfl
                     have hcz81_1 : wc.cell? ⟨gb127,1,none⟩ = some (.slice (some ad131) l0_1.length c0_1) := (blk_cell BK127.out 1).trans rfl
                     have hfz81_0 := blk_frozen BK127.out 0
                     have hfz81_1 := blk_frozen BK127.out 1
                     have p133 : 0 ≤ (((rd_T80 l0_1 x4_3).f2) : Int) := of_decide_eq_true (by first | (with_reducible assumption) | assumption)
                     have q133 : ((rd_T80 l0_1 x4_3).f2) < (l0_1.length : Int) := of_decide_eq_true (by first | (with_reducible assumption) | assumption)
                     obtain ⟨ad133,e133,hx133_0,hx133_1,hx133_2,hx133_3,hx133_4,hx133_5⟩ := at_T80 HR0_1.out ((rd_T80 l0_1 x4_3).f2) p133 q133
                     obtain rfl : ad131 = ad133 := (by injection e133)
                     replace hx133_0 := (HB.out.cell (World.block_lt_of_cell? w _ hx133_0)).trans hx133_0
                     replace hx133_1 := (HB.out.cell (World.block_lt_of_cell? w _ hx133_1)).trans hx133_1
                     replace hx133_2 := (HB.out.cell (World.block_lt_of_cell? w _ hx133_2)).trans hx133_2
                     replace hx133_3 := (HB.out.cell (World.block_lt_of_cell? w _ hx133_3)).trans hx133_3
                     replace hx133_4 := (HB.out.cell (World.block_lt_of_cell? w _ hx133_4)).trans hx133_4
                     replace hx133_5 := (HB.out.cell (World.block_lt_of_cell? w _ hx133_5)).trans hx133_5
                     replace p133 := eq_true p133
                     replace q133 := eq_true q133
                     go_wp2
                     repeat (go_quiet (fail); try go_wp2)
                     go_ret
                     exact ⟨by first | rfl | (simp [errW_none,errW_some] <;> rfl) | (simp [*,errW_none,errW_some] <;> rfl),by repeat (first | (with_reducible first | exact HB.out | apply below_alloc | apply pw_below_drewN | apply below_drew1 | refine below_set ?_ GE127.out | refine below_set ?_ GE132.out) | exact HB.out)⟩
                   ·rw [if_neg c58] at H
                    exact absurd H (by simp)
                  ·rw [if_neg c57] at H
                   exact absurd H (by simp)
               ·rw [if_neg c50] at H
                have c50b0 : (((rd_T80 l0_1 x4_3).f1) == 2) = false := beq_eq_false_iff_ne.mpr c50
                have c50b1 : (((rd_T80 l0_1 x4_3).f1) != 2) = true := bne_iff_ne.mpr c50
                by_cases c82 : ((rd_T80 l0_1 x4_3).f1) = 3
                ·rw [if_pos c82] at H
                 have c82b0 : (((rd_T80 l0_1 x4_3).f1) == 3) = true := beq_iff_eq.mpr c82
                 have c82b1 : (((rd_T80 l0_1 x4_3).f1) != 3) = false := bne_eq_false_iff_eq.mpr c82
                 clear c82
                 by_cases c83 : ((rd_T80 l0_1 x4_3).f2) < 0
                 ·rw [if_pos c83] at H
                  have c83b0 : decide (((rd_T80 l0_1 x4_3).f2) < 0) = true := decide_eq_true c83
                  clear c83
                  obtain rfl := Option.some.inj H
                  have hnb84 := NB132_127.out
                  have hnc84 := NB127_132.out
                  have hcz85_0 : wc.cell? ⟨gb132,0,none⟩ = some (.int .i64 ((rd_T80 l0_1 x4_3).f0)) := (blk_cell BK132.out 0).trans rfl
                  have hcz85_1 : wc.cell? ⟨gb132,1,none⟩ = some (.int .i64 ((rd_T80 l0_1 x4_3).f1)) := (blk_cell BK132.out 1).trans rfl
                  have hcz85_2 : wc.cell? ⟨gb132,2,none⟩ = some (.int .i64 ((rd_T80 l0_1 x4_3).f2)) := (blk_cell BK132.out 2).trans rfl
                  have hcz85_3 : wc.cell? ⟨gb132,3,none⟩ = some (.int .i64 ((rd_T80 l0_1 x4_3).f3)) := (blk_cell BK132.out 3).trans rfl
                  have hcz85_4 : wc.cell? ⟨gb132,4,none⟩ = some (.int .i64 ((rd_T80 l0_1 x4_3).f4)) := (blk_cell BK132.out 4).trans rfl
                  have hcz85_5 : wc.cell? ⟨gb132,5,none⟩ = some (.int .i64 ((rd_T80 l0_1 x4_3).f5)) := (blk_cell BK132.out 5).trans rfl
                  have hfz85_0 := blk_frozen BK132.out 0
                  have hfz85_1 := blk_frozen BK132.out 1
                  have hfz85_2 := blk_frozen BK132.out 2
                  have hfz85_3 := blk_frozen BK132.out 3
                  have hfz85_4 := blk_frozen BK132.out 4
                  have hfz85_5 := blk_frozen BK132.out 5
                  go_wp2
                  repeat (go_quiet (fail); try go_wp2)
                  go_ret
                  exact ⟨by first | rfl | (simp [errW_none,errW_some] <;> rfl) | (simp [*,errW_none,errW_some] <;> rfl),by repeat (first | (with_reducible first | exact HB.out | apply below_alloc | apply pw_below_drewN | apply below_drew1 | refine below_set ?_ GE127.out | refine below_set ?_ GE132.out) | exact HB.out)⟩
                 ·rw [if_neg c83] at H
                  have c83b0 : decide (((rd_T80 l0_1 x4_3).f2) < 0) = false := decide_eq_false c83
                  clear c83
                  by_cases c86 : ((rd_T80 l0_1 x4_3).f2) ≥ x4_3
                  ·rw [if_pos c86] at H
                   have c86b0 : decide (x4_3 ≤ ((rd_T80 l0_1 x4_3).f2)) = true := decide_eq_true c86
                   clear c86
                   obtain rfl := Option.some.inj H
                   have hnb87 := NB132_127.out
                   have hnc87 := NB127_132.out
                   have hcz88_0 : wc.cell? ⟨gb132,0,none⟩ = some (.int .i64 ((rd_T80 l0_1 x4_3).f0)) := (blk_cell BK132.out 0).trans rfl
                   have hcz88_1 : wc.cell? ⟨gb132,1,none⟩ = some (.int .i64 ((rd_T80 l0_1 x4_3).f1)) := (blk_cell BK132.out 1).trans rfl
                   have hcz88_2 : wc.cell? ⟨gb132,2,none⟩ = some (.int .i64 ((rd_T80 l0_1 x4_3).f2)) := (blk_cell BK132.out 2).trans rfl
                   have hcz88_3 : wc.cell? ⟨gb132,3,none⟩ = some (.int .i64 ((rd_T80 l0_1 x4_3).f3)) := (blk_cell BK132.out 3).trans rfl
                   have hcz88_4 : wc.cell? ⟨gb132,4,none⟩ = some (.int .i64 ((rd_T80 l0_1 x4_3).f4)) := (blk_cell BK132.out 4).trans rfl
                   have hcz88_5 : wc.cell? ⟨gb132,5,none⟩ = some (.int .i64 ((rd_T80 l0_1 x4_3).f5)) := (blk_cell BK132.out 5).trans rfl
                   have hfz88_0 := blk_frozen BK132.out 0
                   have hfz88_1 := blk_frozen BK132.out 1
                   have hfz88_2 := blk_frozen BK132.out 2
                   have hfz88_3 := blk_frozen BK132.out 3
                   have hfz88_4 := blk_frozen BK132.out 4
                   have hfz88_5 := blk_frozen BK132.out 5
                   go_wp2
                   repeat (go_quiet (fail); try go_wp2)
                   go_ret
                   exact ⟨by first | rfl | (simp [errW_none,errW_some] <;> rfl) | (simp [*,errW_none,errW_some] <;> rfl),by repeat (first | (with_reducible first | exact HB.out | apply below_alloc | apply pw_below_drewN | apply below_drew1 | refine below_set ?_ GE127.out | refine below_set ?_ GE132.out) | exact HB.out)⟩
                  ·rw [if_neg c86] at H
                   have c86b0 : decide (x4_3 ≤ ((rd_T80 l0_1 x4_3).f2)) = false := decide_eq_false c86
                   clear c86
                   by_cases c89 : ((rd_T80 l0_1 x4_3).f3) = 0
                   ·rw [if_pos c89] at H
                    have c89b0 : (((rd_T80 l0_1 x4_3).f3) == 0) = true := beq_iff_eq.mpr c89
                    have c89b1 : (((rd_T80 l0_1 x4_3).f3) != 0) = false := bne_eq_false_iff_eq.mpr c89
                    clear c89
                    by_cases c90 : ((rd_T80 l0_1 x4_3).f4) < 0
                    ·rw [if_pos c90] at H
                     have c90b0 : decide (((rd_T80 l0_1 x4_3).f4) < 0) = true := decide_eq_true c90
                     clear c90
                     obtain rfl := Option.some.inj H
                     have hnb91 := NB132_127.out
                     have hnc91 := NB127_132.out
                     have hcz92_0 : wc.cell? ⟨gb132,0,none⟩ = some (.int .i64 ((rd_T80 l0_1 x4_3).f0)) := (blk_cell BK132.out 0).trans rfl
                     have hcz92_1 : wc.cell? ⟨gb132,1,none⟩ = some (.int .i64 ((rd_T80 l0_1 x4_3).f1)) := (blk_cell BK132.out 1).trans rfl
                     have hcz92_2 : wc.cell? ⟨gb132,2,none⟩ = some (.int .i64 ((rd_T80 l0_1 x4_3).f2)) := (blk_cell BK132.out 2).trans rfl
                     have hcz92_3 : wc.cell? ⟨gb132,3,none⟩ = some (.int .i64 ((rd_T80 l0_1 x4_3).f3)) := (blk_cell BK132.out 3).trans rfl
                     have hcz92_4 : wc.cell? ⟨gb132,4,none⟩ = some (.int .i64 ((rd_T80 l0_1 x4_3).f4)) := (blk_cell BK132.out 4).trans rfl
                     have hcz92_5 : wc.cell? ⟨gb132,5,none⟩ = some (.int .i64 ((rd_T80 l0_1 x4_3).f5)) := (blk_cell BK132.out 5).trans rfl
                     have hfz92_0 := blk_frozen BK132.out 0
                     have hfz92_1 := blk_frozen BK132.out 1
                     have hfz92_2 := blk_frozen BK132.out 2
                     have hfz92_3 := blk_frozen BK132.out 3
                     have hfz92_4 := blk_frozen BK132.out 4
                     have hfz92_5 := blk_frozen BK132.out 5
                     go_wp2
                     repeat (go_quiet (fail); try go_wp2)
                     go_ret
                     exact ⟨by first | rfl | (simp [errW_none,errW_some] <;> rfl) | (simp [*,errW_none,errW_some] <;> rfl),by repeat (first | (with_reducible first | exact HB.out | apply below_alloc | apply pw_below_drewN | apply below_drew1 | refine below_set ?_ GE127.out | refine below_set ?_ GE132.out) | exact HB.out)⟩
                    ·rw [if_neg c90] at H
                     have c90b0 : decide (((rd_T80 l0_1 x4_3).f4) < 0) = false := decide_eq_false c90
                     clear c90
                     by_cases c93 : ((rd_T80 l0_1 x4_3).f5) < ((rd_T80 l0_1 x4_3).f4)
                     ·rw [if_pos c93] at H
                      have c93b0 : decide (((rd_T80 l0_1 x4_3).f5) < ((rd_T80 l0_1 x4_3).f4)) = true := decide_eq_true c93
                      clear c93
                      obtain rfl := Option.some.inj H
                      have hnb94 := NB132_127.out
                      have hnc94 := NB127_132.out
                      have hcz95_0 : wc.cell? ⟨gb132,0,none⟩ = some (.int .i64 ((rd_T80 l0_1 x4_3).f0)) := (blk_cell BK132.out 0).trans rfl
                      have hcz95_1 : wc.cell? ⟨gb132,1,none⟩ = some (.int .i64 ((rd_T80 l0_1 x4_3).f1)) := (blk_cell BK132.out 1).trans rfl
                      have hcz95_2 : wc.cell? ⟨gb132,2,none⟩ = some (.int .i64 ((rd_T80 l0_1 x4_3).f2)) := (blk_cell BK132.out 2).trans rfl
                      have hcz95_3 : wc.cell? ⟨gb132,3,none⟩ = some (.int .i64 ((rd_T80 l0_1 x4_3).f3)) := (blk_cell BK132.out 3).trans rfl
                      have hcz95_4 : wc.cell? ⟨gb132,4,none⟩ = some (.int .i64 ((rd_T80 l0_1 x4_3).f4)) := (blk_cell BK132.out 4).trans rfl
                      have hcz95_5 : wc.cell? ⟨gb132,5,none⟩ = some (.int .i64 ((rd_T80 l0_1 x4_3).f5)) := (blk_cell BK132.out 5).trans rfl
                      have hfz95_0 := blk_frozen BK132.out 0
                      have hfz95_1 := blk_frozen BK132.out 1
                      have hfz95_2 := blk_frozen BK132.out 2
                      have hfz95_3 := blk_frozen BK132.out 3
                      have hfz95_4 := blk_frozen BK132.out 4
                      have hfz95_5 := blk_frozen BK132.out 5
                      go_wp2
                      repeat (go_quiet (fail); try go_wp2)
                      go_ret
                      exact ⟨by first | rfl | (simp [errW_none,errW_some] <;> rfl) | (simp [*,errW_none,errW_some] <;> rfl),by repeat (first | (with_reducible first | exact HB.out | apply below_alloc | apply pw_below_drewN | apply below_drew1 | refine below_set ?_ GE127.out | refine below_set ?_ GE132.out) | exact HB.out)⟩
                     ·rw [if_neg c93] at H
                      have c93b0 : decide (((rd_T80 l0_1 x4_3).f5) < ((rd_T80 l0_1 x4_3).f4)) = false := decide_eq_false c93
                      clear c93
                      by_cases c96 : ((rd_T80 l0_1 x4_3).f5) > 1000000
                      ·rw [if_pos c96] at H
                       have c96b0 : decide (1000000 < ((rd_T80 l0_1 x4_3).f5)) = true := decide_eq_true c96
                       clear c96
                       obtain rfl := Option.some.inj H
                       have hnb97 := NB132_127.out
                       have hnc97 := NB127_132.out
                       have hcz98_0 : wc.cell? ⟨gb132,0,none⟩ = some (.int .i64 ((rd_T80 l0_1 x4_3).f0)) := (blk_cell BK132.out 0).trans rfl
                       have hcz98_1 : wc.cell? ⟨gb132,1,none⟩ = some (.int .i64 ((rd_T80 l0_1 x4_3).f1)) := (blk_cell BK132.out 1).trans rfl
                       have hcz98_2 : wc.cell? ⟨gb132,2,none⟩ = some (.int .i64 ((rd_T80 l0_1 x4_3).f2)) := (blk_cell BK132.out 2).trans rfl
                       have hcz98_3 : wc.cell? ⟨gb132,3,none⟩ = some (.int .i64 ((rd_T80 l0_1 x4_3).f3)) := (blk_cell BK132.out 3).trans rfl
                       have hcz98_4 : wc.cell? ⟨gb132,4,none⟩ = some (.int .i64 ((rd_T80 l0_1 x4_3).f4)) := (blk_cell BK132.out 4).trans rfl
                       have hcz98_5 : wc.cell? ⟨gb132,5,none⟩ = some (.int .i64 ((rd_T80 l0_1 x4_3).f5)) := (blk_cell BK132.out 5).trans rfl
                       have hfz98_0 := blk_frozen BK132.out 0
                       have hfz98_1 := blk_frozen BK132.out 1
                       have hfz98_2 := blk_frozen BK132.out 2
                       have hfz98_3 := blk_frozen BK132.out 3
                       have hfz98_4 := blk_frozen BK132.out 4
                       have hfz98_5 := blk_frozen BK132.out 5
                       go_wp2
                       repeat (go_quiet (fail); try go_wp2)
                       go_ret
                       exact ⟨by first | rfl | (simp [errW_none,errW_some] <;> rfl) | (simp [*,errW_none,errW_some] <;> rfl),by repeat (first | (with_reducible first | exact HB.out | apply below_alloc | apply pw_below_drewN | apply below_drew1 | refine below_set ?_ GE127.out | refine below_set ?_ GE132.out) | exact HB.out)⟩
                      ·rw [if_neg c96] at H
                       have c96b0 : decide (1000000 < ((rd_T80 l0_1 x4_3).f5)) = false := decide_eq_false c96
                       clear c96
                       have H' := Aside0.mk H
                       clear H
                       have hnb99 := NB132_127.out
                       have hnc99 := NB127_132.out
                       have hcz100_0 : wc.cell? ⟨gb132,0,none⟩ = some (.int .i64 ((rd_T80 l0_1 x4_3).f0)) := (blk_cell BK132.out 0).trans rfl
                       have hcz100_1 : wc.cell? ⟨gb132,1,none⟩ = some (.int .i64 ((rd_T80 l0_1 x4_3).f1)) := (blk_cell BK132.out 1).trans rfl
                       have hcz100_2 : wc.cell? ⟨gb132,2,none⟩ = some (.int .i64 ((rd_T80 l0_1 x4_3).f2)) := (blk_cell BK132.out 2).trans rfl
                       have hcz100_3 : wc.cell? ⟨gb132,3,none⟩ = some (.int .i64 ((rd_T80 l0_1 x4_3).f3)) := (blk_cell BK132.out 3).trans rfl
                       have hcz100_4 : wc.cell? ⟨gb132,4,none⟩ = some (.int .i64 ((rd_T80 l0_1 x4_3).f4)) := (blk_cell BK132.out 4).trans rfl
                       have hcz100_5 : wc.cell? ⟨gb132,5,none⟩ = some (.int .i64 ((rd_T80 l0_1 x4_3).f5)) := (blk_cell BK132.out 5).trans rfl
                       have hfz100_0 := blk_frozen BK132.out 0
                       have hfz100_1 := blk_frozen BK132.out 1
                       have hfz100_2 := blk_frozen BK132.out 2
                       have hfz100_3 := blk_frozen BK132.out 3
                       have hfz100_4 := blk_frozen BK132.out 4
                       have hfz100_5 := blk_frozen BK132.out 5
                       go_wp2
                       repeat (go_quiet (fail); try go_wp2)
                       go_roundg kj22
                       case measure => have := HJ1.out; have := HK2.out; have := HK3.out; have := HJ22.out; omega
                       case rel => exact ⟨(wrap64 (x4_3 + 1)),(by first | rfl | (simp; done) | (simp [*]; done)),H',⟨by have := HJ1.out; have := HK2.out; have := HK3.out; have := HJ22.out; omega⟩,⟨by (with_reducible repeat (first | refine blk_drewN ?_ _ | refine blk_drew ?_ | refine blk_alloc ?_ _)); exact BK127.out⟩,⟨by repeat (first | (with_reducible first | exact HB.out | apply below_alloc | apply pw_below_drewN | apply below_drew1 | refine below_set ?_ GE127.out | refine below_set ?_ GE132.out) | exact HB.out)⟩⟩
                   ·rw [if_neg c89] at H
                    have c89b0 : (((rd_T80 l0_1 x4_3).f3) == 0) = false := beq_eq_false_iff_ne.mpr c89
                    have c89b1 : (((rd_T80 l0_1 x4_3).f3) != 0) = true := bne_iff_ne.mpr c89
                    obtain rfl := Option.some.inj H
                    have hnb101 := NB132_127.out
                    have hnc101 := NB127_132.out
                    have hcz102_0 : wc.cell? ⟨gb132,0,none⟩ = some (.int .i64 ((rd_T80 l0_1 x4_3).f0)) := (blk_cell BK132.out 0).trans rfl
                    have hcz102_1 : wc.cell? ⟨gb132,1,none⟩ = some (.int .i64 ((rd_T80 l0_1 x4_3).f1)) := (blk_cell BK132.out 1).trans rfl
                    have hcz102_2 : wc.cell? ⟨gb132,2,none⟩ = some (.int .i64 ((rd_T80 l0_1 x4_3).f2)) := (blk_cell BK132.out 2).trans rfl
                    have hcz102_3 : wc.cell? ⟨gb132,3,none⟩ = some (.int .i64 ((rd_T80 l0_1 x4_3).f3)) := (blk_cell BK132.out 3).trans rfl
                    have hcz102_4 : wc.cell? ⟨gb132,4,none⟩ = some (.int .i64 ((rd_T80 l0_1 x4_3).f4)) := (blk_cell BK132.out 4).trans rfl
                    have hcz102_5 : wc.cell? ⟨gb132,5,none⟩ = some (.int .i64 ((rd_T80 l0_1 x4_3).f5)) := (blk_cell BK132.out 5).trans rfl
                    have hfz102_0 := blk_frozen BK132.out 0
                    have hfz102_1 := blk_frozen BK132.out 1
                    have hfz102_2 := blk_frozen BK132.out 2
                    have hfz102_3 := blk_frozen BK132.out 3
                    have hfz102_4 := blk_frozen BK132.out 4
                    have hfz102_5 := blk_frozen BK132.out 5
                    go_wp2
                    repeat (go_quiet (fail); try go_wp2)
                    go_ret
                    exact ⟨by first | rfl | (simp [errW_none,errW_some] <;> rfl) | (simp [*,errW_none,errW_some] <;> rfl),by repeat (first | (with_reducible first | exact HB.out | apply below_alloc | apply pw_below_drewN | apply below_drew1 | refine below_set ?_ GE127.out | refine below_set ?_ GE132.out) | exact HB.out)⟩
                ·rw [if_neg c82] at H
                 have c82b0 : (((rd_T80 l0_1 x4_3).f1) == 3) = false := beq_eq_false_iff_ne.mpr c82
                 have c82b1 : (((rd_T80 l0_1 x4_3).f1) != 3) = true := bne_iff_ne.mpr c82
                 obtain rfl := Option.some.inj H
                 have hnb103 := NB132_127.out
                 have hnc103 := NB127_132.out
                 have hcz104_0 : wc.cell? ⟨gb132,0,none⟩ = some (.int .i64 ((rd_T80 l0_1 x4_3).f0)) := (blk_cell BK132.out 0).trans rfl
                 have hcz104_1 : wc.cell? ⟨gb132,1,none⟩ = some (.int .i64 ((rd_T80 l0_1 x4_3).f1)) := (blk_cell BK132.out 1).trans rfl
                 have hcz104_2 : wc.cell? ⟨gb132,2,none⟩ = some (.int .i64 ((rd_T80 l0_1 x4_3).f2)) := (blk_cell BK132.out 2).trans rfl
                 have hcz104_3 : wc.cell? ⟨gb132,3,none⟩ = some (.int .i64 ((rd_T80 l0_1 x4_3).f3)) := (blk_cell BK132.out 3).trans rfl
                 have hcz104_4 : wc.cell? ⟨gb132,4,none⟩ = some (.int .i64 ((rd_T80 l0_1 x4_3).f4)) := (blk_cell BK132.out 4).trans rfl
                 have hcz104_5 : wc.cell? ⟨gb132,5,none⟩ = some (.int .i64 ((rd_T80 l0_1 x4_3).f5)) := (blk_cell BK132.out 5).trans rfl
                 have hfz104_0 := blk_frozen BK132.out 0
                 have hfz104_1 := blk_frozen BK132.out 1
                 have hfz104_2 := blk_frozen BK132.out 2
                 have hfz104_3 := blk_frozen BK132.out 3
                 have hfz104_4 := blk_frozen BK132.out 4
                 have hfz104_5 := blk_frozen BK132.out 5
                 go_wp2
                 repeat (go_quiet (fail); try go_wp2)
                 go_ret
                 exact ⟨by first | rfl | (simp [errW_none,errW_some] <;> rfl) | (simp [*,errW_none,errW_some] <;> rfl),by repeat (first | (with_reducible first | exact HB.out | apply below_alloc | apply pw_below_drewN | apply below_drew1 | refine below_set ?_ GE127.out | refine below_set ?_ GE132.out) | exact HB.out)⟩
          ·rw [if_neg c22] at H
           exact absurd H (by simp)
         ·rw [if_neg c21] at H
          have c21b0 : decide (x4_3 < (l0_1.length : Int)) = false := decide_eq_false c21
          clear c21
          by_cases c105 : 0 < (l0_1.length : Int)
          ·rw [if_pos c105] at H
           have c105b0 : decide (0 < (l0_1.length : Int)) = true := decide_eq_true c105
           have c105b1 : decide (0 < l0_1.length) = true := decide_eq_true (by omega)
           clear c105
           obtain rfl := Option.some.inj H
           have hcz106_0 : wr.cell? ⟨gb127,0,none⟩ = some (.slice A0_0 l0_0.length c0_0) := (blk_cell BK127.out 0).trans rfl
           have hcz106_1 : wr.cell? ⟨gb127,1,none⟩ = some (.slice A0_1 l0_1.length c0_1) := (blk_cell BK127.out 1).trans rfl
           have hfz106_0 := blk_frozen BK127.out 0
           have hfz106_1 := blk_frozen BK127.out 1
           have p130 : 0 ≤ (0 : Int) := (by omega)
           have q130 : 0 < (l0_1.length : Int) := of_decide_eq_true (by first | (with_reducible assumption) | assumption)
           obtain ⟨ad130,e130,hx130_0,hx130_1,hx130_2,hx130_3,hx130_4,hx130_5⟩ := at_T80 HR0_1.out 0 p130 q130
           cases e130
           have qi130 : (0 < l0_1.length) = True := eq_true (by omega)
           (try rw [show ((0 : Int)).toNat = 0 from rfl] at hx130_0)
           (try rw [show 0 * 6 = 0 from rfl] at hx130_0)
           (try rw [Addr.add_zero'] at hx130_0)
           (try rw [show ((0 : Int)).toNat = 0 from rfl] at hx130_1)
           (try rw [show 0 * 6 = 0 from rfl] at hx130_1)
           (try rw [Addr.add_zero'] at hx130_1)
           (try rw [show ((0 : Int)).toNat = 0 from rfl] at hx130_2)
           (try rw [show 0 * 6 = 0 from rfl] at hx130_2)
           (try rw [Addr.add_zero'] at hx130_2)
           (try rw [show ((0 : Int)).toNat = 0 from rfl] at hx130_3)
           (try rw [show 0 * 6 = 0 from rfl] at hx130_3)
           (try rw [Addr.add_zero'] at hx130_3)
           (try rw [show ((0 : Int)).toNat = 0 from rfl] at hx130_4)
           (try rw [show 0 * 6 = 0 from rfl] at hx130_4)
           (try rw [Addr.add_zero'] at hx130_4)
           (try rw [show ((0 : Int)).toNat = 0 from rfl] at hx130_5)
           (try rw [show 0 * 6 = 0 from rfl] at hx130_5)
           (try rw [Addr.add_zero'] at hx130_5)
           replace hx130_0 := (HB.out.cell (World.block_lt_of_cell? w _ hx130_0)).trans hx130_0
           replace hx130_1 := (HB.out.cell (World.block_lt_of_cell? w _ hx130_1)).trans hx130_1
           replace hx130_2 := (HB.out.cell (World.block_lt_of_cell? w _ hx130_2)).trans hx130_2
           replace hx130_3 := (HB.out.cell (World.block_lt_of_cell? w _ hx130_3)).trans hx130_3
           replace hx130_4 := (HB.out.cell (World.block_lt_of_cell? w _ hx130_4)).trans hx130_4
           replace hx130_5 := (HB.out.cell (World.block_lt_of_cell? w _ hx130_5)).trans hx130_5
           replace p130 := eq_true p130
           replace q130 := eq_true q130
           go_wp2
           repeat (go_quiet (fail); try go_wp2)
           go_ret
           exact ⟨by first | rfl | (simp [errW_none,errW_some] <;> rfl) | (simp [*,errW_none,errW_some] <;> rfl),by repeat (first | (with_reducible first | exact HB.out | apply below_alloc | apply pw_below_drewN | apply below_drew1 | refine below_set ?_ GE127.out) | exact HB.out)⟩
          ·rw [if_neg c105] at H
           exact absurd H (by simp)

end Go.Proofs.Ytlfopemghafboaa.D
