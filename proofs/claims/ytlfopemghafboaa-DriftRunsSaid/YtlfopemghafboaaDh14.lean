/- Contracts of functions that the law reaches, each a walk through its code. No condition beyond each theorem's own hypotheses. -/
import Derived.Test.YtlfopemghafboaaDh13
import Derived.Test.YtlfopemghafboaaDp0
import Derived.Test.YtlfopemghafboaaDh8
import Derived.WalkSpells
import Derived.Handy
import Derived.StillTailTactics
import Derived.IntWalk
import Derived.Deep.LoopGhost
import Derived.Deep.RegionWith
import Derived.Deep.RegionHeld3
import Derived.Shelf.Abstract
namespace Go.Proofs.Ytlfopemghafboaa.D
open Go.RowKit Go.Proofs.YtlfopemghafboaaW.PrintWords Go.Proofs.YtlfopemghafboaaW.PrintLast Go.Proofs.YtlfopemghafboaaW.PrintMore
set_option linter.unusedVariables false
set_option linter.unusedSimpArgs false
theorem circle_bs (R : List S42) (E : List S80) (w0 w : World) (v : Value) (hO : Out w0 w v (bindsL R E)) (hK : PlanOK R E) (out : List Int) (is : Bool) (hF : circleF (bindsL R E) E.length = some (out, is)) :
    Calls Try.prog 81 #[v, .int .i64 (E.length : Int)] w fun e' w' => ∃ v, e' = .returned (.tuple #[v, .bool is]) ∧ OutI w w' v out := by
  obtain ⟨A, c, rfl, _, hC⟩ := hO.reads
  exact circle_any A c (bindsL R E) E.length w hK.pos hK.len hC (by have := bindsL_len hK; omega) (fun i hi => in_rd (bindsL_in hK) i hi) out is hF
theorem ev_cell {w : World} {g : Nat} {R : List S42} {E : List S80} (h : PlanAt w g R E) : ∃ A1 c1, w.cell? ⟨g, 1, none⟩ = some (.slice A1 E.length c1) := by
  obtain ⟨A0, c0, A1, c1, hb, _⟩ := h
  exact ⟨A1, c1, (blk_cell hb 1).trans rfl⟩
set_option maxHeartbeats 3200000 in
set_option maxRecDepth 100000 in
theorem possible_any (g : Nat) (R : List S42) (E : List S80) (w : World) (hP : PlanAt w g R E) (hK : PlanOK R E) (out : List Int) (is : Bool) (hF : circleF (bindsL R E) E.length = some (out, is)) :
    Calls Try.prog 60 #[.pointer (some ⟨g, 0, none⟩)] w fun e w' => e = .returned (.bool (!is)) ∧ Below w.heap.size w w' := by
  have HP := Aside0.mk hP
  have HK := Aside0.mk hK
  have HF := Aside0.mk hF
  obtain ⟨A1, c1, x1⟩ := ev_cell hP
  clear hP hK hF
  go_enter Try.func60, Try.ntmps60
  go_wp2_with fail
  have HB := Aside0.mk (below_drew1 (Below.refl w.heap.size w))
  have hS0 : w.drew.cell? ⟨g, 1, none⟩ = some (.slice A1 E.length c1) := x1
  have HP0 := Aside0.mk (HP.out.below (below_drew1 (Below.refl w.heap.size w)))
  go_region_held3 (fun w' => w'.cell? ⟨g, 1, none⟩ = some (.slice A1 E.length c1)) ((first | exact hS0 | exact hS1 | exact hS2))
    ((first
      | (go_at_call 62; refine (binds_any g R E _ HP0.out HK.out.toEvsOK).mono ?_; rintro e w1 ⟨v1, rfl, hO⟩; have HO := Aside0.mk hO; have hS1 : w1.cell? ⟨g, 1, none⟩ = some (.slice A1 E.length c1) := (hO.2.cell (World.block_lt_of_cell? _ _ hS0)).trans hS0; have HB1 := Aside0.mk (below_step HB.out hO.2); clear hO)
      | (go_at_call 81; refine (circle_bs R E _ _ _ HO.out HK.out out is HF.out).mono ?_; rintro e w2 ⟨v2, rfl, hO2⟩; have HB2 := Aside0.mk (below_step HB1.out hO2.2); have hS2 : w2.cell? ⟨g, 1, none⟩ = some (.slice A1 E.length c1) := (hO2.2.cell (World.block_lt_of_cell? _ _ hS1)).trans hS1; clear hO2)))
  go_wp2_with fail
  go_ret
  exact ⟨rfl, HB2.out⟩
def timeBad (n : Int) : Bool := !betweenB n 0 1000000000000000
def bindBad (ts : List Int) (b : S27) : Bool := decide (b.f2 < wrap64 (rd ts b.f1 - rd ts b.f0))
def isRunB (R : List S42) (E : List S80) (ts : List Int) : Bool := decide (ts.length = E.length) && (rd ts 0 == 0) && !(ts.any timeBad) && !((bindsL R E).any (bindBad ts))
end Go.Proofs.Ytlfopemghafboaa.D
