/- Contracts of functions that the law reaches, each a walk through its code. No condition beyond each theorem's own hypotheses. -/
import Derived.Test.YtlfopemghafboaaDh13
import Derived.Test.YtlfopemghafboaaDp0
import Derived.Test.YtlfopemghafboaaDh8
import Derived.WalkSpells
import Derived.Handy
import Derived.StillTailTactics
import Derived.IntWalk
import Derived.Deep.LoopGhost
import Derived.Deep.RegionWith
import Derived.Deep.RegionHeld3
import Derived.Shelf.Abstract
namespace Go.Proofs.Ytlfopemghafboaa.D
open Go.RowKit Go.Proofs.YtlfopemghafboaaW.PrintWords Go.Proofs.YtlfopemghafboaaW.PrintLast Go.Proofs.YtlfopemghafboaaW.PrintMore
set_option linter.unusedVariables false
set_option linter.unusedSimpArgs false
theorem circle_bs (R : List S42) (E : List S80) (w0 w : World) (v : Value) (hO : Out w0 w v (bindsL R E)) (hK : PlanOK R E) (out : List Int) (is : Bool) (hF : circleF (bindsL R E) E.length = some (out, is)) :
    Calls Try.prog 81 #[v, .int .i64 (E.length : Int)] w fun e' w' => ∃ v, e' = .returned (.tuple #[v, .bool is]) ∧ OutI w w' v out := by
  obtain ⟨A, c, rfl, _, hC⟩ := hO.reads
  exact circle_any A c (bindsL R E) E.length w hK.pos hK.len hC (by have := bindsL_len hK; omega) (fun i hi => in_rd (bindsL_in hK) i hi) out is hF
theorem ev_cell {w : World} {g : Nat} {R : List S42} {E : List S80} (h : PlanAt w g R E) : ∃ A1 c1, w.cell? ⟨g, 1, none⟩ = some (.slice A1 E.length c1) := by
  obtain ⟨A0, c0, A1, c1, hb, _⟩ := h
  exact ⟨A1, c1, (blk_cell hb 1).trans rfl⟩
set_option maxHeartbeats 3200000 in
set_option maxRecDepth 100000 in
theorem possible_any (g : Nat) (R : List S42) (E : List S80) (w : World) (hP : PlanAt w g R E) (hK : PlanOK R E) (out : List Int) (is : Bool) (hF : circleF (bindsL R E) E.length = some (out, is)) :
    Calls Try.prog 60 #[.pointer (some ⟨g, 0, none⟩)] w fun e w' => e = .returned (.bool (!is)) ∧ Below w.heap.size w w' := by
  have HP := Aside0.mk hP
  have HK := Aside0.mk hK
  have HF := Aside0.mk hF
  obtain ⟨A1, c1, x1⟩ := ev_cell hP
  clear hP hK hF
  go_enter Try.func60, Try.ntmps60
  go_wp2_with fail
  have HB := Aside0.mk (below_drew1 (Below.refl w.heap.size w))
  have hS0 : w.drew.cell? ⟨g, 1, none⟩ = some (.slice A1 E.length c1) := x1
  have HP0 := Aside0.mk (HP.out.below (below_drew1 (Below.refl w.heap.size w)))
  go_region_held3 (fun w' => w'.cell? ⟨g, 1, none⟩ = some (.slice A1 E.length c1)) ((first | exact hS0 | exact hS1 | exact hS2))
    ((first
      | (go_at_call 62; refine (binds_any g R E _ HP0.out HK.out.toEvsOK).mono ?_; rintro e w1 ⟨v1, rfl, hO⟩; have HO := Aside0.mk hO; have hS1 : w1.cell? ⟨g, 1, none⟩ = some (.slice A1 E.length c1) := (hO.2.cell (World.block_lt_of_cell? _ _ hS0)).trans hS0; have HB1 := Aside0.mk (below_step HB.out hO.2); clear hO)
      | (go_at_call 81; refine (circle_bs R E _ _ _ HO.out HK.out out is HF.out).mono ?_; rintro e w2 ⟨v2, rfl, hO2⟩; have HB2 := Aside0.mk (below_step HB1.out hO2.2); have hS2 : w2.cell? ⟨g, 1, none⟩ = some (.slice A1 E.length c1) := (hO2.2.cell (World.block_lt_of_cell? _ _ hS1)).trans hS1; clear hO2)))
  go_wp2_with fail
  go_ret
  exact ⟨rfl, HB2.out⟩
theorem en90 (args : Array Value) (w : World) : (callFunc 90 args).run Try.prog w = .ok (.enter 90 args) w := enters_of Try.func90 (by kernel_rfl) rfl args w
theorem en92 (args : Array Value) (w : World) : (callFunc 92 args).run Try.prog w = .ok (.enter 92 args) w := enters_of Try.func92 (by kernel_rfl) rfl args w
def timeBad (n : Int) : Bool := !betweenB n 0 1000000000000000
def bindBad (ts : List Int) (b : S27) : Bool := decide (b.f2 < wrap64 (rd ts b.f1 - rd ts b.f0))
theorem run1_any (n : Int) (W : World) : Calls Try.prog 90 #[.int .i64 n] W fun e W' => e = .returned (.bool (timeBad n)) ∧ Below W.heap.size W W' := by
  go_enter Try.func90, Try.ntmps90
  go_wp2_with (go_at_call 59; refine (between_any _ _ _ _).mono ?_; rintro e w' ⟨rfl, rfl⟩)
  go_ret
  exact ⟨rfl, Below.refl _ _⟩
set_option maxHeartbeats 1600000 in
theorem run2_any (ts : List Int) (A : Option Addr) (c tb : Nat) (b : S27) (W : World) (hb_ : W.cell? ⟨tb, 0, none⟩ = some (.slice A ts.length c)) (hr : Kd.C (Kd.int .i64) W A ts.length ts) (h0 : 0 ≤ b.f0 ∧ b.f0 < ts.length) (h1 : 0 ≤ b.f1 ∧ b.f1 < ts.length) :
    Calls Try.prog 92 #[.agg #[.int .i64 b.f0, .int .i64 b.f1, .int .i64 b.f2], .pointer (some ⟨tb, 0, none⟩)] W fun e W' => e = .returned (.bool (bindBad ts b)) ∧ Below W.heap.size W W' := by
  obtain ⟨i0, i1⟩ := h0
  obtain ⟨i2, i3⟩ := h1
  have hm : ts.length ≤ 9223372036854775807 := hr.2.1
  obtain ⟨ad, e1, x0⟩ := Kd.at_int hr b.f0 i0 i1
  obtain ⟨ad', e2, x1⟩ := Kd.at_int hr b.f1 i2 i3
  cases e1
  cases e2
  obtain ⟨bf, bt, bm⟩ := b
  simp only at i0 i1 i2 i3 x0 x1
  clear hr
  go_enter Try.func92, Try.ntmps92
  go_wp2_with ((with_reducible refine gate_dst (N := 2) rfl ?_); refine box_event ?hg (N := 2) ?hd (cs := #[.int .i64 bf, .int .i64 bt, .int .i64 bm]) (t := 27) ?hr ?_; (case hd => rfl); (case hg => rfl); (case hr => first | (go_simp; done) | (go_simp; rfl)); intro gb hg w2 hbox hb; have HB := Aside0.mk hb; have cb0 : w2.cell? ⟨gb, 0, none⟩ = some (.int .i64 bf) := (blk_cell hbox 0).trans rfl; have cb1 : w2.cell? ⟨gb, 1, none⟩ = some (.int .i64 bt) := (blk_cell hbox 1).trans rfl; have cb2 : w2.cell? ⟨gb, 2, none⟩ = some (.int .i64 bm) := (blk_cell hbox 2).trans rfl; have y0 := (hb.cell (World.block_lt_of_cell? _ _ x0)).trans x0; have y1 := (hb.cell (World.block_lt_of_cell? _ _ x1)).trans x1; have yb := (hb.cell (World.block_lt_of_cell? _ _ hb_)).trans hb_; clear x0 x1 hb_; clear hbox hb hg)
  go_quiet (fail)
  have HB3 := Aside0.mk (below_step HB.out (pw_below_drewN (Below.refl _ w2) nq))
  go_wp2_with fail
  go_ret
  exact ⟨by first | rfl | (unfold bindBad; go_simp; done), HB3.out⟩
def isRunB (R : List S42) (E : List S80) (ts : List Int) : Bool := decide (ts.length = E.length) && (rd ts 0 == 0) && !(ts.any timeBad) && !((bindsL R E).any (bindBad ts))
theorem bindsBad_any (R : List S42) (E : List S80) (ts : List Int) (w W : World) (v : Value) (A : Option Addr) (c gb : Nat) (hO : Out w W v (bindsL R E)) (hK : PlanOK R E) (hL : ts.length = E.length) (hb : w.cell? ⟨gb, 0, none⟩ = some (.slice A ts.length c)) (hT : Kd.C (Kd.int .i64) w A ts.length ts) :
    Calls Try.prog 91 #[v, .func (.func 92) #[] #[.pointer (some ⟨gb, 0, none⟩)]] W fun e w' => e = .returned (.bool ((bindsL R E).any (bindBad ts))) ∧ Below w.heap.size w w' := by
  obtain ⟨A1, c1, rfl, _, hC⟩ := hO.reads
  refine (any_bind 92 en92 #[.pointer (some ⟨gb, 0, none⟩)] (bindBad ts) A1 c1 (bindsL R E) W hC (fun i h0 h1 W1 hW => ?_)).mono (fun e w' h => ⟨h.1, below_step hO.2 h.2⟩)
  have hin := in_rd (bindsL_in hK) i.toNat (by omega)
  rw [Int.toNat_of_nonneg h0] at hin
  have hw1 : Below w.heap.size w W1 := below_step hO.2 hW
  exact run2_any ts A c gb _ W1 ((hw1.cell (World.block_lt_of_cell? w _ hb)).trans hb) (Kd.C_below hT hw1) (by rw [hL]; exact hin.1) (by rw [hL]; exact hin.2)
set_option maxHeartbeats 3200000 in
set_option maxRecDepth 100000 in
theorem isRun_any (g : Nat) (R : List S42) (E : List S80) (A : Option Addr) (c : Nat) (ts : List Int) (w : World) (hP : PlanAt w g R E) (hK : PlanOK R E) (hT : Kd.C (Kd.int .i64) w A ts.length ts) :
    Calls Try.prog 77 #[.pointer (some ⟨g, 0, none⟩), .slice A ts.length c] w fun e w' => e = .returned (.bool (isRunB R E ts)) ∧ Below w.heap.size w w' := by
  have hm : ts.length ≤ 9223372036854775807 := hT.2.1
  have HP := Aside0.mk hP
  have HK := Aside0.mk hK
  have HT := Aside0.mk hT
  have HBL := Aside0.mk (bindsL_len hK)
  have hE1 := hK.len
  obtain ⟨A1, c1, x1⟩ := ev_cell hP
  by_cases hl : ts.length = E.length
  · have hlb : ((ts.length : Int) != (E.length : Int)) = false := by simp; omega
    have h0 : 0 < ts.length := by have := hK.pos; omega
    have h0' : (0 : Int) < (ts.length : Int) := by omega
    obtain ⟨ad, e1, x0⟩ := Kd.at_int hT 0 (by omega) h0'
    cases e1
    simp only [Int.toNat_zero, Addr.add_zero'] at x0
    have HL := Aside0.mk hl
    cases hz : (rd ts 0 == 0)
    · have hz' : (rd ts 0 != 0) = true := by rw [bne, hz]; rfl
      have hR : isRunB R E ts = false := by unfold isRunB; rw [hz]; simp
      rw [hR]
      clear hR hz hP hK hT hl
      go_enter Try.func77, Try.ntmps77
      go_wp2_with ((with_reducible refine gate_dst (N := 3) rfl ?_); refine box_event ?hg (N := 3) ?hd (cs := #[.slice (some ad) ts.length c]) (t := 28) ?hr ?_; (case hd => rfl); (case hg => rfl); (case hr => first | (go_simp; done) | (go_simp; rfl)); intro gb hg w2 hbox hb; have HB := Aside0.mk hb; have HBX := Aside0.mk hbox; have cb : w2.cell? ⟨gb, 0, none⟩ = some (.slice (some ad) ts.length c) := (blk_cell hbox 0).trans rfl; have y1 := (hb.cell (World.block_lt_of_cell? _ _ x1)).trans x1; have y0 := (hb.cell (World.block_lt_of_cell? _ _ x0)).trans x0; clear hbox hb hg)
      go_quiet (fail)
      have HB3 := Aside0.mk (below_step HB.out (pw_below_drewN (Below.refl _ w2) nq))
      go_wp2_with fail
      go_ret
      exact ⟨rfl, HB3.out⟩
    · have hz' : (rd ts 0 != 0) = false := by rw [bne, hz]; rfl
      cases hA : ts.any timeBad
      · have hR : isRunB R E ts = !((bindsL R E).any (bindBad ts)) := by unfold isRunB; rw [hz, hA]; simp [hl]
        rw [hR]
        have HA := Aside0.mk hA
        clear hR hz hP hK hT hA hl
        go_enter Try.func77, Try.ntmps77
        go_wp2_with ((with_reducible refine gate_dst (N := 3) rfl ?_); refine box_event ?hg (N := 3) ?hd (cs := #[.slice (some ad) ts.length c]) (t := 28) ?hr ?_; (case hd => rfl); (case hg => rfl); (case hr => first | (go_simp; done) | (go_simp; rfl)); intro gb hg w2 hbox hb; have HB := Aside0.mk hb; have HBX := Aside0.mk hbox; have cb : w2.cell? ⟨gb, 0, none⟩ = some (.slice (some ad) ts.length c) := (blk_cell hbox 0).trans rfl; have y1 := (hb.cell (World.block_lt_of_cell? _ _ x1)).trans x1; have y0 := (hb.cell (World.block_lt_of_cell? _ _ x0)).trans x0; clear hbox hb hg)
        have HT2 := Aside0.mk (Kd.C_below HT.out (below_drew1 HB.out))
        have hS0 : w2.drew.cell? ⟨g, 1, none⟩ = some (.slice A1 E.length c1) ∧ w2.drew.cell? ⟨gb, 0, none⟩ = some (.slice (some ad) ts.length c) ∧ w2.drew.cell? ad = some (.int .i64 (rd ts 0)) := ⟨y1, cb, y0⟩
        go_region_held3 (fun w' => w'.cell? ⟨g, 1, none⟩ = some (.slice A1 E.length c1) ∧ w'.cell? ⟨gb, 0, none⟩ = some (.slice (some ad) ts.length c) ∧ w'.cell? ad = some (.int .i64 (rd ts 0))) ((first | exact hS0 | exact hS1))
          ((first
          | (go_at_call 87; refine (any_int 90 en90 #[] timeBad _ c ts _ HT2.out (fun i _ _ W _ => by rw [Array.append_empty]; exact run1_any _ W)).mono ?_; rintro e w3 ⟨rfl, hb3⟩; rw [HA.out]; have HB3 := Aside0.mk hb3; have hS1 : w3.cell? ⟨g, 1, none⟩ = some (.slice A1 E.length c1) ∧ w3.cell? ⟨gb, 0, none⟩ = some (.slice (some ad) ts.length c) ∧ w3.cell? ad = some (.int .i64 (rd ts 0)) := ⟨(hb3.cell (World.block_lt_of_cell? _ _ hS0.1)).trans hS0.1, (hb3.cell (World.block_lt_of_cell? _ _ hS0.2.1)).trans hS0.2.1, (hb3.cell (World.block_lt_of_cell? _ _ hS0.2.2)).trans hS0.2.2⟩; clear hb3)))
        have HW3 := Aside0.mk (below_step (below_drew1 HB.out) HB3.out)
        have HS1 := Aside0.mk hS1
        have HC3 := Aside0.mk (Kd.C_below HT2.out HB3.out)
        clear hS0 hS1 y0 y1 cb hz' hlb x0 x1
        go_wp2_with (first
          | (go_at_call 62; refine (binds_any g R E _ (HP.out.below HW3.out) HK.out.toEvsOK).mono ?_; rintro e w4 ⟨v4, rfl, hO⟩; have HO := Aside0.mk hO; clear hO)
          | (go_at_call 91; refine (bindsBad_any R E ts w3 _ _ (some ad) c gb HO.out HK.out HL.out HS1.out.2.1 HC3.out).mono ?_; rintro e w5 ⟨rfl, hb5⟩; have HB5 := Aside0.mk (below_step HW3.out hb5); clear hb5))
        go_ret
        exact ⟨rfl, HB5.out⟩
      · have hR : isRunB R E ts = false := by unfold isRunB; rw [hA]; simp
        rw [hR]
        have HA := Aside0.mk hA
        clear hR hz hP hK hT hA hl
        go_enter Try.func77, Try.ntmps77
        go_wp2_with ((with_reducible refine gate_dst (N := 3) rfl ?_); refine box_event ?hg (N := 3) ?hd (cs := #[.slice (some ad) ts.length c]) (t := 28) ?hr ?_; (case hd => rfl); (case hg => rfl); (case hr => first | (go_simp; done) | (go_simp; rfl)); intro gb hg w2 hbox hb; have HB := Aside0.mk hb; have HBX := Aside0.mk hbox; have cb : w2.cell? ⟨gb, 0, none⟩ = some (.slice (some ad) ts.length c) := (blk_cell hbox 0).trans rfl; have y1 := (hb.cell (World.block_lt_of_cell? _ _ x1)).trans x1; have y0 := (hb.cell (World.block_lt_of_cell? _ _ x0)).trans x0; clear hbox hb hg)
        have HT2 := Aside0.mk (Kd.C_below HT.out (below_drew1 HB.out))
        have hS0 : w2.drew.cell? ⟨g, 1, none⟩ = some (.slice A1 E.length c1) ∧ w2.drew.cell? ⟨gb, 0, none⟩ = some (.slice (some ad) ts.length c) ∧ w2.drew.cell? ad = some (.int .i64 (rd ts 0)) := ⟨y1, cb, y0⟩
        go_region_held3 (fun w' => w'.cell? ⟨g, 1, none⟩ = some (.slice A1 E.length c1) ∧ w'.cell? ⟨gb, 0, none⟩ = some (.slice (some ad) ts.length c) ∧ w'.cell? ad = some (.int .i64 (rd ts 0))) ((first | exact hS0 | exact hS1))
          ((first
          | (go_at_call 87; refine (any_int 90 en90 #[] timeBad _ c ts _ HT2.out (fun i _ _ W _ => by rw [Array.append_empty]; exact run1_any _ W)).mono ?_; rintro e w3 ⟨rfl, hb3⟩; rw [HA.out]; have HB3 := Aside0.mk hb3; have hS1 : w3.cell? ⟨g, 1, none⟩ = some (.slice A1 E.length c1) ∧ w3.cell? ⟨gb, 0, none⟩ = some (.slice (some ad) ts.length c) ∧ w3.cell? ad = some (.int .i64 (rd ts 0)) := ⟨(hb3.cell (World.block_lt_of_cell? _ _ hS0.1)).trans hS0.1, (hb3.cell (World.block_lt_of_cell? _ _ hS0.2.1)).trans hS0.2.1, (hb3.cell (World.block_lt_of_cell? _ _ hS0.2.2)).trans hS0.2.2⟩; clear hb3)))
        go_wp2_with fail
        go_ret
        exact ⟨rfl, below_step (below_drew1 HB.out) HB3.out⟩
  · have hlb : ((ts.length : Int) != (E.length : Int)) = true := by simp; omega
    have hR : isRunB R E ts = false := by unfold isRunB; simp [hl]
    rw [hR]
    clear hR hP hK hT hl
    go_enter Try.func77, Try.ntmps77
    go_wp2_with ((with_reducible refine gate_dst (N := 3) rfl ?_); refine box_event ?hg (N := 3) ?hd (cs := #[.slice A ts.length c]) (t := 28) ?hr ?_; (case hd => rfl); (case hg => rfl); (case hr => first | (go_simp; done) | (go_simp; rfl)); intro gb hg w2 hbox hb; have HB := Aside0.mk hb; have HBX := Aside0.mk hbox; have cb : w2.cell? ⟨gb, 0, none⟩ = some (.slice A ts.length c) := (blk_cell hbox 0).trans rfl; have y1 := (hb.cell (World.block_lt_of_cell? _ _ x1)).trans x1; clear hbox hb hg)
    go_quiet (fail)
    have HB3 := Aside0.mk (below_step HB.out (pw_below_drewN (Below.refl _ w2) nq))
    go_wp2_with fail
    go_ret
    exact ⟨rfl, HB3.out⟩
end Go.Proofs.Ytlfopemghafboaa.D
