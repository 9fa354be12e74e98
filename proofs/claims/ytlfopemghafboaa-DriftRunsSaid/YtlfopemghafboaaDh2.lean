/- Contracts of functions that the law reaches, each a walk through its code. No condition beyond each theorem's own hypotheses. -/
import Derived.Test.YtlfopemghafboaaDh1
import Derived.Deep.RegionWith
import Derived.WalkSpells
import Derived.Handy
namespace Go.Proofs.Ytlfopemghafboaa.D
open Go.RowKit Go.Proofs.YtlfopemghafboaaW.PrintWords Go.Proofs.YtlfopemghafboaaW.PrintLast Go.Proofs.YtlfopemghafboaaW.PrintMore
set_option linter.unusedVariables false
set_option linter.unusedSimpArgs false

theorem between_eq {a lo hi : Int} {b : Bool} (h : betweenB a lo hi = b) (w : World) : Calls Try.prog 59 #[.int .i64 a, .int .i64 lo, .int .i64 hi] w fun e w' => e = .returned (.bool b) ∧ w' = w := h ▸ between_any a lo hi w
/-- A plan in memory, at block g. -/
def PlanAt (w : World) (g : Nat) (R : List S42) (E : List S80) : Prop := ∃ A0 c0 A1 c1, w.heap[g]? = some (.cells #[.slice A0 R.length c0, .slice A1 E.length c1] 25 (0, 0)) ∧ Kd.C k42 w A0 R.length R ∧ Kd.C k80 w A1 E.length E ∧ R.length ≤ c0 ∧ E.length ≤ c1
theorem PlanAt.below {w w1 : World} {g : Nat} {R : List S42} {E : List S80} (h : PlanAt w g R E) (hb : Below w.heap.size w w1) : PlanAt w1 g R E := by
  obtain ⟨A0, c0, A1, c1, h1, h2, h3, h4, h5⟩ := h
  exact ⟨A0, c0, A1, c1, blk_below h1 hb, Kd.C_below h2 hb, Kd.C_below h3 hb, h4, h5⟩
def timerOK (E : List S80) (i : Int) (e : S80) : Bool := betweenB e.f2 0 (i - 1) && ((rd_T80 E e.f2).f0 == e.f0) && betweenB e.f3 0 1000000000000 && (e.f4 == 0) && (e.f5 == 0)
set_option maxHeartbeats 3200000 in
set_option maxRecDepth 100000 in
theorem timer_right (e : S80) (g : Nat) (R : List S42) (E : List S80) (i : Int) (hi0 : 0 ≤ i) (hi1 : i ≤ E.length) (hE : E.length ≤ 100) (w : World) (hP : PlanAt w g R E) : Calls Try.prog 115 #[.agg #[.int .i64 e.f0, .int .i64 e.f1, .int .i64 e.f2, .int .i64 e.f3, .int .i64 e.f4, .int .i64 e.f5], .pointer (some ⟨g, 0, none⟩), .int .i64 i] w fun e' w' => e' = .returned (.bool (timerOK E i e)) ∧ Below w.heap.size w w' := by
  obtain ⟨f0, f1, f2, f3, f4, f5⟩ := e
  unfold timerOK
  simp only
  cases hb1 : betweenB f2 0 (i - 1)
  · have C1 := Aside0.mk hb1
    have C3 := Aside0.mk hb1
    have HP := Aside0.mk hP
    clear hb1 hP
    go_enter Try.func115, Try.ntmps115
    go_wp2_with (first | ((with_reducible refine gate_dst (N := 3) rfl ?_); refine box_event ?hg (N := 3) ?hd (cs := #[.int .i64 f0, .int .i64 f1, .int .i64 f2, .int .i64 f3, .int .i64 f4, .int .i64 f5]) (t := 131) ?hr ?_; (case hd => rfl); (case hg => rfl); (case hr => first | (go_simp; done) | (go_simp; rfl)); intro gb hg w2 hbox hb; have BX := Aside0.mk hbox; have HB := Aside0.mk hb; clear hbox hb hg))
    obtain ⟨A0, c0, A1, c1, g1, g2, g3, g4, g5⟩ := HP.out.below HB.out
    have p1 : w2.cell? ⟨g, 1, none⟩ = some (.slice A1 E.length c1) := (blk_cell g1 1).trans rfl
    have x2 : w2.cell? ⟨gb, 2, none⟩ = some (.int .i64 f2) := (blk_cell BX.out 2).trans rfl
    clear g1 g2 g3 g4 g5
    go_quiet ((go_at_call 59; exact Calls.quiet_of_same (between_eq C1.out _)))
    go_wp2
    go_ret
    exact ⟨rfl, pw_below_drewN HB.out _⟩
  · have hbd : 0 ≤ f2 ∧ f2 ≤ i - 1 := by simpa [betweenB] using hb1
    obtain ⟨q0, q1⟩ := hbd
    have q2 : f2 < (E.length : Int) := by omega
    have hcase : (((rd_T80 E f2).f0 == f0) = false ∧ (true && ((rd_T80 E f2).f0 == f0) && betweenB f3 0 1000000000000 && (f4 == 0) && (f5 == 0)) = false) ∨ (((rd_T80 E f2).f0 == f0) = true ∧ betweenB f3 0 1000000000000 = false ∧ (true && ((rd_T80 E f2).f0 == f0) && betweenB f3 0 1000000000000 && (f4 == 0) && (f5 == 0)) = false) ∨ (((rd_T80 E f2).f0 == f0) = true ∧ betweenB f3 0 1000000000000 = true ∧ (f4 == 0) = false ∧ (true && ((rd_T80 E f2).f0 == f0) && betweenB f3 0 1000000000000 && (f4 == 0) && (f5 == 0)) = false) ∨ (((rd_T80 E f2).f0 == f0) = true ∧ betweenB f3 0 1000000000000 = true ∧ (f4 == 0) = true ∧ (f5 == 0) = false ∧ (true && ((rd_T80 E f2).f0 == f0) && betweenB f3 0 1000000000000 && (f4 == 0) && (f5 == 0)) = false) ∨ (((rd_T80 E f2).f0 == f0) = true ∧ betweenB f3 0 1000000000000 = true ∧ (f4 == 0) = true ∧ (f5 == 0) = true ∧ (true && ((rd_T80 E f2).f0 == f0) && betweenB f3 0 1000000000000 && (f4 == 0) && (f5 == 0)) = true) := by
      cases ((rd_T80 E f2).f0 == f0) <;> cases betweenB f3 0 1000000000000 <;> cases (f4 == 0) <;> cases (f5 == 0) <;> simp
    rcases hcase with ⟨k1, hv⟩ | ⟨k1, k2, hv⟩ | ⟨k1, k2, k3, hv⟩ | ⟨k1, k2, k3, k4, hv⟩ | ⟨k1, k2, k3, k4, hv⟩
    all_goals
      rw [hv]
      clear hv
      have C1 := Aside0.mk hb1
      have C3 := Aside0.mk hb1
      try (clear C3; have C3 := Aside0.mk k2; clear k2)
      have HP := Aside0.mk hP
      have Q2 := Aside0.mk q2
      have Q1 := Aside0.mk q1
      clear hb1 hP q2 q1
      go_enter Try.func115, Try.ntmps115
      go_wp2_with (first | ((with_reducible refine gate_dst (N := 3) rfl ?_); refine box_event ?hg (N := 3) ?hd (cs := #[.int .i64 f0, .int .i64 f1, .int .i64 f2, .int .i64 f3, .int .i64 f4, .int .i64 f5]) (t := 131) ?hr ?_; (case hd => rfl); (case hg => rfl); (case hr => first | (go_simp; done) | (go_simp; rfl)); intro gb hg w2 hbox hb; have BX := Aside0.mk hbox; have HB := Aside0.mk hb; clear hbox hb hg))
      obtain ⟨A0, c0, A1, c1, g1, g2, g3, g4, g5⟩ := HP.out.below HB.out
      obtain ⟨ad, e1, h0, _⟩ := at_T80 g3 f2 q0 Q2.out
      cases e1
      have p1 : w2.cell? ⟨g, 1, none⟩ = some (.slice (some ad) E.length c1) := (blk_cell g1 1).trans rfl
      have x0 : w2.cell? ⟨gb, 0, none⟩ = some (.int .i64 f0) := (blk_cell BX.out 0).trans rfl
      have x2 : w2.cell? ⟨gb, 2, none⟩ = some (.int .i64 f2) := (blk_cell BX.out 2).trans rfl
      have x3 : w2.cell? ⟨gb, 3, none⟩ = some (.int .i64 f3) := (blk_cell BX.out 3).trans rfl
      have x4 : w2.cell? ⟨gb, 4, none⟩ = some (.int .i64 f4) := (blk_cell BX.out 4).trans rfl
      have x5 : w2.cell? ⟨gb, 5, none⟩ = some (.int .i64 f5) := (blk_cell BX.out 5).trans rfl
      have q2 := Q2.out
      clear g1 g2 g3 g4 g5
      go_quiet (first | (go_at_call_of 59 f3; exact Calls.quiet_of_same (between_eq C3.out _)) | (go_at_call_of 59 f2; exact Calls.quiet_of_same (between_eq C1.out _)))
      go_wp2
      go_ret
      exact ⟨rfl, pw_below_drewN HB.out _⟩
end Go.Proofs.Ytlfopemghafboaa.D
