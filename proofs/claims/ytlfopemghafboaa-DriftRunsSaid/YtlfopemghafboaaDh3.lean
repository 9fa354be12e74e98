/- Contracts of functions that the law reaches, each a walk through its code. No condition beyond each theorem's own hypotheses. -/
import Derived.Test.YtlfopemghafboaaDh2
import Derived.WalkSpells
import Derived.Handy
import Derived.Deep.RegionWith
namespace Go.Proofs.Ytlfopemghafboaa.D
open Go.RowKit Go.Proofs.YtlfopemghafboaaW.PrintWords Go.Proofs.YtlfopemghafboaaW.PrintLast Go.Proofs.YtlfopemghafboaaW.PrintMore
set_option linter.unusedVariables false
set_option linter.unusedSimpArgs false

def demOK (n : Nat) (d : S56) : Bool := betweenB d.f0 0 ((n : Int) - 1) && betweenB d.f1 0 ((n : Int) - 1) && betweenB d.f2 0 1000000 && ((d.f3 == -1) || betweenB d.f3 d.f2 1000000)
set_option maxHeartbeats 3200000 in
set_option maxRecDepth 100000 in
theorem isDemand_any (d : S56) (g : Nat) (R : List S42) (E : List S80) (hE : E.length ≤ 100) (w : World) (hP : PlanAt w g R E) : Calls Try.prog 69 #[.pointer (some ⟨g, 0, none⟩), .agg #[.int .i64 d.f0, .int .i64 d.f1, .int .i64 d.f2, .int .i64 d.f3]] w fun e' w' => e' = .returned (.bool (demOK E.length d)) ∧ Below w.heap.size w w' := by
  obtain ⟨f0, f1, f2, f3⟩ := d
  unfold demOK
  simp only
  have hcase : (betweenB f0 0 ((E.length : Int) - 1) = false ∧ (betweenB f0 0 ((E.length : Int) - 1) && betweenB f1 0 ((E.length : Int) - 1) && betweenB f2 0 1000000 && ((f3 == -1) || betweenB f3 f2 1000000)) = false) ∨ (betweenB f0 0 ((E.length : Int) - 1) = true ∧ betweenB f1 0 ((E.length : Int) - 1) = false ∧ (betweenB f0 0 ((E.length : Int) - 1) && betweenB f1 0 ((E.length : Int) - 1) && betweenB f2 0 1000000 && ((f3 == -1) || betweenB f3 f2 1000000)) = false) ∨ (betweenB f0 0 ((E.length : Int) - 1) = true ∧ betweenB f1 0 ((E.length : Int) - 1) = true ∧ betweenB f2 0 1000000 = false ∧ (betweenB f0 0 ((E.length : Int) - 1) && betweenB f1 0 ((E.length : Int) - 1) && betweenB f2 0 1000000 && ((f3 == -1) || betweenB f3 f2 1000000)) = false) ∨ (betweenB f0 0 ((E.length : Int) - 1) = true ∧ betweenB f1 0 ((E.length : Int) - 1) = true ∧ betweenB f2 0 1000000 = true ∧ (f3 == -1) = true ∧ (betweenB f0 0 ((E.length : Int) - 1) && betweenB f1 0 ((E.length : Int) - 1) && betweenB f2 0 1000000 && ((f3 == -1) || betweenB f3 f2 1000000)) = true) ∨ (betweenB f0 0 ((E.length : Int) - 1) = true ∧ betweenB f1 0 ((E.length : Int) - 1) = true ∧ betweenB f2 0 1000000 = true ∧ (f3 == -1) = false ∧ betweenB f3 f2 1000000 = false ∧ (betweenB f0 0 ((E.length : Int) - 1) && betweenB f1 0 ((E.length : Int) - 1) && betweenB f2 0 1000000 && ((f3 == -1) || betweenB f3 f2 1000000)) = false) ∨ (betweenB f0 0 ((E.length : Int) - 1) = true ∧ betweenB f1 0 ((E.length : Int) - 1) = true ∧ betweenB f2 0 1000000 = true ∧ (f3 == -1) = false ∧ betweenB f3 f2 1000000 = true ∧ (betweenB f0 0 ((E.length : Int) - 1) && betweenB f1 0 ((E.length : Int) - 1) && betweenB f2 0 1000000 && ((f3 == -1) || betweenB f3 f2 1000000)) = true) := by
    cases betweenB f0 0 ((E.length : Int) - 1) <;> cases betweenB f1 0 ((E.length : Int) - 1) <;> cases betweenB f2 0 1000000 <;> cases (f3 == -1) <;> cases betweenB f3 f2 1000000 <;> simp
  rcases hcase with ⟨kA, hv⟩ | ⟨kA, kB, hv⟩ | ⟨kA, kB, kC, hv⟩ | ⟨kA, kB, kC, kD, hv⟩ | ⟨kA, kB, kC, kD, kF, hv⟩ | ⟨kA, kB, kC, kD, kF, hv⟩
  all_goals
    rw [hv]
    clear hv
    have CA := Aside0.mk kA
    clear kA
    try (have CB := Aside0.mk kB; clear kB)
    try (have CC := Aside0.mk kC; clear kC)
    try (have CF := Aside0.mk kF; clear kF)
    have HP := Aside0.mk hP
    clear hP
    go_enter Try.func69, Try.ntmps69
    go_wp2_with (first | ((with_reducible refine gate_dst (N := 3) rfl ?_); refine box_event ?hg (N := 3) ?hd (cs := #[.int .i64 f0, .int .i64 f1, .int .i64 f2, .int .i64 f3]) (t := 56) ?hr ?_; (case hd => rfl); (case hg => rfl); (case hr => first | (go_simp; done) | (go_simp; rfl)); intro gb hg w2 hbox hb; have BX := Aside0.mk hbox; have HB := Aside0.mk hb; clear hbox hb hg))
    obtain ⟨A0, c0, A1, c1, g1, g2, g3, g4, g5⟩ := HP.out.below HB.out
    have p1 : w2.cell? ⟨g, 1, none⟩ = some (.slice A1 E.length c1) := (blk_cell g1 1).trans rfl
    have x0 : w2.cell? ⟨gb, 0, none⟩ = some (.int .i64 f0) := (blk_cell BX.out 0).trans rfl
    have x1 : w2.cell? ⟨gb, 1, none⟩ = some (.int .i64 f1) := (blk_cell BX.out 1).trans rfl
    have x2 : w2.cell? ⟨gb, 2, none⟩ = some (.int .i64 f2) := (blk_cell BX.out 2).trans rfl
    have x3 : w2.cell? ⟨gb, 3, none⟩ = some (.int .i64 f3) := (blk_cell BX.out 3).trans rfl
    clear g1 g2 g3 g4 g5
    go_quiet (first | (go_at_call_of 59 f3; exact Calls.quiet_of_same (between_eq CF.out _)) | (go_at_call_of 59 f2; exact Calls.quiet_of_same (between_eq CC.out _)) | (go_at_call_of 59 f1; exact Calls.quiet_of_same (between_eq CB.out _)) | (go_at_call_of 59 f0; exact Calls.quiet_of_same (between_eq CA.out _)))
    go_wp2
    go_ret
    exact ⟨rfl, pw_below_drewN HB.out _⟩
end Go.Proofs.Ytlfopemghafboaa.D
