/- The plain law of DriftEither: the law's printed function answers true for every plan and all choices. No condition. -/
import Derived.Test.YtlfopemghafboaaDru
import Derived.Test.YtlfopemghafboaaDx23
namespace Go.Proofs.Ytlfopemghafboaa.D
open Go.RowKit Go.Proofs.YtlfopemghafboaaW.PrintWords Go.Proofs.YtlfopemghafboaaW.PrintLast Go.Proofs.YtlfopemghafboaaW.PrintMore
set_option linter.unusedVariables false
set_option linter.unusedSimpArgs false
theorem checkCircle_ok {R : List S42} {E : List S80} (hK : PlanOK R E) (h24 : E.length ≤ 24) (a : Int) (ps : List Int) (h : FC (bindsL R E) a a ps) (h1 : 1 ≤ ps.length) (h2 : ps.length ≤ 100) (hw : wsum (bindsL R E) ps < 0) : dr_CheckCircle.f R E ps = some 0 := by
  have hO := bindsL_ok0 hK h24
  unfold dr_CheckCircle.f
  rw [if_pos ((planOK_iff R E).2 hK), chainF_of hO.bd (by omega) (by omega) ps a a h h1 h2]
  simp [hw]
theorem checkTimes_ok {R : List S42} {E : List S80} (hK : PlanOK R E) (ts : List Int) (h : isRunB R E ts = true) : dr_CheckTimes.f R E ts = some 0 := by
  unfold dr_CheckTimes.f
  rw [if_pos ((planOK_iff R E).2 hK), if_pos h]
theorem either_main {R : List S42} {E : List S80} (hK : PlanOK R E) (h24 : E.length ≤ 24) (ch : List Int) (n : Nat) : lw_DriftEither.j0 (n + 1 + 1 + 1) ch false R E = some true := by
  obtain ⟨rs, ran, r1, r2⟩ := run_api hK h24 ch
  rcases circle_api hK h24 with ⟨⟨ps, a, c1, c2, c3, c4, c5⟩, g1, g2, _⟩ | ⟨c1, ⟨ts, g1, g2, _⟩, _, _⟩
  · have hran : ran = false := by
      cases ran with
      | false => rfl
      | true => exact absurd ((isRun_iff hK h24 _).1 (r2 rfl)).2.2.2 (g2 _)
    simp only [lw_DriftEither.j0, Bool.false_eq_true, if_false, c1, g1, Option.bind_some, if_true]
    simp only [lw_DriftEither.j1, Bool.false_eq_true, if_false, checkCircle_ok hK h24 a ps c2 c3 (by omega) c5, Option.bind_some, if_true, show (true == false) = false from rfl]
    simp only [lw_DriftEither.j2, Bool.false_eq_true, if_false, r1, hran, Option.bind_some, if_true]
  · simp only [lw_DriftEither.j0, Bool.false_eq_true, if_false, c1, g1, Option.bind_some, if_true]
    simp only [lw_DriftEither.j1, Bool.false_eq_true, if_false, checkTimes_ok hK ts g2, Option.bind_some, if_true, show (false == true) = false from rfl, bne_self_eq_false]
    simp only [lw_DriftEither.j2, Bool.false_eq_true, if_false, r1, Option.bind_some, if_true]
    cases ran with
    | false => simp
    | true => simp [checkTimes_ok hK rs (r2 rfl)]
theorem either_true (R : List S42) (E : List S80) (ch : List Int) : lw_DriftEither.f 1000 R E ch = some true := by
  have skip : lw_DriftEither.j0 1000 ch true R E = some true := by
    rw [show (1000 : Nat) = 999 + 1 from rfl]
    simp only [lw_DriftEither.j0, if_true]
  unfold lw_DriftEither.f lw_sane.f lw_small.f
  simp only [Option.bind_some, if_true, isPlan_val R E 1000 (by omega), skip]
  by_cases hs : (E.length : Int) ≤ 24
  · rw [decide_eq_true hs]
    simp only [if_true]
    cases hP : planOK R E with
    | false => exact skip
    | true => exact either_main ((planOK_iff R E).1 hP) (by omega) ch 997
  · rw [decide_eq_false hs]
    simp
end Go.Proofs.Ytlfopemghafboaa.D
