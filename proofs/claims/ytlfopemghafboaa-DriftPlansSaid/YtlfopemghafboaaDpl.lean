/- The plain law of DriftPlans: the law's printed function answers true for every plan and all times. -/
import Derived.Test.YtlfopemghafboaaDpp
import Derived.Test.YtlfopemghafboaaDx19
namespace Go.Proofs.Ytlfopemghafboaa.D
open Go.RowKit Go.Proofs.YtlfopemghafboaaW.PrintWords Go.Proofs.YtlfopemghafboaaW.PrintLast Go.Proofs.YtlfopemghafboaaW.PrintMore
set_option linter.unusedVariables false
set_option linter.unusedSimpArgs false
theorem sameInts_refl (l : List Int) (hl : l.length ≤ 1000000) : ∀ d i n : Nat, i + d = l.length → d + 1 ≤ n → rf_SameInts.l0 n l l (i : Int) = some true := by
  intro d
  induction d with
  | zero =>
    intro i n hi hn
    obtain ⟨m, rfl⟩ : ∃ m, n = m + 1 := ⟨n - 1, by omega⟩
    simp only [rf_SameInts.l0]
    rw [if_neg (by omega)]
  | succ d ih =>
    intro i n hi hn
    obtain ⟨m, rfl⟩ : ∃ m, n = m + 1 := ⟨n - 1, by omega⟩
    have e1 : wrap64 ((i : Int) + 1) = ((i + 1 : Nat) : Int) := by rw [wrap64_id' _ (by omega) (by omega)]; omega
    have IH := ih (i + 1) m (by omega) (by omega)
    simp only [rf_SameInts.l0]
    simp only [if_pos (show (i : Int) < (l.length : Int) by omega), if_pos (show (0 : Int) ≤ (i : Int) by omega), if_true, e1]
    exact IH
theorem sameBinds_refl (l : List S27) (hl : l.length ≤ 1000000) : ∀ d i n : Nat, i + d = l.length → d + 1 ≤ n → rf_SameBinds.l0 n l l (i : Int) = some true := by
  intro d
  induction d with
  | zero =>
    intro i n hi hn
    obtain ⟨m, rfl⟩ : ∃ m, n = m + 1 := ⟨n - 1, by omega⟩
    simp only [rf_SameBinds.l0]
    rw [if_neg (by omega)]
  | succ d ih =>
    intro i n hi hn
    obtain ⟨m, rfl⟩ : ∃ m, n = m + 1 := ⟨n - 1, by omega⟩
    have e1 : wrap64 ((i : Int) + 1) = ((i + 1 : Nat) : Int) := by rw [wrap64_id' _ (by omega) (by omega)]; omega
    have IH := ih (i + 1) m (by omega) (by omega)
    simp only [rf_SameBinds.l0]
    simp only [if_pos (show (i : Int) < (l.length : Int) by omega), if_pos (show (0 : Int) ≤ (i : Int) by omega), if_true, e1, beq_self_eq_true, Bool.not_true, Bool.or_false, Bool.false_eq_true, if_false]
    exact IH
theorem plans_true (R : List S42) (E : List S80) (ts : List Int) : lw_DriftPlans.f 32000 R E ts = some true := by
  unfold lw_DriftPlans.f lw_sane.f lw_small.f dr_Check.f rf_Check.f dr_CheckTimes.f rf_CheckTimes.f
  simp only [Option.bind_some, if_true, isPlan_val R E 32000 (by omega)]
  by_cases hs : (E.length : Int) ≤ 24
  · rw [decide_eq_true hs]
    simp only [if_true]
    cases hP : planOK R E
    · simp only [Bool.false_eq_true, if_false, Option.bind_some, if_true, bne_self_eq_false]
      rw [show (32000 : Nat) = 31999 + 1 from rfl]
      simp only [lw_DriftPlans.j0, Bool.false_eq_true, if_false]
      unfold dr_Readings.f rf_Readings.f
      rw [isPlan_val R E 31999 (by omega), hP]
      simp only [Bool.false_eq_true, if_false, Option.bind_some, if_true]
      rw [show (31999 : Nat) = 31998 + 1 from rfl]
      simp only [lw_DriftPlans.j1, Bool.false_eq_true, if_false]
      unfold dr_Binds.f rf_Binds.f
      rw [isPlan_val R E 31998 (by omega), hP]
      simp
    · have hK := (planOK_iff R E).1 hP
      have hl := rdL_len E E.length
      have hlen := hK.len
      have hb := bindsL_len hK
      have key : lw_DriftPlans.j0 32000 false R E = some true := by
        rw [show (32000 : Nat) = 31999 + 1 from rfl]
        simp only [lw_DriftPlans.j0, Bool.false_eq_true, if_false]
        unfold dr_Readings.f rf_Readings.f
        rw [isPlan_val R E 31999 (by omega), hP]
        simp only [if_true, Option.bind_some]
        rw [readings_val R E hK 31999 (by omega)]
        simp only [if_true, Option.bind_some]
        unfold rf_SameInts.f
        simp only [if_true]
        have q1 := sameInts_refl (rdL E E.length).1 (by omega) (rdL E E.length).1.length 0 31999 (by omega) (by omega)
        have q2 := sameInts_refl (rdL E E.length).2 (by omega) (rdL E E.length).2.length 0 31999 (by omega) (by omega)
        rw [show ((0 : Nat) : Int) = 0 from rfl] at q1 q2
        rw [q1]
        simp only [if_true, Option.bind_some]
        rw [q2]
        simp only [Option.bind_some, Bool.not_true]
        rw [show (31999 : Nat) = 31998 + 1 from rfl]
        simp only [lw_DriftPlans.j1, Bool.false_eq_true, if_false]
        unfold dr_Binds.f rf_Binds.f
        rw [isPlan_val R E 31998 (by omega), hP]
        simp only [if_true, Option.bind_some]
        rw [binds_val R E hK 31998 (by omega)]
        simp only [if_true, Option.bind_some]
        unfold rf_SameBinds.f
        simp only [if_true]
        have q3 := sameBinds_refl (bindsL R E) (by omega) (bindsL R E).length 0 31998 (by omega) (by omega)
        rw [show ((0 : Nat) : Int) = 0 from rfl] at q3
        rw [q3]
        simp
      simp only [if_true, Option.bind_some]
      rw [isRun_val R E hK ts 32000 (by omega)]
      cases isRunB R E ts <;> simp [key]
  · rw [decide_eq_false hs]
    simp only [Bool.false_eq_true, if_false]
end Go.Proofs.Ytlfopemghafboaa.D
