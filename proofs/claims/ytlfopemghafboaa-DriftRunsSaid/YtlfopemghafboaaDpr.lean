/- The printed pure functions of the reference's readings and up say what the program's contracts say. No condition beyond each theorem's own hypotheses. -/
import Derived.Test.YtlfopemghafboaaDpq
import Derived.Test.YtlfopemghafboaaDx4
namespace Go.Proofs.Ytlfopemghafboaa.D
open Go.RowKit Go.Proofs.YtlfopemghafboaaW.PrintWords Go.Proofs.YtlfopemghafboaaW.PrintLast Go.Proofs.YtlfopemghafboaaW.PrintMore
set_option linter.unusedVariables false
set_option linter.unusedSimpArgs false
/-! ### readings -/
theorem readings_l0 (R : List S42) (E : List S80) (hE : E.length ≤ 100) (ht : ∀ i : Nat, i < E.length → (rd_T80 E i).f1 = 2 → 0 ≤ (rd_T80 E i).f2 ∧ (rd_T80 E i).f2 < i) : ∀ d i n : Nat, i + d = E.length → d + 1 ≤ n →
    rf_readings.l0 n (rdL E i).1 (rdL E i).2 (i : Int) R E = some ((rdL E E.length).1, (rdL E E.length).2) := by
  intro d
  induction d with
  | zero =>
    intro i n hi hn
    obtain ⟨m, rfl⟩ : ∃ m, n = m + 1 := ⟨n - 1, by omega⟩
    have : i = E.length := by omega
    subst this
    simp only [rf_readings.l0]
    rw [if_neg (by omega)]
  | succ d ih =>
    intro i n hi hn
    obtain ⟨m, rfl⟩ : ∃ m, n = m + 1 := ⟨n - 1, by omega⟩
    have hl := rdL_len E i
    have e1 : wrap64 ((i : Int) + 1) = ((i + 1 : Nat) : Int) := by rw [wrap64_id' _ (by omega) (by omega)]; omega
    have IH := ih (i + 1) m (by omega) (by omega)
    simp only [rf_readings.l0]
    rw [if_pos (by omega), if_pos (by omega)]
    by_cases h2 : (rd_T80 E (i : Int)).f1 = 2
    · have hb := ht i (by omega) h2
      rw [if_pos h2, if_pos hb.1, if_pos (by omega), if_pos (by omega), if_pos (by omega), if_pos (by omega), e1]
      have e : rdL E (i + 1) = ((rdL E i).1 ++ [rd (rdL E i).1 (rd_T80 E i).f2], (rdL E i).2 ++ [wrap64 (rd (rdL E i).2 (rd_T80 E i).f2 + (rd_T80 E i).f3)]) := by rw [rdL, if_pos h2]
      rw [e] at IH
      exact IH
    · rw [if_neg h2, if_pos (by omega), if_pos (by omega), e1]
      have e : rdL E (i + 1) = ((rdL E i).1 ++ [(i : Int)], (rdL E i).2 ++ [0]) := by rw [rdL, if_neg h2]
      rw [e] at IH
      exact IH
theorem readings_val (R : List S42) (E : List S80) (hK : PlanOK R E) (n : Nat) (hn : 101 ≤ n) : rf_readings.f n R E = some ((rdL E E.length).1, (rdL E E.length).2) :=
  readings_l0 R E hK.len hK.timer E.length 0 n (by omega) (by have := hK.len; omega)
theorem rf_up_val {n f : Int} (hn : 0 ≤ n) (hn1 : n ≤ 1000000000000000000) (hf : 1 ≤ f) (hf1 : f ≤ 1000000000000000) : rf_up.f n f = some (upZ n f) := by
  unfold rf_up.f
  have hb := ediv_bounds (n := n) (f := f) hn hf
  rw [if_neg (by omega), Int.tmod_eq_emod_of_nonneg hn, Int.tdiv_eq_ediv_of_nonneg hn]
  split
  · rename_i h; rw [wrap64_id' _ (by omega) (by omega), upZ_zero (by omega) h]
  · rename_i h; rw [wrap64_id' (n / f) (by omega) (by omega), wrap64_id' _ (by omega) (by omega), upZ_pos (by omega) h]
theorem up_same {n f : Int} (hn : 0 ≤ n) (hn1 : n ≤ 1000000000000000000) (hf : 1 ≤ f) (hf1 : f ≤ 1000000000000000) : rf_up.f n f = some (upR n f) := by
  rw [upR_val hn hn1 hf hf1, rf_up_val hn hn1 hf hf1]
end Go.Proofs.Ytlfopemghafboaa.D
