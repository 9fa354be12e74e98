/- The plain law of DriftClocks: the printed pure functions of the program and of the reference answer alike. -/
import Derived.Test.YtlfopemghafboaaDx14
namespace Go.Proofs.Ytlfopemghafboaa.D
open Go.RowKit Go.Proofs.YtlfopemghafboaaW.PrintWords Go.Proofs.YtlfopemghafboaaW.PrintLast Go.Proofs.YtlfopemghafboaaW.PrintMore
set_option linter.unusedVariables false
set_option linter.unusedSimpArgs false
theorem wrap64_id (x : Int) (h0 : -9223372036854775808 ≤ x) (h1 : x ≤ 9223372036854775807) : wrap64 x = x := by unfold wrap64; omega
def upZ (n f : Int) : Int := (n + f - 1) / f
theorem upZ_zero {n f : Int} (hf : 0 < f) (h : n % f = 0) : upZ n f = n / f := by
  unfold upZ
  have e := Int.mul_ediv_add_emod n f
  rw [h, Int.add_zero] at e
  have e2 : n + f - 1 = (f - 1) + n / f * f := by rw [Int.mul_comm] at e; omega
  rw [e2, Int.add_mul_ediv_right _ _ (by omega), Int.ediv_eq_zero_of_lt (by omega) (by omega)]
  omega
theorem upZ_pos {n f : Int} (hf : 0 < f) (h : n % f ≠ 0) : upZ n f = n / f + 1 := by
  unfold upZ
  have e := Int.mul_ediv_add_emod n f
  have h0 := Int.emod_nonneg n (show f ≠ 0 by omega)
  have h1 := Int.emod_lt_of_pos n hf
  have e2 : n + f - 1 = (n % f - 1) + (n / f + 1) * f := by rw [Int.add_mul, Int.one_mul, Int.mul_comm]; omega
  rw [e2, Int.add_mul_ediv_right _ _ (by omega), Int.ediv_eq_zero_of_lt (by omega) (by omega)]
  omega
theorem ediv_bounds {n f : Int} (hn : 0 ≤ n) (hf : 1 ≤ f) : 0 ≤ n / f ∧ n / f ≤ n := ⟨Int.ediv_nonneg hn (by omega), Int.ediv_le_self _ hn⟩
theorem dr_up_val {n f : Int} (hn : 0 ≤ n) (hn1 : n ≤ 1000000000000000000) (hf : 1 ≤ f) (hf1 : f ≤ 1000000000000000) : dr_up.f n f = some (upZ n f) := by
  unfold dr_up.f
  rw [if_neg (by omega), wrap64_id (n + f) (by omega) (by omega), wrap64_id (n + f - 1) (by omega) (by omega), Int.tdiv_eq_ediv_of_nonneg (by omega)]
  have hb := ediv_bounds (n := n + f - 1) (f := f) (by omega) hf
  rw [wrap64_id _ (by omega) (by omega)]
  rfl
theorem rf_up_val {n f : Int} (hn : 0 ≤ n) (hn1 : n ≤ 1000000000000000000) (hf : 1 ≤ f) (hf1 : f ≤ 1000000000000000) : rf_up.f n f = some (upZ n f) := by
  unfold rf_up.f
  have hb := ediv_bounds (n := n) (f := f) hn hf
  rw [if_neg (by omega), Int.tmod_eq_emod_of_nonneg hn, Int.tdiv_eq_ediv_of_nonneg hn]
  split
  · rename_i h; rw [wrap64_id _ (by omega) (by omega), upZ_zero (by omega) h]
  · rename_i h; rw [wrap64_id (n / f) (by omega) (by omega), wrap64_id _ (by omega) (by omega), upZ_pos (by omega) h]
/-! ### Narrow -/
def rateB (s f : Int) : Bool := decide (1 ≤ s) && decide (s ≤ f) && decide (f ≤ 1000000)
theorem isRate_val (s f : Int) : dr_isRate.f s f = some (rateB s f) := by
  unfold dr_isRate.f rateB
  by_cases h1 : 1 ≤ s <;> by_cases h2 : s ≤ f <;> simp [h1, h2]
theorem isRate_val' (s f : Int) : rf_IsRate.f s f = some (rateB s f) := isRate_val s f
theorem between_val (a lo hi : Int) : dr_between.f a lo hi = some (decide (lo ≤ a ∧ a ≤ hi)) := by
  unfold dr_between.f
  by_cases h1 : lo ≤ a <;> simp [h1]
theorem rateB_iff {s f : Int} : rateB s f = true ↔ 1 ≤ s ∧ s ≤ f ∧ f ≤ 1000000 := by simp [rateB, and_assoc]
theorem narrow_j0 (k : Nat) (lo hi : Int) (b : Bool) (s f : Int) : dr_Narrow.j0 (k + 1) lo hi b s f = rf_Narrow.j0 (k + 1) lo hi b s f ∧ ∃ v, rf_Narrow.j0 (k + 1) lo hi b s f = some v := by
  refine ⟨rfl, ?_⟩
  simp only [rf_Narrow.j0]
  repeat' split
  all_goals exact ⟨_, rfl⟩
theorem narrow_eq (k : Nat) (s f lo hi : Int) : ∃ v, dr_Narrow.f (k + 1) s f lo hi = some v ∧ rf_Narrow.f (k + 1) s f lo hi = some v := by
  unfold dr_Narrow.f rf_Narrow.f
  rw [isRate_val, isRate_val']
  simp only [Option.bind_some, between_val]
  cases rateB s f
  · exact ⟨_, rfl, rfl⟩
  · simp only [if_true]
    have key : ∀ b, ∃ v, dr_Narrow.j0 (k + 1) lo hi b s f = some v ∧ rf_Narrow.j0 (k + 1) lo hi b s f = some v := fun b => by
      obtain ⟨e, v, hv⟩ := narrow_j0 k lo hi b s f
      exact ⟨v, e.trans hv, hv⟩
    by_cases h1 : lo < 0
    · rw [if_pos h1, if_neg (by simp; omega)]; exact key true
    · rw [if_neg h1]
      by_cases h2 : lo > 1000000
      · rw [if_pos h2, if_neg (by simp; omega)]; exact key true
      · rw [if_neg h2, if_pos (by simp; omega)]
        by_cases h3 : hi = -1
        · rw [if_pos h3, if_pos h3]; exact key false
        · rw [if_neg h3, if_neg h3]
          by_cases h4 : hi < lo
          · rw [if_pos h4, show (!decide (lo ≤ hi ∧ hi ≤ 1000000)) = true by simp; omega]; exact key true
          · rw [if_neg h4]
            by_cases h5 : hi > 1000000
            · rw [show (!decide (lo ≤ hi ∧ hi ≤ 1000000)) = true by simp; omega, show decide (hi > 1000000) = true by simp; omega]; exact key true
            · rw [show (!decide (lo ≤ hi ∧ hi ≤ 1000000)) = false by simp; omega, show decide (hi > 1000000) = false by simp; omega]; exact key false
/-! ### Real -/
theorem real_eq (k : Nat) (s f t : Int) : ∃ v, dr_Real.f s f t = some v ∧ rf_Real.f (k + 1) s f t = some v := by
  unfold dr_Real.f rf_Real.f
  rw [isRate_val, isRate_val']
  simp only [Option.bind_some, between_val]
  cases hr : rateB s f
  · exact ⟨_, rfl, rfl⟩
  · simp only [if_true]
    have hrr := rateB_iff.1 hr
    by_cases h1 : t < 0
    · rw [if_pos h1, if_neg (by simp; omega)]; exact ⟨_, rfl, by simp only [rf_Real.j0, if_true]⟩
    · rw [if_neg h1]
      by_cases h2 : t > 1000000000000
      · rw [if_neg (by simp; omega), show decide (t > 1000000000000) = true by simp; omega]; exact ⟨_, rfl, by simp only [rf_Real.j0, if_true]⟩
      · rw [if_pos (by simp; omega), show decide (t > 1000000000000) = false by simp; omega]
        simp only [rf_Real.j0, Bool.false_eq_true, if_false]
        rw [dr_up_val (by omega) (by omega) (by omega) (by omega), rf_up_val (by omega) (by omega) (by omega) (by omega)]
        simp only [Option.bind_some]
        have hs : ¬ s = 0 := by omega
        simp only [if_neg hs]
        split
        · exact ⟨_, rfl, rfl⟩
        · exact ⟨_, rfl, rfl⟩
/-! ### CheckClock -/
theorem clock_l (s f : Int) (l : List S82) (hl : l.length ≤ 9223372036854775807) : ∀ k : Nat, ∀ i : Nat, i ≤ l.length → dr_CheckClock.l0 k l l (l.length : Int) (i : Int) s f = rf_CheckClock.l0 k l (i : Int) s f := by
  intro k
  induction k using Nat.strongRecOn with
  | ind k ih =>
    intro i hi
    cases k with
    | zero => rfl
    | succ k =>
      simp only [dr_CheckClock.l0, rf_CheckClock.l0, between_val, Option.bind_some]
      by_cases hlt : (i : Int) < (l.length : Int)
      · simp only [if_pos hlt, if_pos (show (0 : Int) ≤ (i : Int) by omega)]
        have hj : ∀ b, dr_CheckClock.j2 k l (i : Int) l (l.length : Int) (i : Int) b s f (rd_T82 l (i : Int)).f0 (rd_T82 l (i : Int)).f1 = rf_CheckClock.j2 k l (i : Int) b s f := by
          intro b
          cases k with
          | zero => rfl
          | succ m =>
            simp only [dr_CheckClock.j2, rf_CheckClock.j2, between_val, Option.bind_some]
            cases b
            · simp only [Bool.false_eq_true, if_false]
              have e1 : wrap64 ((i : Int) + 1) = ((i + 1 : Nat) : Int) := by rw [wrap64_id _ (by omega) (by omega)]; omega
              have IH := ih m (by omega) (i + 1) (by omega)
              by_cases h0 : (i : Int) = 0
              · rw [if_pos h0, if_pos h0, e1, IH]
              · rw [if_neg h0, if_neg h0, if_pos (show (0 : Int) ≤ (i : Int) by omega), if_pos hlt]
                split
                · split
                  · split
                    · rfl
                    · rename_i hd
                      rw [e1, IH]
                      generalize wrap64 ((rd_T82 l ↑i).f1 - (rd_T82 l (wrap64 (↑i - 1))).f1) = n
                      generalize wrap64 (s * wrap64 ((rd_T82 l ↑i).f0 - (rd_T82 l (wrap64 (↑i - 1))).f0)) = a
                      generalize wrap64 (f * wrap64 ((rd_T82 l ↑i).f0 - (rd_T82 l (wrap64 (↑i - 1))).f0)) = b
                      by_cases q1 : n < a
                      · rw [if_pos q1, if_neg (by simp; omega)]
                      · rw [if_neg q1]
                        by_cases q2 : n > b
                        · rw [if_pos q2, if_neg (by simp; omega)]
                        · rw [if_neg q2, if_pos (by simp; omega)]
                  · rfl
                · rfl
            · rfl
        simp only [hj]
        generalize (rd_T82 l (i : Int)).f0 = x
        generalize (rd_T82 l (i : Int)).f1 = y
        by_cases h1 : x < 0
        · rw [if_pos h1, if_neg (by simp; omega)]
        · rw [if_neg h1]
          by_cases h2 : x > 1000000
          · rw [if_pos h2, if_neg (by simp; omega)]
          · rw [if_neg h2, if_pos (by simp; omega)]
            by_cases h3 : y < -1000000000000000
            · rw [if_pos h3, show (!decide (-1000000000000000 ≤ y ∧ y ≤ 1000000000000000)) = true by simp; omega]
            · rw [if_neg h3]
              congr 1
              by_cases h4 : y > 1000000000000000 <;> simp [h4] <;> omega
      · rw [if_neg hlt, if_neg hlt]
theorem clock_some (s f : Int) (l : List S82) (hl : l.length ≤ 9223372036854775807) : ∀ d : Nat, ∀ i : Nat, i ≤ l.length → l.length - i ≤ d → ∃ v, rf_CheckClock.l0 (2 * d + 1) l (i : Int) s f = some v := by
  intro d
  induction d with
  | zero =>
    intro i hi hd
    simp only [rf_CheckClock.l0]
    rw [if_neg (by omega)]
    exact ⟨_, rfl⟩
  | succ d ih =>
    intro i hi hd
    rw [show 2 * (d + 1) + 1 = (2 * d + 1 + 1) + 1 from by omega]
    simp only [rf_CheckClock.l0]
    by_cases hlt : (i : Int) < (l.length : Int)
    · rw [if_pos hlt, if_pos (by omega)]
      have hj : ∀ b, ∃ v, rf_CheckClock.j2 (2 * d + 1 + 1) l (i : Int) b s f = some v := by
        intro b
        simp only [rf_CheckClock.j2]
        cases b
        · simp only [Bool.false_eq_true, if_false]
          have e1 : wrap64 ((i : Int) + 1) = ((i + 1 : Nat) : Int) := by rw [wrap64_id _ (by omega) (by omega)]; omega
          obtain ⟨v, hv⟩ := ih (i + 1) (by omega) (by omega)
          by_cases h0 : (i : Int) = 0
          · rw [if_pos h0, e1]; exact ⟨v, hv⟩
          · have e2 : wrap64 ((i : Int) - 1) = (i : Int) - 1 := wrap64_id _ (by omega) (by omega)
            rw [if_neg h0, if_pos (show (0 : Int) ≤ (i : Int) by omega), if_pos hlt, if_pos (by rw [e2]; omega), if_pos (by rw [e2]; omega), e1, hv]
            repeat' split
            all_goals exact ⟨_, rfl⟩
        · exact ⟨_, rfl⟩
      repeat' split
      all_goals exact hj _
    · rw [if_neg hlt]
      exact ⟨_, rfl⟩
theorem clock_eq (s f : Int) (l : List S82) (hl : l.length ≤ 9223372036854775807) (d : Nat) (hd : l.length ≤ d) : ∃ v, dr_CheckClock.f (2 * d + 2) s f l = some v ∧ rf_CheckClock.f (2 * d + 2) s f l = some v := by
  unfold dr_CheckClock.f rf_CheckClock.f
  rw [isRate_val, isRate_val']
  simp only [Option.bind_some]
  have key : ∀ b, ∃ v, dr_CheckClock.j0 (2 * d + 2) l b s f = some v ∧ rf_CheckClock.j0 (2 * d + 2) l b s f = some v := by
    intro b
    rw [show 2 * d + 2 = (2 * d + 1) + 1 from rfl]
    simp only [dr_CheckClock.j0, rf_CheckClock.j0]
    cases b
    · simp only [Bool.false_eq_true, if_false]
      obtain ⟨v, hv⟩ := clock_some s f l hl d 0 (by omega) (by omega)
      have := clock_l s f l hl (2 * d + 1) 0 (by omega)
      exact ⟨v, this.trans hv, hv⟩
    · exact ⟨_, rfl, rfl⟩
  cases rateB s f
  · exact key true
  · exact key _
/-- The law answers true, with this much fuel. -/
theorem clocks_true (s f lo hi t : Int) (l : List S82) (hl : l.length ≤ 9223372036854775807) : lw_DriftClocks.f (2 * (l.length + 1) + 2) s f lo hi t l = some true := by
  unfold lw_DriftClocks.f lw_sane.f dr_CheckRate.f rf_CheckRate.f
  rw [isRate_val, isRate_val']
  simp only [Option.bind_some, if_true]
  obtain ⟨v, h1, h2⟩ := clock_eq s f l hl (l.length + 1) (by omega)
  rw [h1, h2]
  simp only [Option.bind_some]
  have key : lw_DriftClocks.j0 (2 * (l.length + 1) + 2) lo hi t (v != v) s f = some true := by
    have e : (v != v) = false := by simp
    rw [e, show 2 * (l.length + 1) + 2 = (2 * l.length + 1 + 1) + 1 + 1 from by omega]
    obtain ⟨v2, h3, h4⟩ := narrow_eq (2 * l.length + 1 + 1) s f lo hi
    obtain ⟨v3, h5, h6⟩ := real_eq (2 * l.length + 1) s f t
    have kj : ∀ b, b = false → lw_DriftClocks.j1 (2 * l.length + 1 + 1 + 1) t b s f = some true := by
      rintro b rfl
      simp only [lw_DriftClocks.j1, Bool.false_eq_true, if_false]
      rw [h5, h6]
      simp
    simp only [lw_DriftClocks.j0, Bool.false_eq_true, if_false]
    rw [h3, h4]
    simp [kj]
  cases rateB s f
  · simp only [Bool.false_eq_true, if_false, Option.bind_some, if_true]; exact key
  · simp only [if_true, Option.bind_some]; exact key
end Go.Proofs.Ytlfopemghafboaa.D
