/- The plain law of DriftPlans: the printed pure functions of the reference say what the program's contracts say. -/
import Derived.Test.YtlfopemghafboaaDp0
import Derived.Test.YtlfopemghafboaaDx3
import Derived.Test.YtlfopemghafboaaDx4
import Derived.Test.YtlfopemghafboaaDx5
import Derived.Test.YtlfopemghafboaaDx8
import Derived.Test.YtlfopemghafboaaDh14
namespace Go.Proofs.Ytlfopemghafboaa.D
open Go.RowKit Go.Proofs.YtlfopemghafboaaW.PrintWords Go.Proofs.YtlfopemghafboaaW.PrintLast Go.Proofs.YtlfopemghafboaaW.PrintMore
set_option linter.unusedVariables false
set_option linter.unusedSimpArgs false
theorem wrap64_id' (x : Int) (h0 : -9223372036854775808 ≤ x) (h1 : x ≤ 9223372036854775807) : wrap64 x = x := by unfold wrap64; omega
theorem ev_step (R : List S42) (E : List S80) (i n : Nat) (hi : i < E.length) (hE : E.length ≤ 100) (e : S80) (b : Bool) (hb : b = !(decide (0 ≤ e.f0) && decide (e.f0 < (R.length : Int)))) :
    rf_IsPlan.j3 (n + 1) (i : Int) b R E e.f0 e.f1 e.f2 e.f3 e.f4 e.f5 = if evOK R E i e = true then rf_IsPlan.l1 n ((i + 1 : Nat) : Int) R E else some false := by
  have e1 : wrap64 ((i : Int) + 1) = ((i + 1 : Nat) : Int) := by rw [wrap64_id' _ (by omega) (by omega)]; omega
  simp only [rf_IsPlan.j3, e1]
  generalize rf_IsPlan.l1 n ((i + 1 : Nat) : Int) R E = X
  unfold evOK kindOK rightB firstOK timerOK postOK betweenB
  obtain ⟨f0, f1, f2, f3, f4, f5⟩ := e
  simp only at hb ⊢
  by_cases hp : 0 ≤ f0 ∧ f0 < (R.length : Int)
  · have hb' : b = false := by rw [hb]; simp [hp.1, hp.2]
    have hpl : (decide (0 ≤ f0) && decide (f0 ≤ (R.length : Int) - 1)) = true := by simp; omega
    rw [hb', hpl]
    simp only [Bool.false_eq_true, if_false]
    by_cases k1 : f1 = 1
    · simp only [k1, if_true]
      by_cases a2 : f2 = 0 <;> by_cases a3 : f3 = 0 <;> by_cases a4 : f4 = 0 <;> by_cases a5 : f5 = 0 <;> simp [a2, a3, a4, a5]
    · by_cases k2 : f1 = 2
      · subst k2
        simp only [show ¬ (2 : Int) = 1 by decide, if_false, if_true]
        by_cases a2 : f2 < 0
        · rw [if_pos a2, if_neg (by simp; omega)]
        · rw [if_neg a2]
          by_cases a3 : f2 ≥ (i : Int)
          · rw [if_pos a3, if_neg (by simp; omega)]
          · rw [if_neg a3, if_pos (by omega), if_pos (by omega)]
            by_cases a4 : (rd_T80 E f2).f0 = f0
            · rw [if_pos a4]
              by_cases a5 : f3 < 0
              · rw [if_pos a5, if_neg (by simp; omega)]
              · rw [if_neg a5]
                by_cases a6 : f3 > 1000000000000
                · rw [if_pos a6, if_neg (by simp; omega)]
                · rw [if_neg a6]
                  by_cases a7 : f4 = 0
                  · rw [if_pos a7]
                    by_cases a8 : f5 = 0
                    · rw [if_pos a8, if_pos (by simp [a4, a7, a8]; omega)]
                    · rw [if_neg a8, if_neg (by simp [a8])]
                  · rw [if_neg a7, if_neg (by simp [a7])]
            · rw [if_neg a4, if_neg (by simp [a4])]
      · by_cases k3 : f1 = 3
        · subst k3
          simp only [show ¬ (3 : Int) = 1 by decide, show ¬ (3 : Int) = 2 by decide, if_false, if_true]
          by_cases a2 : f2 < 0
          · rw [if_pos a2, if_neg (by simp; omega)]
          · rw [if_neg a2]
            by_cases a3 : f2 ≥ (i : Int)
            · rw [if_pos a3, if_neg (by simp; omega)]
            · rw [if_neg a3]
              by_cases a4 : f3 = 0
              · rw [if_pos a4]
                by_cases a5 : f4 < 0
                · rw [if_pos a5, if_neg (by simp; omega)]
                · rw [if_neg a5]
                  by_cases a6 : f5 < f4
                  · rw [if_pos a6, if_neg (by simp; omega)]
                  · rw [if_neg a6]
                    by_cases a7 : f5 > 1000000
                    · rw [if_pos a7, if_neg (by simp; omega)]
                    · rw [if_neg a7, if_pos (by simp [a4]; omega)]
              · rw [if_neg a4, if_neg (by simp [a4])]
        · rw [if_neg k1, if_neg k2, if_neg k3, if_neg (by simp [k1, k2, k3])]
  · have hb' : b = true := by rw [hb]; simp; omega
    have hpl : (decide (0 ≤ f0) && decide (f0 ≤ (R.length : Int) - 1)) = false := by simp; omega
    rw [hb', hpl]
    simp
open Classical in
theorem plan_l1 (R : List S42) (E : List S80) (hE : E.length ≤ 100) (hE0 : 0 < E.length) : ∀ d i n : Nat, i ≤ E.length → E.length - i ≤ d → 2 * d + 1 ≤ n →
    rf_IsPlan.l1 n (i : Int) R E = some (decide (∀ j : Nat, i ≤ j → j < E.length → evOK R E j (rd_T80 E j) = true) && ((rd_T80 E 0).f1 == 1)) := by
  intro d
  induction d with
  | zero =>
    intro i n hi hd hn
    obtain ⟨m, rfl⟩ : ∃ m, n = m + 1 := ⟨n - 1, by omega⟩
    simp only [rf_IsPlan.l1]
    rw [if_neg (by omega), if_pos (by omega), decide_eq_true (by intro j h1 h2; omega)]
    rfl
  | succ d ih =>
    intro i n hi hd hn
    obtain ⟨m, rfl⟩ : ∃ m, n = m + 2 := ⟨n - 2, by omega⟩
    simp only [rf_IsPlan.l1]
    by_cases hlt : i < E.length
    · rw [if_pos (by omega), if_pos (by omega)]
      have hs := fun b hb => ev_step R E i m hlt hE (rd_T80 E i) b hb
      have IH := ih (i + 1) m (by omega) (by omega) (by omega)
      have fin : (if evOK R E i (rd_T80 E i) = true then rf_IsPlan.l1 m ((i + 1 : Nat) : Int) R E else some false) = some (decide (∀ j : Nat, i ≤ j → j < E.length → evOK R E j (rd_T80 E j) = true) && ((rd_T80 E 0).f1 == 1)) := by
        by_cases hok : evOK R E i (rd_T80 E i) = true
        · rw [if_pos hok, IH]
          congr 2
          apply decide_eq_decide.2
          constructor
          · intro h j h1 h2
            rcases Nat.lt_or_ge i j with h3 | h3
            · exact h j (by omega) h2
            · have : j = i := by omega
              rw [this]; exact hok
          · intro h j h1 h2
            exact h j (by omega) h2
        · rw [if_neg hok, decide_eq_false (fun h => hok (h i (Nat.le_refl _) hlt))]
          rfl
      by_cases hp : (rd_T80 E (i : Int)).f0 < 0
      · rw [if_pos hp, hs true (by simp; omega), fin]
      · rw [if_neg hp, hs _ (by
          by_cases h2 : (rd_T80 E (i : Int)).f0 ≥ (R.length : Int)
          · rw [decide_eq_true h2]; simp; omega
          · rw [decide_eq_false h2]; simp; omega), fin]
    · rw [if_neg (by omega), if_pos (by omega), decide_eq_true (by intro j h1 h2; omega)]
      rfl
open Classical in
theorem plan_l0 (R : List S42) (E : List S80) (hR : R.length ≤ 32) (hE : E.length ≤ 100) (hE0 : 0 < E.length) : ∀ d i n : Nat, i ≤ R.length → R.length - i ≤ d → d + 2 * E.length + 2 ≤ n →
    rf_IsPlan.l0 n (i : Int) R E = some (decide (∀ j : Nat, i ≤ j → j < R.length → rateOK (rd_T42 R j) = true) && (decide (∀ j : Nat, 0 ≤ j → j < E.length → evOK R E j (rd_T80 E j) = true) && ((rd_T80 E 0).f1 == 1))) := by
  intro d
  induction d with
  | zero =>
    intro i n hi hd hn
    obtain ⟨m, rfl⟩ : ∃ m, n = m + 1 := ⟨n - 1, by omega⟩
    simp only [rf_IsPlan.l0]
    rw [if_neg (by omega), decide_eq_true (p := ∀ j : Nat, i ≤ j → j < R.length → rateOK (rd_T42 R j) = true) (by intro j h1 h2; omega), Bool.true_and]
    exact plan_l1 R E hE hE0 E.length 0 m (by omega) (by omega) (by omega)
  | succ d ih =>
    intro i n hi hd hn
    obtain ⟨m, rfl⟩ : ∃ m, n = m + 1 := ⟨n - 1, by omega⟩
    simp only [rf_IsPlan.l0]
    by_cases hlt : i < R.length
    · have e1 : wrap64 ((i : Int) + 1) = ((i + 1 : Nat) : Int) := by rw [wrap64_id' _ (by omega) (by omega)]; omega
      have hv : rf_IsRate.f (rd_T42 R (i : Int)).f0 (rd_T42 R (i : Int)).f1 = some (rateOK (rd_T42 R i)) := by
        unfold rf_IsRate.f rateOK
        by_cases h1 : 1 ≤ (rd_T42 R (i : Int)).f0 <;> by_cases h2 : (rd_T42 R (i : Int)).f0 ≤ (rd_T42 R (i : Int)).f1 <;> simp [h1, h2]
      rw [if_pos (by omega), if_pos (by omega), hv, e1]
      simp only [Option.bind_some]
      by_cases hok : rateOK (rd_T42 R (i : Int)) = true
      · rw [if_pos hok, ih (i + 1) m (by omega) (by omega) (by omega)]
        congr 2
        apply decide_eq_decide.2
        constructor
        · intro h j h1 h2
          rcases Nat.lt_or_ge i j with h3 | h3
          · exact h j (by omega) h2
          · have : j = i := by omega
            rw [this]; exact hok
        · intro h j h1 h2
          exact h j (by omega) h2
      · rw [if_neg hok, decide_eq_false (p := ∀ j : Nat, i ≤ j → j < R.length → rateOK (rd_T42 R j) = true) (fun h => hok (h i (Nat.le_refl _) hlt))]
        rfl
    · rw [if_neg (by omega), decide_eq_true (p := ∀ j : Nat, i ≤ j → j < R.length → rateOK (rd_T42 R j) = true) (by intro j h1 h2; omega), Bool.true_and]
      exact plan_l1 R E hE hE0 E.length 0 m (by omega) (by omega) (by omega)
open Classical in
theorem isPlan_val (R : List S42) (E : List S80) (n : Nat) (hn : 300 ≤ n) : rf_IsPlan.f n R E = some (planOK R E) := by
  obtain ⟨m, rfl⟩ : ∃ m, n = m + 1 := ⟨n - 1, by omega⟩
  have bad : betweenB R.length 1 32 = false ∨ betweenB E.length 1 100 = false → planOK R E = false := by
    intro h
    unfold planOK
    rcases h with h | h <;> rw [h] <;> simp
  have j0t : rf_IsPlan.j0 (m + 1) true R E = some false := by simp only [rf_IsPlan.j0, if_true]
  unfold rf_IsPlan.f
  by_cases h1 : (R.length : Int) < 1
  · rw [if_pos h1, j0t, bad (Or.inl (by simp [betweenB]; omega))]
  · rw [if_neg h1]
    by_cases h2 : (R.length : Int) > 32
    · rw [if_pos h2, j0t, bad (Or.inl (by simp [betweenB]; omega))]
    · rw [if_neg h2]
      by_cases h3 : (E.length : Int) < 1
      · rw [if_pos h3, j0t, bad (Or.inr (by simp [betweenB]; omega))]
      · rw [if_neg h3]
        by_cases h4 : (E.length : Int) > 100
        · rw [decide_eq_true h4, j0t, bad (Or.inr (by simp [betweenB]; omega))]
        · rw [decide_eq_false h4]
          simp only [rf_IsPlan.j0, Bool.false_eq_true, if_false]
          have := plan_l0 R E (by omega) (by omega) (by omega) R.length 0 m (by omega) (by omega) (by omega)
          rw [show ((0 : Nat) : Int) = 0 from rfl] at this
          rw [this]
          unfold planOK
          have b1 : betweenB R.length 1 32 = true := by simp [betweenB]; omega
          have b2 : betweenB E.length 1 100 = true := by simp [betweenB]; omega
          rw [b1, b2]
          have b3 : (R.any fun r => !rateOK r) = !decide (∀ j : Nat, 0 ≤ j → j < R.length → rateOK (rd_T42 R j) = true) := by
            by_cases h : ∀ j : Nat, 0 ≤ j → j < R.length → rateOK (rd_T42 R j) = true
            · rw [decide_eq_true h, Bool.not_true, List.any_eq_false]
              intro r hr
              obtain ⟨i, hi, rfl⟩ := List.getElem_of_mem hr
              have h1 := h i (by omega) hi
              have e : rd_T42 R (i : Int) = R[i] := by simp [rd_T42, List.getD_eq_getElem?_getD, List.getElem?_eq_getElem hi]
              rw [e] at h1
              simp [h1]
            · rw [decide_eq_false h, Bool.not_false, List.any_eq_true]
              simp only [Nat.zero_le, forall_const, Classical.not_forall] at h
              obtain ⟨i, hi, h1⟩ := h
              have e : rd_T42 R (i : Int) = R[i] := by simp [rd_T42, List.getD_eq_getElem?_getD, List.getElem?_eq_getElem hi]
              rw [e] at h1
              exact ⟨R[i], List.getElem_mem hi, by simpa using h1⟩
          have b4 : evsOK R E = decide (∀ j : Nat, 0 ≤ j → j < E.length → evOK R E j (rd_T80 E j) = true) := by
            unfold evsOK
            by_cases h : ∀ j : Nat, 0 ≤ j → j < E.length → evOK R E j (rd_T80 E j) = true
            · rw [decide_eq_true h, List.all_eq_true]
              intro x hx
              exact h x (by omega) (List.mem_range.1 hx)
            · rw [decide_eq_false h, List.all_eq_false]
              simp only [Nat.zero_le, forall_const, Classical.not_forall] at h
              obtain ⟨i, hi, h1⟩ := h
              exact ⟨i, List.mem_range.2 hi, h1⟩
          rw [b3, b4, Bool.not_not]
          generalize decide (∀ j : Nat, 0 ≤ j → j < R.length → rateOK (rd_T42 R j) = true) = x
          generalize decide (∀ j : Nat, 0 ≤ j → j < E.length → evOK R E j (rd_T80 E j) = true) = y
          generalize ((rd_T80 E 0).f1 == 1) = z
          cases x <;> cases y <;> cases z <;> rfl
/-! ### readings -/
theorem readings_l0 (R : List S42) (E : List S80) (hE : E.length ≤ 100) (ht : ∀ i : Nat, i < E.length → (rd_T80 E i).f1 = 2 → 0 ≤ (rd_T80 E i).f2 ∧ (rd_T80 E i).f2 < i) : ∀ d i n : Nat, i + d = E.length → d + 1 ≤ n →
    rf_readings.l0 n (rdL E i).1 (rdL E i).2 (i : Int) R E = some ((rdL E E.length).1, (rdL E E.length).2) := by
  intro d
  induction d with
  | zero =>
    intro i n hi hn
    obtain ⟨m, rfl⟩ : ∃ m, n = m + 1 := ⟨n - 1, by omega⟩
    have : i = E.length := by omega
    subst this
    simp only [rf_readings.l0]
    rw [if_neg (by omega)]
  | succ d ih =>
    intro i n hi hn
    obtain ⟨m, rfl⟩ : ∃ m, n = m + 1 := ⟨n - 1, by omega⟩
    have hl := rdL_len E i
    have e1 : wrap64 ((i : Int) + 1) = ((i + 1 : Nat) : Int) := by rw [wrap64_id' _ (by omega) (by omega)]; omega
    have IH := ih (i + 1) m (by omega) (by omega)
    simp only [rf_readings.l0]
    rw [if_pos (by omega), if_pos (by omega)]
    by_cases h2 : (rd_T80 E (i : Int)).f1 = 2
    · have hb := ht i (by omega) h2
      rw [if_pos h2, if_pos hb.1, if_pos (by omega), if_pos (by omega), if_pos (by omega), if_pos (by omega), e1]
      have e : rdL E (i + 1) = ((rdL E i).1 ++ [rd (rdL E i).1 (rd_T80 E i).f2], (rdL E i).2 ++ [wrap64 (rd (rdL E i).2 (rd_T80 E i).f2 + (rd_T80 E i).f3)]) := by rw [rdL, if_pos h2]
      rw [e] at IH
      exact IH
    · rw [if_neg h2, if_pos (by omega), if_pos (by omega), e1]
      have e : rdL E (i + 1) = ((rdL E i).1 ++ [(i : Int)], (rdL E i).2 ++ [0]) := by rw [rdL, if_neg h2]
      rw [e] at IH
      exact IH
theorem readings_val (R : List S42) (E : List S80) (hK : PlanOK R E) (n : Nat) (hn : 101 ≤ n) : rf_readings.f n R E = some ((rdL E E.length).1, (rdL E E.length).2) :=
  readings_l0 R E hK.len hK.timer E.length 0 n (by omega) (by have := hK.len; omega)
def upZ (n f : Int) : Int := (n + f - 1) / f
theorem upZ_zero {n f : Int} (hf : 0 < f) (h : n % f = 0) : upZ n f = n / f := by
  unfold upZ
  have e := Int.mul_ediv_add_emod n f
  rw [h, Int.add_zero] at e
  have e2 : n + f - 1 = (f - 1) + n / f * f := by rw [Int.mul_comm] at e; omega
  rw [e2, Int.add_mul_ediv_right _ _ (by omega), Int.ediv_eq_zero_of_lt (by omega) (by omega)]
  omega
theorem upZ_pos {n f : Int} (hf : 0 < f) (h : n % f ≠ 0) : upZ n f = n / f + 1 := by
  unfold upZ
  have e := Int.mul_ediv_add_emod n f
  have h0 := Int.emod_nonneg n (show f ≠ 0 by omega)
  have h1 := Int.emod_lt_of_pos n hf
  have e2 : n + f - 1 = (n % f - 1) + (n / f + 1) * f := by rw [Int.add_mul, Int.one_mul, Int.mul_comm]; omega
  rw [e2, Int.add_mul_ediv_right _ _ (by omega), Int.ediv_eq_zero_of_lt (by omega) (by omega)]
  omega
theorem ediv_bounds {n f : Int} (hn : 0 ≤ n) (hf : 1 ≤ f) : 0 ≤ n / f ∧ n / f ≤ n := ⟨Int.ediv_nonneg hn (by omega), Int.ediv_le_self _ hn⟩
theorem upR_val {n f : Int} (hn : 0 ≤ n) (hn1 : n ≤ 1000000000000000000) (hf : 1 ≤ f) (hf1 : f ≤ 1000000000000000) : upR n f = upZ n f := by
  unfold upR
  rw [wrap64_id' (n + f) (by omega) (by omega), wrap64_id' (n + f - 1) (by omega) (by omega), Int.tdiv_eq_ediv_of_nonneg (by omega)]
  have hb := ediv_bounds (n := n + f - 1) (f := f) (by omega) hf
  rw [wrap64_id' _ (by omega) (by omega)]
  rfl
theorem rf_up_val {n f : Int} (hn : 0 ≤ n) (hn1 : n ≤ 1000000000000000000) (hf : 1 ≤ f) (hf1 : f ≤ 1000000000000000) : rf_up.f n f = some (upZ n f) := by
  unfold rf_up.f
  have hb := ediv_bounds (n := n) (f := f) hn hf
  rw [if_neg (by omega), Int.tmod_eq_emod_of_nonneg hn, Int.tdiv_eq_ediv_of_nonneg hn]
  split
  · rename_i h; rw [wrap64_id' _ (by omega) (by omega), upZ_zero (by omega) h]
  · rename_i h; rw [wrap64_id' (n / f) (by omega) (by omega), wrap64_id' _ (by omega) (by omega), upZ_pos (by omega) h]
theorem up_same {n f : Int} (hn : 0 ≤ n) (hn1 : n ≤ 1000000000000000000) (hf : 1 ≤ f) (hf1 : f ≤ 1000000000000000) : rf_up.f n f = some (upR n f) := by
  rw [upR_val hn hn1 hf hf1, rf_up_val hn hn1 hf hf1]
/-! ### the ticks are small -/
theorem rd_append_lt (xs ys : List Int) (j : Nat) (hj : j < xs.length) : rd (xs ++ ys) j = rd xs j := by
  simp [rd, List.getD_eq_getElem?_getD, List.getElem?_append_left hj]
theorem rd_append_last (xs : List Int) (y : Int) : rd (xs ++ [y]) (xs.length : Int) = y := by
  simp [rd, List.getD_eq_getElem?_getD]
theorem ticks_small (R : List S42) (E : List S80) (hK : PlanOK R E) : ∀ n : Nat, n ≤ E.length → ∀ j : Nat, j < n → 0 ≤ rd (rdL E n).2 j ∧ rd (rdL E n).2 j ≤ 1000000000000 * (n : Int) := by
  intro n
  induction n with
  | zero => intro _ j hj; omega
  | succ n ih =>
    intro hn j hj
    have hl := (rdL_len E n).2
    have IH := ih (by omega)
    have hlen := hK.len
    rw [rdL]
    by_cases h2 : (rd_T80 E (n : Int)).f1 = 2
    · rw [if_pos h2]
      have hb := hK.ev2 n (by omega) h2
      simp only
      rcases Nat.lt_or_ge j n with h | h
      · rw [rd_append_lt _ _ j (by omega)]
        have := IH j h
        omega
      · have hjn : j = n := by omega
        have e : (j : Int) = ((rdL E n).2.length : Int) := by omega
        rw [e, rd_append_last]
        have hq := IH (rd_T80 E (n : Int)).f2.toNat (by omega)
        rw [Int.toNat_of_nonneg hb.1.1] at hq
        rw [wrap64_id' _ (by omega) (by omega)]
        omega
    · rw [if_neg h2]
      simp only
      rcases Nat.lt_or_ge j n with h | h
      · rw [rd_append_lt _ _ j (by omega)]
        have := IH j h
        omega
      · have e : (j : Int) = ((rdL E n).2.length : Int) := by omega
        rw [e, rd_append_last]
        omega
/-! ### binds -/
theorem binds_l3 (R : List S42) (E : List S80) (hE : E.length ≤ 100) (B : List S27) (hB : B.length ≤ 30000) : ∀ d j n : Nat, j + 1 + d = E.length → d + 1 ≤ n →
    rf_binds.l3 n (B ++ lastBs j) ((j + 1 : Nat) : Int) R E = some (B ++ lastBs (E.length - 1)) := by
  intro d
  induction d with
  | zero =>
    intro j n hj hn
    obtain ⟨m, rfl⟩ : ∃ m, n = m + 1 := ⟨n - 1, by omega⟩
    simp only [rf_binds.l3]
    rw [if_neg (by omega), show E.length - 1 = j from by omega]
  | succ d ih =>
    intro j n hj hn
    obtain ⟨m, rfl⟩ : ∃ m, n = m + 1 := ⟨n - 1, by omega⟩
    have e1 : wrap64 (((j + 1 : Nat) : Int) + 1) = ((j + 1 + 1 : Nat) : Int) := by rw [wrap64_id' _ (by omega) (by omega)]; omega
    have IH := ih (j + 1) m (by omega) (by omega)
    rw [lastBs_succ, ← List.append_assoc] at IH
    simp only [rf_binds.l3]
    rw [if_pos (by omega), if_pos (by rw [List.length_append, lastBs_len]; omega), e1]
    exact IH
theorem binds_l2 (R : List S42) (E : List S80) (hK : PlanOK R E) (fs ts : List Int) (hf : fs.length = E.length) (ht : ts.length = E.length) (hT : ∀ j : Nat, j < E.length → 0 ≤ rd ts j ∧ rd ts j ≤ 100000000000000) (B : List S27) (hB : B.length ≤ 30000) (e : Nat) (he : e < E.length) :
    ∀ d k n : Nat, e + 1 + k + d = E.length → d ≤ n → rf_binds.l2 (n + 1) (B ++ prRow R E fs ts e k) fs ts (e : Int) ((e + 1 + k : Nat) : Int) R E = rf_binds.l1 (n - d) (B ++ prRow R E fs ts e (E.length - (e + 1))) fs ts ((e + 1 : Nat) : Int) R E := by
  intro d
  have hlen := hK.len
  have e0 : wrap64 ((e : Int) + 1) = ((e + 1 : Nat) : Int) := by rw [wrap64_id' _ (by omega) (by omega)]; omega
  induction d with
  | zero =>
    intro k n hk hn
    simp only [rf_binds.l2]
    rw [if_neg (by omega), e0, show E.length - (e + 1) = k from by omega, Nat.sub_zero]
  | succ d ih =>
    intro k n hk hn
    obtain ⟨m, rfl⟩ : ∃ m, n = m + 1 := ⟨n - 1, by omega⟩
    have e1 : wrap64 (((e + 1 + k : Nat) : Int) + 1) = ((e + 1 + (k + 1) : Nat) : Int) := by rw [wrap64_id' _ (by omega) (by omega)]; omega
    have IH := ih (k + 1) m (by omega) (by omega)
    rw [show m + 1 - (d + 1) = m - d from by omega]
    rw [prRow_succ, ← List.append_assoc] at IH
    have hpl := hK.place e he
    have hr := hK.rates (rd_T80 E (e : Int)).f0 hpl.1 hpl.2
    have hte := hT e he
    have htf := hT (e + 1 + k) (by omega)
    have hrow : (prRow R E fs ts e k).length ≤ 200 := by
      have h1 : ∀ q : Nat, (prRow R E fs ts e q).length ≤ 2 * q := by
        intro q
        induction q with
        | zero => simp [prRow]
        | succ q ihq => rw [prRow_succ, List.length_append]; have := pairOne_len R E fs ts e (e + 1 + q); omega
      have := h1 k
      omega
    rw [rf_binds.l2]
    generalize hf2 : ((e + 1 + k : Nat) : Int) = f at *
    rw [if_pos (by omega), if_pos (by omega), if_pos (by omega), if_pos (by omega), if_pos (by omega)]
    unfold pairOne at IH
    rw [hf2] at IH
    by_cases hs : rd fs (e : Int) = rd fs f
    · rw [if_pos hs, if_pos (by omega), if_pos (by omega)]
      rw [if_pos hs] at IH
      by_cases hlt : rd ts f < rd ts (e : Int)
      · rw [if_pos hlt, if_pos (by omega), if_pos hpl.1, if_pos hpl.2, if_neg (by omega)]
        rw [if_pos hlt] at IH
        have hx : wrap64 (rd ts (e : Int) - rd ts f) = rd ts (e : Int) - rd ts f := wrap64_id' _ (by omega) (by omega)
        rw [hx] at IH ⊢
        rw [up_same (by omega) (by omega) (by omega) (by omega)]
        simp only [Option.bind_some]
        rw [if_pos (by simp; omega), e1]
        unfold pairAB at IH
        rw [hf2] at IH
        exact IH
      · rw [if_neg hlt, if_pos (by omega), if_pos hpl.1, if_pos hpl.2, if_neg (by omega)]
        rw [if_neg hlt] at IH
        have hx : wrap64 (rd ts f - rd ts (e : Int)) = rd ts f - rd ts (e : Int) := wrap64_id' _ (by omega) (by omega)
        rw [hx] at IH ⊢
        rw [up_same (by omega) (by omega) (by omega) (by omega)]
        simp only [Option.bind_some]
        rw [if_pos (by simp; omega), e1]
        unfold pairAB at IH
        rw [hf2] at IH
        exact IH
    · rw [if_neg hs, e1]
      rw [if_neg hs, List.append_nil] at IH
      exact IH
theorem binds_l1 (R : List S42) (E : List S80) (hK : PlanOK R E) (fs ts : List Int) (hf : fs.length = E.length) (ht : ts.length = E.length) (hT : ∀ j : Nat, j < E.length → 0 ≤ rd ts j ∧ rd ts j ≤ 100000000000000) (B : List S27) (hB : B.length ≤ 300) :
    ∀ d e n : Nat, e + d = E.length → d * 102 + 102 ≤ n → rf_binds.l1 n (B ++ prAll R E fs ts e) fs ts (e : Int) R E = some (B ++ prAll R E fs ts E.length ++ lastBs (E.length - 1)) := by
  have hlen := hK.len
  have hpos := hK.pos
  intro d
  induction d with
  | zero =>
    intro e n he hn
    obtain ⟨m, rfl⟩ : ∃ m, n = m + 1 := ⟨n - 1, by omega⟩
    have : e = E.length := by omega
    subst this
    simp only [rf_binds.l1]
    rw [if_neg (by omega)]
    have hp := prAll_len R E fs ts E.length hlen
    have h3 := binds_l3 R E hlen (B ++ prAll R E fs ts E.length) (by rw [List.length_append]; omega) (E.length - 1) 0 m (by omega) (by omega)
    rw [show lastBs 0 = [] from rfl, List.append_nil] at h3
    exact h3
  | succ d ih =>
    intro e n he hn
    obtain ⟨m, rfl⟩ : ∃ m, n = m + 2 := ⟨n - 2, by omega⟩
    have e1 : wrap64 ((e : Int) + 1) = ((e + 1 + 0 : Nat) : Int) := by rw [wrap64_id' _ (by omega) (by omega)]; omega
    rw [rf_binds.l1, if_pos (by omega), e1]
    have hp := prAll_len R E fs ts e (by omega)
    have h2 := binds_l2 R E hK fs ts hf ht hT (B ++ prAll R E fs ts e) (by rw [List.length_append]; omega) e (by omega) (E.length - (e + 1)) 0 m (by omega) (by omega)
    rw [show prRow R E fs ts e 0 = [] from rfl, List.append_nil] at h2
    rw [h2, List.append_assoc, ← prAll_succ]
    have hm : d * 102 + 102 + 102 ≤ m + 2 := by rw [Nat.succ_mul] at hn; omega
    exact ih (e + 1) (m - (E.length - (e + 1))) (by omega) (by omega)
theorem binds_l0 (R : List S42) (E : List S80) (hK : PlanOK R E) (X : Option (List S27)) (m : Nat) (hX : ∀ bt, rf_readings.f m R E = some bt → rf_binds.l1 m (cbs E E.length) bt.1 bt.2 0 R E = X) (hr : ∃ bt, rf_readings.f m R E = some bt) :
    ∀ d i : Nat, i + d = E.length → rf_binds.l0 (2 * d + (m + 1)) (cbs E i) (i : Int) R E = X := by
  have hlen := hK.len
  intro d
  induction d with
  | zero =>
    intro i hi
    have : i = E.length := by omega
    subst this
    rw [Nat.mul_zero, Nat.zero_add, rf_binds.l0, if_neg (by omega)]
    obtain ⟨bt, hb⟩ := hr
    rw [hb]
    exact hX bt hb
  | succ d ih =>
    intro i hi
    have IH := ih (i + 1) (by omega)
    rw [cbs_succ] at IH
    have e1 : wrap64 ((i : Int) + 1) = ((i + 1 : Nat) : Int) := by rw [wrap64_id' _ (by omega) (by omega)]; omega
    have hc := cbs_len E i
    rw [show 2 * (d + 1) + (m + 1) = (2 * d + (m + 1)) + 1 + 1 from by omega, rf_binds.l0, if_pos (by omega), if_pos (by omega)]
    unfold causeBs firstBs postBs at IH
    rcases hK.kind i (by omega) with k | k | k
    · rw [if_pos k] at IH ⊢
      by_cases h0 : (i : Int) = 0
      · rw [if_pos h0, List.append_nil] at IH
        rw [decide_eq_false (by omega), rf_binds.j1, if_neg (by decide), if_neg (by omega), e1]
        exact IH
      · rw [if_neg h0] at IH
        rw [decide_eq_true (by omega), rf_binds.j1, if_pos rfl]
        simp only [Option.bind_some]
        rw [if_pos (by simp; omega), if_neg (by omega), e1]
        exact IH
    · rw [if_neg (by omega), if_pos k, List.append_nil] at IH
      rw [if_neg (by omega), rf_binds.j1, if_neg (by decide), if_neg (by omega), e1]
      exact IH
    · rw [if_neg (by omega), if_neg (by omega)] at IH
      rw [if_neg (by omega), rf_binds.j1, if_neg (by decide), if_pos k]
      simp only [Option.bind_some]
      rw [if_pos (by simp; omega), e1]
      exact IH
theorem binds_val (R : List S42) (E : List S80) (hK : PlanOK R E) (n : Nat) (hn : 11000 ≤ n) : rf_binds.f n R E = some (bindsL R E) := by
  have hlen := hK.len
  obtain ⟨m, rfl⟩ : ∃ m, n = 2 * E.length + (m + 1) := ⟨n - 1 - 2 * E.length, by omega⟩
  have hl := rdL_len E E.length
  have hts : ∀ j : Nat, j < E.length → 0 ≤ rd (rdL E E.length).2 j ∧ rd (rdL E E.length).2 j ≤ 100000000000000 := fun j hj => by
    have := ticks_small R E hK E.length (Nat.le_refl _) j hj
    omega
  have hc := cbs_len E E.length
  refine binds_l0 R E hK _ m (fun bt hb => ?_) ⟨_, readings_val R E hK m (by omega)⟩ E.length 0 (by omega)
  rw [readings_val R E hK m (by omega), Option.some.injEq] at hb
  subst hb
  have h1 := binds_l1 R E hK (rdL E E.length).1 (rdL E E.length).2 hl.1 hl.2 hts (cbs E E.length) (by omega) E.length 0 m (by omega) (by omega)
  rw [show prAll R E (rdL E E.length).1 (rdL E E.length).2 0 = [] from rfl, List.append_nil] at h1
  exact h1
/-! ### IsRun -/
theorem isRun_l1 (ts : List Int) (bs : List S27) (hI : ∀ b ∈ bs, InB ts.length b) (hl : 0 < ts.length) (hb : bs.length ≤ 30000) : ∀ d i n : Nat, i + d = bs.length → d + 1 ≤ n →
    rf_IsRun.l1 n ts bs (i : Int) = some (!((bs.drop i).any (bindBad ts)) && (rd ts 0 == 0)) := by
  intro d
  induction d with
  | zero =>
    intro i n hi hn
    obtain ⟨m, rfl⟩ : ∃ m, n = m + 1 := ⟨n - 1, by omega⟩
    simp only [rf_IsRun.l1]
    rw [if_neg (by omega), if_pos (by omega), List.drop_eq_nil_of_le (by omega)]
    rfl
  | succ d ih =>
    intro i n hi hn
    obtain ⟨m, rfl⟩ : ∃ m, n = m + 1 := ⟨n - 1, by omega⟩
    have e1 : wrap64 ((i : Int) + 1) = ((i + 1 : Nat) : Int) := by rw [wrap64_id' _ (by omega) (by omega)]; omega
    have IH := ih (i + 1) m (by omega) (by omega)
    have hin := in_rd hI i (by omega)
    have hlt : i < bs.length := by omega
    have he : rd_T27 bs (i : Int) = bs[i] := by simp [rd_T27, List.getD_eq_getElem?_getD, List.getElem?_eq_getElem hlt]
    simp only [rf_IsRun.l1]
    rw [if_pos (by omega), if_pos (by omega), if_pos hin.2.1, if_pos hin.2.2, if_pos hin.1.1, if_pos hin.1.2, e1, IH, List.drop_eq_getElem_cons hlt, List.any_cons, ← he]
    by_cases hbad : wrap64 (rd ts (rd_T27 bs (i : Int)).f1 - rd ts (rd_T27 bs (i : Int)).f0) > (rd_T27 bs (i : Int)).f2
    · rw [if_pos hbad, show bindBad ts (rd_T27 bs (i : Int)) = true from by simpa [bindBad] using hbad]
      rfl
    · rw [if_neg hbad, show bindBad ts (rd_T27 bs (i : Int)) = false from by simpa [bindBad] using hbad]
      rfl
theorem isRun_l0 (R : List S42) (E : List S80) (hK : PlanOK R E) (ts : List Int) (hl : ts.length = E.length) : ∀ d i n : Nat, i + d = ts.length → d + 31000 ≤ n →
    rf_IsRun.l0 n ts (i : Int) R E = some (!((ts.drop i).any timeBad) && (!((bindsL R E).any (bindBad ts)) && (rd ts 0 == 0))) := by
  have hlen := hK.len
  have hpos := hK.pos
  have hbl := bindsL_len hK
  intro d
  induction d with
  | zero =>
    intro i n hi hn
    obtain ⟨m, rfl⟩ : ∃ m, n = m + 1 := ⟨n - 1, by omega⟩
    simp only [rf_IsRun.l0]
    rw [if_neg (by omega), binds_val R E hK m (by omega), List.drop_eq_nil_of_le (by omega)]
    simp only [Option.bind_some]
    have h := isRun_l1 ts (bindsL R E) (by rw [hl]; exact bindsL_in hK) (by omega) (by omega) (bindsL R E).length 0 m (by omega) (by omega)
    rw [List.drop_zero] at h
    exact h
  | succ d ih =>
    intro i n hi hn
    obtain ⟨m, rfl⟩ : ∃ m, n = m + 1 := ⟨n - 1, by omega⟩
    have e1 : wrap64 ((i : Int) + 1) = ((i + 1 : Nat) : Int) := by rw [wrap64_id' _ (by omega) (by omega)]; omega
    have IH := ih (i + 1) m (by omega) (by omega)
    have hlt : i < ts.length := by omega
    have he : rd ts (i : Int) = ts[i] := by simp [rd, List.getD_eq_getElem?_getD, List.getElem?_eq_getElem hlt]
    simp only [rf_IsRun.l0]
    rw [if_pos (by omega), if_pos (by omega), e1, IH, List.drop_eq_getElem_cons hlt, List.any_cons, ← he]
    by_cases h1 : rd ts (i : Int) < 0
    · rw [if_pos h1, show timeBad (rd ts (i : Int)) = true from by simp [timeBad, betweenB]; omega]
      rfl
    · rw [if_neg h1]
      by_cases h2 : rd ts (i : Int) > 1000000000000000
      · rw [if_pos h2, show timeBad (rd ts (i : Int)) = true from by simp [timeBad, betweenB]; omega]
        rfl
      · rw [if_neg h2, show timeBad (rd ts (i : Int)) = false from by simp [timeBad, betweenB]; omega]
        rfl
theorem isRun_val (R : List S42) (E : List S80) (hK : PlanOK R E) (ts : List Int) (n : Nat) (hn : 31100 ≤ n) : rf_IsRun.f n R E ts = some (isRunB R E ts) := by
  have hlen := hK.len
  unfold rf_IsRun.f isRunB
  by_cases hl : ts.length = E.length
  · rw [if_pos (by omega), decide_eq_true hl]
    have h := isRun_l0 R E hK ts hl ts.length 0 n (by omega) (by omega)
    rw [List.drop_zero] at h
    rw [show ((0 : Nat) : Int) = 0 from rfl] at h
    rw [h]
    cases ts.any timeBad <;> cases (bindsL R E).any (bindBad ts) <;> cases (rd ts 0 == 0) <;> rfl
  · rw [if_neg (by omega), decide_eq_false hl]
    rfl
end Go.Proofs.Ytlfopemghafboaa.D
