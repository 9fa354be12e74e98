/- The printed pure function of the reference's IsPlan says what the program's contract says; rounding up, and the ticks of a plan. No condition beyond each theorem's own hypotheses. -/
import Derived.Test.YtlfopemghafboaaDp0
import Derived.Test.YtlfopemghafboaaDx3
namespace Go.Proofs.Ytlfopemghafboaa.D
open Go.RowKit Go.Proofs.YtlfopemghafboaaW.PrintWords Go.Proofs.YtlfopemghafboaaW.PrintLast Go.Proofs.YtlfopemghafboaaW.PrintMore
set_option linter.unusedVariables false
set_option linter.unusedSimpArgs false
theorem wrap64_id' (x : Int) (h0 : -9223372036854775808 ≤ x) (h1 : x ≤ 9223372036854775807) : wrap64 x = x := by unfold wrap64; omega
theorem ev_step (R : List S42) (E : List S80) (i n : Nat) (hi : i < E.length) (hE : E.length ≤ 100) (e : S80) (b : Bool) (hb : b = !(decide (0 ≤ e.f0) && decide (e.f0 < (R.length : Int)))) :
    rf_IsPlan.j3 (n + 1) (i : Int) b R E e.f0 e.f1 e.f2 e.f3 e.f4 e.f5 = if evOK R E i e = true then rf_IsPlan.l1 n ((i + 1 : Nat) : Int) R E else some false := by
  have e1 : wrap64 ((i : Int) + 1) = ((i + 1 : Nat) : Int) := by rw [wrap64_id' _ (by omega) (by omega)]; omega
  simp only [rf_IsPlan.j3, e1]
  generalize rf_IsPlan.l1 n ((i + 1 : Nat) : Int) R E = X
  unfold evOK kindOK rightB firstOK timerOK postOK betweenB
  obtain ⟨f0, f1, f2, f3, f4, f5⟩ := e
  simp only at hb ⊢
  by_cases hp : 0 ≤ f0 ∧ f0 < (R.length : Int)
  · have hb' : b = false := by rw [hb]; simp [hp.1, hp.2]
    have hpl : (decide (0 ≤ f0) && decide (f0 ≤ (R.length : Int) - 1)) = true := by simp; omega
    rw [hb', hpl]
    simp only [Bool.false_eq_true, if_false]
    by_cases k1 : f1 = 1
    · simp only [k1, if_true]
      by_cases a2 : f2 = 0 <;> by_cases a3 : f3 = 0 <;> by_cases a4 : f4 = 0 <;> by_cases a5 : f5 = 0 <;> simp [a2, a3, a4, a5]
    · by_cases k2 : f1 = 2
      · subst k2
        simp only [show ¬ (2 : Int) = 1 by decide, if_false, if_true]
        by_cases a2 : f2 < 0
        · rw [if_pos a2, if_neg (by simp; omega)]
        · rw [if_neg a2]
          by_cases a3 : f2 ≥ (i : Int)
          · rw [if_pos a3, if_neg (by simp; omega)]
          · rw [if_neg a3, if_pos (by omega), if_pos (by omega)]
            by_cases a4 : (rd_T80 E f2).f0 = f0
            · rw [if_pos a4]
              by_cases a5 : f3 < 0
              · rw [if_pos a5, if_neg (by simp; omega)]
              · rw [if_neg a5]
                by_cases a6 : f3 > 1000000000000
                · rw [if_pos a6, if_neg (by simp; omega)]
                · rw [if_neg a6]
                  by_cases a7 : f4 = 0
                  · rw [if_pos a7]
                    by_cases a8 : f5 = 0
                    · rw [if_pos a8, if_pos (by simp [a4, a7, a8]; omega)]
                    · rw [if_neg a8, if_neg (by simp [a8])]
                  · rw [if_neg a7, if_neg (by simp [a7])]
            · rw [if_neg a4, if_neg (by simp [a4])]
      · by_cases k3 : f1 = 3
        · subst k3
          simp only [show ¬ (3 : Int) = 1 by decide, show ¬ (3 : Int) = 2 by decide, if_false, if_true]
          by_cases a2 : f2 < 0
          · rw [if_pos a2, if_neg (by simp; omega)]
          · rw [if_neg a2]
            by_cases a3 : f2 ≥ (i : Int)
            · rw [if_pos a3, if_neg (by simp; omega)]
            · rw [if_neg a3]
              by_cases a4 : f3 = 0
              · rw [if_pos a4]
                by_cases a5 : f4 < 0
                · rw [if_pos a5, if_neg (by simp; omega)]
                · rw [if_neg a5]
                  by_cases a6 : f5 < f4
                  · rw [if_pos a6, if_neg (by simp; omega)]
                  · rw [if_neg a6]
                    by_cases a7 : f5 > 1000000
                    · rw [if_pos a7, if_neg (by simp; omega)]
                    · rw [if_neg a7, if_pos (by simp [a4]; omega)]
              · rw [if_neg a4, if_neg (by simp [a4])]
        · rw [if_neg k1, if_neg k2, if_neg k3, if_neg (by simp [k1, k2, k3])]
  · have hb' : b = true := by rw [hb]; simp; omega
    have hpl : (decide (0 ≤ f0) && decide (f0 ≤ (R.length : Int) - 1)) = false := by simp; omega
    rw [hb', hpl]
    simp
open Classical in
theorem plan_l1 (R : List S42) (E : List S80) (hE : E.length ≤ 100) (hE0 : 0 < E.length) : ∀ d i n : Nat, i ≤ E.length → E.length - i ≤ d → 2 * d + 1 ≤ n →
    rf_IsPlan.l1 n (i : Int) R E = some (decide (∀ j : Nat, i ≤ j → j < E.length → evOK R E j (rd_T80 E j) = true) && ((rd_T80 E 0).f1 == 1)) := by
  intro d
  induction d with
  | zero =>
    intro i n hi hd hn
    obtain ⟨m, rfl⟩ : ∃ m, n = m + 1 := ⟨n - 1, by omega⟩
    simp only [rf_IsPlan.l1]
    rw [if_neg (by omega), if_pos (by omega), decide_eq_true (by intro j h1 h2; omega)]
    rfl
  | succ d ih =>
    intro i n hi hd hn
    obtain ⟨m, rfl⟩ : ∃ m, n = m + 2 := ⟨n - 2, by omega⟩
    simp only [rf_IsPlan.l1]
    by_cases hlt : i < E.length
    · rw [if_pos (by omega), if_pos (by omega)]
      have hs := fun b hb => ev_step R E i m hlt hE (rd_T80 E i) b hb
      have IH := ih (i + 1) m (by omega) (by omega) (by omega)
      have fin : (if evOK R E i (rd_T80 E i) = true then rf_IsPlan.l1 m ((i + 1 : Nat) : Int) R E else some false) = some (decide (∀ j : Nat, i ≤ j → j < E.length → evOK R E j (rd_T80 E j) = true) && ((rd_T80 E 0).f1 == 1)) := by
        by_cases hok : evOK R E i (rd_T80 E i) = true
        · rw [if_pos hok, IH]
          congr 2
          apply decide_eq_decide.2
          constructor
          · intro h j h1 h2
            rcases Nat.lt_or_ge i j with h3 | h3
            · exact h j (by omega) h2
            · have : j = i := by omega
              rw [this]; exact hok
          · intro h j h1 h2
            exact h j (by omega) h2
        · rw [if_neg hok, decide_eq_false (fun h => hok (h i (Nat.le_refl _) hlt))]
          rfl
      by_cases hp : (rd_T80 E (i : Int)).f0 < 0
      · rw [if_pos hp, hs true (by simp; omega), fin]
      · rw [if_neg hp, hs _ (by
          by_cases h2 : (rd_T80 E (i : Int)).f0 ≥ (R.length : Int)
          · rw [decide_eq_true h2]; simp; omega
          · rw [decide_eq_false h2]; simp; omega), fin]
    · rw [if_neg (by omega), if_pos (by omega), decide_eq_true (by intro j h1 h2; omega)]
      rfl
open Classical in
theorem plan_l0 (R : List S42) (E : List S80) (hR : R.length ≤ 32) (hE : E.length ≤ 100) (hE0 : 0 < E.length) : ∀ d i n : Nat, i ≤ R.length → R.length - i ≤ d → d + 2 * E.length + 2 ≤ n →
    rf_IsPlan.l0 n (i : Int) R E = some (decide (∀ j : Nat, i ≤ j → j < R.length → rateOK (rd_T42 R j) = true) && (decide (∀ j : Nat, 0 ≤ j → j < E.length → evOK R E j (rd_T80 E j) = true) && ((rd_T80 E 0).f1 == 1))) := by
  intro d
  induction d with
  | zero =>
    intro i n hi hd hn
    obtain ⟨m, rfl⟩ : ∃ m, n = m + 1 := ⟨n - 1, by omega⟩
    simp only [rf_IsPlan.l0]
    rw [if_neg (by omega), decide_eq_true (p := ∀ j : Nat, i ≤ j → j < R.length → rateOK (rd_T42 R j) = true) (by intro j h1 h2; omega), Bool.true_and]
    exact plan_l1 R E hE hE0 E.length 0 m (by omega) (by omega) (by omega)
  | succ d ih =>
    intro i n hi hd hn
    obtain ⟨m, rfl⟩ : ∃ m, n = m + 1 := ⟨n - 1, by omega⟩
    simp only [rf_IsPlan.l0]
    by_cases hlt : i < R.length
    · have e1 : wrap64 ((i : Int) + 1) = ((i + 1 : Nat) : Int) := by rw [wrap64_id' _ (by omega) (by omega)]; omega
      have hv : rf_IsRate.f (rd_T42 R (i : Int)).f0 (rd_T42 R (i : Int)).f1 = some (rateOK (rd_T42 R i)) := by
        unfold rf_IsRate.f rateOK
        by_cases h1 : 1 ≤ (rd_T42 R (i : Int)).f0 <;> by_cases h2 : (rd_T42 R (i : Int)).f0 ≤ (rd_T42 R (i : Int)).f1 <;> simp [h1, h2]
      rw [if_pos (by omega), if_pos (by omega), hv, e1]
      simp only [Option.bind_some]
      by_cases hok : rateOK (rd_T42 R (i : Int)) = true
      · rw [if_pos hok, ih (i + 1) m (by omega) (by omega) (by omega)]
        congr 2
        apply decide_eq_decide.2
        constructor
        · intro h j h1 h2
          rcases Nat.lt_or_ge i j with h3 | h3
          · exact h j (by omega) h2
          · have : j = i := by omega
            rw [this]; exact hok
        · intro h j h1 h2
          exact h j (by omega) h2
      · rw [if_neg hok, decide_eq_false (p := ∀ j : Nat, i ≤ j → j < R.length → rateOK (rd_T42 R j) = true) (fun h => hok (h i (Nat.le_refl _) hlt))]
        rfl
    · rw [if_neg (by omega), decide_eq_true (p := ∀ j : Nat, i ≤ j → j < R.length → rateOK (rd_T42 R j) = true) (by intro j h1 h2; omega), Bool.true_and]
      exact plan_l1 R E hE hE0 E.length 0 m (by omega) (by omega) (by omega)
open Classical in
theorem isPlan_val (R : List S42) (E : List S80) (n : Nat) (hn : 300 ≤ n) : rf_IsPlan.f n R E = some (planOK R E) := by
  obtain ⟨m, rfl⟩ : ∃ m, n = m + 1 := ⟨n - 1, by omega⟩
  have bad : betweenB R.length 1 32 = false ∨ betweenB E.length 1 100 = false → planOK R E = false := by
    intro h
    unfold planOK
    rcases h with h | h <;> rw [h] <;> simp
  have j0t : rf_IsPlan.j0 (m + 1) true R E = some false := by simp only [rf_IsPlan.j0, if_true]
  unfold rf_IsPlan.f
  by_cases h1 : (R.length : Int) < 1
  · rw [if_pos h1, j0t, bad (Or.inl (by simp [betweenB]; omega))]
  · rw [if_neg h1]
    by_cases h2 : (R.length : Int) > 32
    · rw [if_pos h2, j0t, bad (Or.inl (by simp [betweenB]; omega))]
    · rw [if_neg h2]
      by_cases h3 : (E.length : Int) < 1
      · rw [if_pos h3, j0t, bad (Or.inr (by simp [betweenB]; omega))]
      · rw [if_neg h3]
        by_cases h4 : (E.length : Int) > 100
        · rw [decide_eq_true h4, j0t, bad (Or.inr (by simp [betweenB]; omega))]
        · rw [decide_eq_false h4]
          simp only [rf_IsPlan.j0, Bool.false_eq_true, if_false]
          have := plan_l0 R E (by omega) (by omega) (by omega) R.length 0 m (by omega) (by omega) (by omega)
          rw [show ((0 : Nat) : Int) = 0 from rfl] at this
          rw [this]
          unfold planOK
          have b1 : betweenB R.length 1 32 = true := by simp [betweenB]; omega
          have b2 : betweenB E.length 1 100 = true := by simp [betweenB]; omega
          rw [b1, b2]
          have b3 : (R.any fun r => !rateOK r) = !decide (∀ j : Nat, 0 ≤ j → j < R.length → rateOK (rd_T42 R j) = true) := by
            by_cases h : ∀ j : Nat, 0 ≤ j → j < R.length → rateOK (rd_T42 R j) = true
            · rw [decide_eq_true h, Bool.not_true, List.any_eq_false]
              intro r hr
              obtain ⟨i, hi, rfl⟩ := List.getElem_of_mem hr
              have h1 := h i (by omega) hi
              have e : rd_T42 R (i : Int) = R[i] := by simp [rd_T42, List.getD_eq_getElem?_getD, List.getElem?_eq_getElem hi]
              rw [e] at h1
              simp [h1]
            · rw [decide_eq_false h, Bool.not_false, List.any_eq_true]
              simp only [Nat.zero_le, forall_const, Classical.not_forall] at h
              obtain ⟨i, hi, h1⟩ := h
              have e : rd_T42 R (i : Int) = R[i] := by simp [rd_T42, List.getD_eq_getElem?_getD, List.getElem?_eq_getElem hi]
              rw [e] at h1
              exact ⟨R[i], List.getElem_mem hi, by simpa using h1⟩
          have b4 : evsOK R E = decide (∀ j : Nat, 0 ≤ j → j < E.length → evOK R E j (rd_T80 E j) = true) := by
            unfold evsOK
            by_cases h : ∀ j : Nat, 0 ≤ j → j < E.length → evOK R E j (rd_T80 E j) = true
            · rw [decide_eq_true h, List.all_eq_true]
              intro x hx
              exact h x (by omega) (List.mem_range.1 hx)
            · rw [decide_eq_false h, List.all_eq_false]
              simp only [Nat.zero_le, forall_const, Classical.not_forall] at h
              obtain ⟨i, hi, h1⟩ := h
              exact ⟨i, List.mem_range.2 hi, h1⟩
          rw [b3, b4, Bool.not_not]
          generalize decide (∀ j : Nat, 0 ≤ j → j < R.length → rateOK (rd_T42 R j) = true) = x
          generalize decide (∀ j : Nat, 0 ≤ j → j < E.length → evOK R E j (rd_T80 E j) = true) = y
          generalize ((rd_T80 E 0).f1 == 1) = z
          cases x <;> cases y <;> cases z <;> rfl
def upZ (n f : Int) : Int := (n + f - 1) / f
theorem upZ_zero {n f : Int} (hf : 0 < f) (h : n % f = 0) : upZ n f = n / f := by
  unfold upZ
  have e := Int.mul_ediv_add_emod n f
  rw [h, Int.add_zero] at e
  have e2 : n + f - 1 = (f - 1) + n / f * f := by rw [Int.mul_comm] at e; omega
  rw [e2, Int.add_mul_ediv_right _ _ (by omega), Int.ediv_eq_zero_of_lt (by omega) (by omega)]
  omega
theorem upZ_pos {n f : Int} (hf : 0 < f) (h : n % f ≠ 0) : upZ n f = n / f + 1 := by
  unfold upZ
  have e := Int.mul_ediv_add_emod n f
  have h0 := Int.emod_nonneg n (show f ≠ 0 by omega)
  have h1 := Int.emod_lt_of_pos n hf
  have e2 : n + f - 1 = (n % f - 1) + (n / f + 1) * f := by rw [Int.add_mul, Int.one_mul, Int.mul_comm]; omega
  rw [e2, Int.add_mul_ediv_right _ _ (by omega), Int.ediv_eq_zero_of_lt (by omega) (by omega)]
  omega
theorem ediv_bounds {n f : Int} (hn : 0 ≤ n) (hf : 1 ≤ f) : 0 ≤ n / f ∧ n / f ≤ n := ⟨Int.ediv_nonneg hn (by omega), Int.ediv_le_self _ hn⟩
theorem upR_val {n f : Int} (hn : 0 ≤ n) (hn1 : n ≤ 1000000000000000000) (hf : 1 ≤ f) (hf1 : f ≤ 1000000000000000) : upR n f = upZ n f := by
  unfold upR
  rw [wrap64_id' (n + f) (by omega) (by omega), wrap64_id' (n + f - 1) (by omega) (by omega), Int.tdiv_eq_ediv_of_nonneg (by omega)]
  have hb := ediv_bounds (n := n + f - 1) (f := f) (by omega) hf
  rw [wrap64_id' _ (by omega) (by omega)]
  rfl
/-! ### the ticks are small -/
theorem rd_append_lt (xs ys : List Int) (j : Nat) (hj : j < xs.length) : rd (xs ++ ys) j = rd xs j := by
  simp [rd, List.getD_eq_getElem?_getD, List.getElem?_append_left hj]
theorem rd_append_last (xs : List Int) (y : Int) : rd (xs ++ [y]) (xs.length : Int) = y := by
  simp [rd, List.getD_eq_getElem?_getD]
theorem ticks_small (R : List S42) (E : List S80) (hK : PlanOK R E) : ∀ n : Nat, n ≤ E.length → ∀ j : Nat, j < n → 0 ≤ rd (rdL E n).2 j ∧ rd (rdL E n).2 j ≤ 1000000000000 * (n : Int) := by
  intro n
  induction n with
  | zero => intro _ j hj; omega
  | succ n ih =>
    intro hn j hj
    have hl := (rdL_len E n).2
    have IH := ih (by omega)
    have hlen := hK.len
    rw [rdL]
    by_cases h2 : (rd_T80 E (n : Int)).f1 = 2
    · rw [if_pos h2]
      have hb := hK.ev2 n (by omega) h2
      simp only
      rcases Nat.lt_or_ge j n with h | h
      · rw [rd_append_lt _ _ j (by omega)]
        have := IH j h
        omega
      · have hjn : j = n := by omega
        have e : (j : Int) = ((rdL E n).2.length : Int) := by omega
        rw [e, rd_append_last]
        have hq := IH (rd_T80 E (n : Int)).f2.toNat (by omega)
        rw [Int.toNat_of_nonneg hb.1.1] at hq
        rw [wrap64_id' _ (by omega) (by omega)]
        omega
    · rw [if_neg h2]
      simp only
      rcases Nat.lt_or_ge j n with h | h
      · rw [rd_append_lt _ _ j (by omega)]
        have := IH j h
        omega
      · have e : (j : Int) = ((rdL E n).2.length : Int) := by omega
        rw [e, rd_append_last]
        omega
end Go.Proofs.Ytlfopemghafboaa.D
