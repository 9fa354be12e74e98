/- Runs, the earliest times and the least binds of a plan with few events, as the API's functions tell them. No condition beyond each theorem's own hypotheses. -/
import Derived.Test.YtlfopemghafboaaDbl
import Derived.Test.YtlfopemghafboaaDapi
namespace Go.Proofs.Ytlfopemghafboaa.D
open Go.RowKit Go.Proofs.YtlfopemghafboaaW.PrintWords Go.Proofs.YtlfopemghafboaaW.PrintLast Go.Proofs.YtlfopemghafboaaW.PrintMore
set_option linter.unusedVariables false
set_option linter.unusedSimpArgs false
/-- Times so far that keep the binds so far. -/
structure SoFar (bs : List S27) (ts : List Int) : Prop where
  pos : 1 ≤ ts.length
  first : rd ts 0 = 0
  bd : ∀ x : Int, 0 ≤ x → x < ts.length → 0 ≤ rd ts x ∧ rd ts x ≤ 1000000000000000
  keep : ∀ i : Nat, i < bs.length → (rd_T27 bs i).f0 < ts.length → (rd_T27 bs i).f1 < ts.length → rd ts (rd_T27 bs i).f1 - rd ts (rd_T27 bs i).f0 ≤ (rd_T27 bs i).f2
theorem rd_app_lt (xs : List Int) (y x : Int) (h0 : 0 ≤ x) (h1 : x < xs.length) : rd (xs ++ [y]) x = rd xs x := by
  obtain ⟨m, rfl⟩ : ∃ m : Nat, x = m := ⟨x.toNat, by omega⟩
  exact rd_append_lt xs [y] m (by omega)
theorem SoFar.next {bs : List S27} {ts : List Int} {N : Nat} (hI : ∀ b ∈ bs, InB N b) (hne : ∀ i : Nat, i < bs.length → (rd_T27 bs i).f0 ≠ (rd_T27 bs i).f1) (h : SoFar bs ts) (t lo hi : Int) (h0 : 0 ≤ lo) (h1 : hi ≤ 1000000000000000) (hlo : lo ≤ t) (hhi : t ≤ hi)
    (hw : ∀ k : Nat, k < bs.length → ((rd_T27 bs k).f1 = ts.length → (rd_T27 bs k).f0 < ts.length → hi ≤ rd ts (rd_T27 bs k).f0 + (rd_T27 bs k).f2) ∧ ((rd_T27 bs k).f0 = ts.length → (rd_T27 bs k).f1 < ts.length → rd ts (rd_T27 bs k).f1 - (rd_T27 bs k).f2 ≤ lo)) : SoFar bs (ts ++ [t]) := by
  have hp := h.pos
  refine ⟨by simp, by rw [rd_app_lt _ _ _ (by omega) (by omega)]; exact h.first, fun x hx0 hx1 => ?_, fun i hi' hf0 hf1 => ?_⟩
  · by_cases e : x = ts.length
    · rw [e, rd_append_last]; omega
    · have hx1' : x < ts.length + 1 := by simpa using hx1
      rw [rd_app_lt _ _ _ hx0 (by omega)]
      exact h.bd x hx0 (by omega)
  · have hf0' : (rd_T27 bs i).f0 < ts.length + 1 := by simpa using hf0
    have hf1' : (rd_T27 bs i).f1 < ts.length + 1 := by simpa using hf1
    have hz : (0 ≤ (rd_T27 bs (i : Int)).f0 ∧ (rd_T27 bs (i : Int)).f0 < N) ∧ (0 ≤ (rd_T27 bs (i : Int)).f1 ∧ (rd_T27 bs (i : Int)).f1 < N) := in_rd hI i hi'
    have hn := hne i hi'
    have hwi := hw i hi'
    by_cases e0 : (rd_T27 bs (i : Int)).f0 = ts.length
    · have g1 : (rd_T27 bs (i : Int)).f1 < ts.length := by omega
      have := hwi.2 e0 g1
      rw [rd_app_lt _ _ _ hz.2.1 g1]
      rw [e0, rd_append_last]
      omega
    · by_cases e1 : (rd_T27 bs (i : Int)).f1 = ts.length
      · have g1 : (rd_T27 bs (i : Int)).f0 < ts.length := by omega
        have := hwi.1 e1 g1
        rw [rd_app_lt _ _ _ hz.1.1 g1]
        rw [e1, rd_append_last]
        omega
      · rw [rd_app_lt _ _ _ hz.1.1 (by omega), rd_app_lt _ _ _ hz.2.1 (by omega)]
        exact h.keep i hi' (by omega) (by omega)
theorem int_index (ts : List Int) (x : Int) (h : x ∈ ts) : ∃ i : Int, 0 ≤ i ∧ i < ts.length ∧ rd ts i = x := by
  obtain ⟨i, hi, rfl⟩ := List.getElem_of_mem h
  exact ⟨i, by omega, by omega, by simp [rd, List.getD_eq_getElem?_getD, List.getElem?_eq_getElem hi]⟩
theorem int_mem (ts : List Int) (x : Int) (h0 : 0 ≤ x) (h1 : x < ts.length) : rd ts x ∈ ts := by
  have hi : x.toNat < ts.length := by omega
  unfold rd
  rw [List.getD_eq_getElem?_getD, List.getElem?_eq_getElem hi]
  exact List.getElem_mem hi
/-- Times are a run just if they keep all binds. -/
theorem isRun_iff {R : List S42} {E : List S80} (hK : PlanOK R E) (h24 : E.length ≤ 24) (ts : List Int) : isRunB R E ts = true ↔ ts.length = E.length ∧ rd ts 0 = 0 ∧ (∀ x : Int, 0 ≤ x → x < E.length → 0 ≤ rd ts x ∧ rd ts x ≤ 1000000000000000) ∧ Feas (bindsL R E) (rd ts) := by
  unfold isRunB
  simp only [Bool.and_eq_true, Bool.not_eq_true', decide_eq_true_eq, beq_iff_eq, List.any_eq_false]
  constructor
  · rintro ⟨⟨⟨h1, h2⟩, h3⟩, h4⟩
    have hbd : ∀ x : Int, 0 ≤ x → x < E.length → 0 ≤ rd ts x ∧ rd ts x ≤ 1000000000000000 := by
      intro x h0 h5
      have := h3 _ (int_mem ts x h0 (by omega))
      simp [timeBad, betweenB] at this
      omega
    refine ⟨h1, h2, hbd, feas_iff.2 fun b hb => ?_⟩
    have hin : (0 ≤ b.f0 ∧ b.f0 < E.length) ∧ (0 ≤ b.f1 ∧ b.f1 < E.length) := bindsL_in hK b hb
    have := h4 b hb
    have t0 := hbd _ hin.1.1 hin.1.2
    have t1 := hbd _ hin.2.1 hin.2.2
    rw [bindBad, wrap64_id' _ (by omega) (by omega)] at this
    simp at this
    omega
  · rintro ⟨h1, h2, h3, h4⟩
    refine ⟨⟨⟨h1, h2⟩, fun x hx => ?_⟩, fun b hb => ?_⟩
    · obtain ⟨i, i0, i1, rfl⟩ := int_index ts x hx
      have := h3 i i0 (by omega)
      simp [timeBad, betweenB]
      omega
    · have hin : (0 ≤ b.f0 ∧ b.f0 < E.length) ∧ (0 ≤ b.f1 ∧ b.f1 < E.length) := bindsL_in hK b hb
      have t0 := h3 _ hin.1.1 hin.1.2
      have t1 := h3 _ hin.2.1 hin.2.2
      have := feas_iff.1 h4 b hb
      rw [bindBad, wrap64_id' _ (by omega) (by omega)]
      simp
      omega
/-- What Circle and Earliest tell. -/
theorem circle_api {R : List S42} {E : List S80} (hK : PlanOK R E) (h24 : E.length ≤ 24) :
    ((∃ ps a, dr_Circle.f R E = some (ps, true, 0) ∧ FC (bindsL R E) a a ps ∧ 1 ≤ ps.length ∧ ps.length ≤ 24 ∧ wsum (bindsL R E) ps < 0) ∧ dr_Earliest.f R E = some ([], false, 0) ∧ (∀ p, ¬ Feas (bindsL R E) p) ∧ (∃ ps, circleF (bindsL R E) E.length = some (ps, true))) ∨
    (dr_Circle.f R E = some ([], false, 0) ∧ (∃ ts, dr_Earliest.f R E = some (ts, true, 0) ∧ isRunB R E ts = true ∧ (∀ x : Int, 0 ≤ x → x < E.length → ∃ ps, FC (bindsL R E) x 0 ps ∧ ps.length < E.length ∧ wsum (bindsL R E) ps = -(rd ts x))) ∧ (∃ p, Feas (bindsL R E) p) ∧ circleF (bindsL R E) E.length = some ([], false)) := by
  have hO := bindsL_ok0 hK h24
  unfold dr_Circle.f dr_Earliest.f
  rw [if_pos ((planOK_iff R E).2 hK), if_pos ((planOK_iff R E).2 hK)]
  rcases earliest_spec hO (fun x h0 h1 => bindsL_zero0 x h0 h1) with ⟨h1, h2, h3⟩ | ⟨ts, h1, h2, h3, h4, h5, h6, h7⟩
  · left
    rw [h1]
    rcases circle_spec hO with ⟨g1, p, g2⟩ | ⟨a, ps, g1, g2, g3, g4, g5, g6⟩
    · exact absurd g2 (h2 p)
    · rw [g1]
      exact ⟨⟨ps, a, rfl, g3, g4, by omega, g6⟩, rfl, h2, ps, rfl⟩
  · right
    rw [h1, h7]
    refine ⟨rfl, ⟨ts, rfl, ?_, h6⟩, ⟨_, h3⟩, rfl⟩
    refine (isRun_iff hK h24 ts).2 ⟨h2, h4, fun x h0 h8 => ⟨h5 x h0 h8, ?_⟩, h3⟩
    obtain ⟨ps, g1, g2, g3⟩ := h6 x h0 h8
    have hb := (wsum_bd hO.bd ps x 0 g1).1
    have : (ps.length : Int) * 24000000000000 ≤ 24 * 24000000000000 := Int.mul_le_mul_of_nonneg_right (by omega) (by omega)
    omega
/-- What Tight tells. -/
theorem tight_api {R : List S42} {E : List S80} (hK : PlanOK R E) (h24 : E.length ≤ 24) (a b : Int) (ha : 0 ≤ a ∧ a < E.length) (hb : 0 ≤ b ∧ b < E.length) :
    ∃ m ps is, dr_Tight.f R E a b = some (m, ps, is, 0) ∧ (is = true → FC (bindsL R E) a b ps ∧ ps.length < E.length ∧ wsum (bindsL R E) ps = m ∧ ∃ p, Feas (bindsL R E) p) ∧ (is = false → m = 0 ∧ ps = []) ∧
      (∀ p, Feas (bindsL R E) p → ∀ qs, FC (bindsL R E) a b qs → is = true ∧ m ≤ wsum (bindsL R E) qs) ∧ -1000000000000000 ≤ m ∧ m ≤ 1000000000000000 := by
  have hO := bindsL_ok0 hK h24
  unfold dr_Tight.f
  rw [if_pos ((planOK_iff R E).2 hK), if_pos (by simp [betweenB]; omega)]
  rcases circle_spec hO with ⟨g1, p, g2⟩ | ⟨c, ps, g1, g2, g3, g4, g5, g6⟩
  · rw [g1]
    obtain ⟨m, ps, is, h1, h2, h3, h4⟩ := tight_spec hO p g2 a b ha hb
    simp only
    rw [h1]
    refine ⟨m, ps, is, rfl, fun h => ⟨(h2 h).1, (h2 h).2.1, (h2 h).2.2, p, g2⟩, h4, fun _ _ qs hq => h3 qs hq, ?_⟩
    cases is with
    | false => have := (h4 rfl).1; omega
    | true =>
      obtain ⟨k1, k2, k3⟩ := h2 rfl
      have hw := wsum_bd hO.bd ps a b k1
      have : (ps.length : Int) * 24000000000000 ≤ 24 * 24000000000000 := Int.mul_le_mul_of_nonneg_right (by omega) (by omega)
      omega
  · rw [g1]
    refine ⟨0, [], false, rfl, (fun h => by cases h), fun _ => ⟨rfl, rfl⟩, fun p hp => ?_, by omega, by omega⟩
    exact (FC_no c ps g3 g6 p hp).elim
end Go.Proofs.Ytlfopemghafboaa.D
