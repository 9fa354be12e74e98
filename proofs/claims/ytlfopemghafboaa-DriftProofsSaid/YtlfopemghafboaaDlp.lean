/- The plain law of DriftProofs: the law's printed function answers true for every plan, all events, chains and choices. No condition. -/
import Derived.Test.YtlfopemghafboaaDru
import Derived.Test.YtlfopemghafboaaDx20
namespace Go.Proofs.Ytlfopemghafboaa.D
open Go.RowKit Go.Proofs.YtlfopemghafboaaW.PrintWords Go.Proofs.YtlfopemghafboaaW.PrintLast Go.Proofs.YtlfopemghafboaaW.PrintMore
set_option linter.unusedVariables false
set_option linter.unusedSimpArgs false
/-- What CheckTight tells. -/
theorem checkTight_api {R : List S42} {E : List S80} (hK : PlanOK R E) (h24 : E.length ≤ 24) (a b : Int) (ha : 0 ≤ a ∧ a < E.length) (hb : 0 ≤ b ∧ b < E.length) (most : Int) (l : List Int) :
    ∃ r, dr_CheckTight.f R E a b most l = some r ∧ (r = 0 ↔ (FC (bindsL R E) a b l ∧ l.length ≤ 100 ∧ wsum (bindsL R E) l ≤ most)) ∧ (r = 0 ∨ r = 313) := by
  have hO := bindsL_ok0 hK h24
  unfold dr_CheckTight.f
  rw [if_pos ((planOK_iff R E).2 hK), if_pos (by simp [betweenB]; omega)]
  refine ⟨_, rfl, ?_, ?_⟩
  · by_cases hl : l.length = 0
    · rw [if_pos hl]
      obtain rfl : l = [] := List.length_eq_zero_iff.1 hl
      simp only [FC, wsum]
      by_cases hc : a = b ∧ 0 ≤ most
      · rw [if_pos hc]; simp [hc]
      · rw [if_neg hc]
        constructor
        · intro h; omega
        · rintro ⟨h1, _, h2⟩; exact absurd ⟨h1, h2⟩ hc
    · rw [if_neg hl]
      by_cases hc : (chainF (bindsL R E) l).2.2.2 = true ∧ (chainF (bindsL R E) l).1 = a ∧ (chainF (bindsL R E) l).2.1 = b ∧ (chainF (bindsL R E) l).2.2.1 ≤ most
      · rw [if_pos hc]
        obtain ⟨h1, h2, h3, h4⟩ := hc
        have e : chainF (bindsL R E) l = (a, b, (chainF (bindsL R E) l).2.2.1, true) := by rw [← h1, ← h2, ← h3]
        have := chainF_to hO.bd (by omega) (by omega) l a b _ e
        exact ⟨fun _ => ⟨this.1, this.2.2.2, by omega⟩, fun _ => rfl⟩
      · rw [if_neg hc]
        constructor
        · intro h; omega
        · rintro ⟨h1, h2, h3⟩
          have e := chainF_of hO.bd (by omega) (by omega) l a b h1 (by omega) h2
          rw [e] at hc
          exact absurd ⟨rfl, rfl, rfl, h3⟩ hc
  · split <;> split <;> simp
theorem proofs_main {R : List S42} {E : List S80} (hK : PlanOK R E) (h24 : E.length ≤ 24) (a b : Int) (ha : 0 ≤ a ∧ a < E.length) (hb : 0 ≤ b ∧ b < E.length) (l ch : List Int) (most : Int) (n : Nat) : lw_DriftProofs.j0 (n + 1 + 1) a b l ch most false R E = some true := by
  obtain ⟨m, ps, told, t1, t2, t3, t4, t5⟩ := tight_api hK h24 a b ha hb
  obtain ⟨ts, ran, r1, r2⟩ := run_api hK h24 ch
  obtain ⟨q, q1, q2, q3⟩ := checkTight_api hK h24 a b ha hb most l
  have J : lw_DriftProofs.j1 (n + 1) a b l ch most m told false R E = some true := by
    simp only [lw_DriftProofs.j1, Bool.false_eq_true, if_false, r1, Option.bind_some, if_true]
    cases ran with
    | false => simp [q1]
    | true =>
      obtain ⟨g1, g2, g3, g4⟩ := (isRun_iff hK h24 ts).1 (r2 rfl)
      simp only [if_true]
      rw [if_pos (by omega), q1]
      simp only [Option.bind_some]
      by_cases hq : q = 0
      · rw [if_pos hq, if_pos hb.1, if_pos (by omega), if_pos ha.1, if_pos (by omega)]
        obtain ⟨k1, k2, k3⟩ := q2.1 hq
        have f1 := FC_feas g4 l a b k1
        have b1 := g3 a ha.1 ha.2
        have b2 := g3 b hb.1 hb.2
        have f2 := t4 _ g4 l k1
        rw [wrap64_id' _ (by omega) (by omega), if_pos (by omega), f2.1]
        simp only [if_true]
        rw [decide_eq_true (by omega)]
      · rw [if_neg hq]
  simp only [lw_DriftProofs.j0, Bool.false_eq_true, if_false, t1, Option.bind_some, if_true]
  cases told with
  | false => simpa using J
  | true =>
    obtain ⟨k1, k2, k3, p, hp⟩ := t2 rfl
    obtain ⟨u, u1, u2, u3⟩ := checkTight_api hK h24 a b ha hb m ps
    obtain ⟨v, v1, v2, v3⟩ := checkTight_api hK h24 a b ha hb (m - 1) ps
    have hu : u = 0 := u2.2 ⟨k1, by omega, by omega⟩
    have hv : v = 313 := by
      rcases v3 with h | h
      · have := (v2.1 h).2.2; omega
      · exact h
    simp only [if_true]
    rw [if_neg (by omega), if_neg (by omega), u1]
    simp only [Option.bind_some]
    rw [if_pos hu, wrap64_id' _ (by omega) (by omega), v1]
    simp only [Option.bind_some]
    rw [hv, bne_self_eq_false]
    exact J
theorem proofs_true (R : List S42) (E : List S80) (a b : Int) (l ch : List Int) (most : Int) : lw_DriftProofs.f 1000 R E a b l ch most = some true := by
  have skip : lw_DriftProofs.j0 1000 a b l ch most true R E = some true := by
    rw [show (1000 : Nat) = 999 + 1 from rfl]
    simp only [lw_DriftProofs.j0, if_true]
  unfold lw_DriftProofs.f lw_sane.f lw_small.f
  simp only [Option.bind_some, if_true, isPlan_val R E 1000 (by omega), skip]
  by_cases hs : (E.length : Int) ≤ 24
  · rw [decide_eq_true hs]
    simp only [if_true]
    cases hP : planOK R E with
    | false => simp
    | true =>
      have hK := (planOK_iff R E).1 hP
      simp only [if_true]
      by_cases h1 : a < 0
      · rw [if_pos h1]
      · rw [if_neg h1]
        by_cases h2 : a ≥ (E.length : Int)
        · rw [if_pos h2]
        · rw [if_neg h2]
          by_cases h3 : b < 0
          · rw [if_pos h3]
          · rw [if_neg h3]
            by_cases h4 : b ≥ (E.length : Int)
            · rw [if_pos h4]
            · rw [if_neg h4]
              by_cases h5 : most < -1000000000000000
              · rw [if_pos h5]
              · rw [if_neg h5]
                by_cases h6 : most > 1000000000000000
                · rw [decide_eq_true h6]; exact skip
                · rw [decide_eq_false h6]
                  exact proofs_main hK (by omega) a b (by omega) (by omega) l ch most 998
  · rw [decide_eq_false hs]
    simp
end Go.Proofs.Ytlfopemghafboaa.D
