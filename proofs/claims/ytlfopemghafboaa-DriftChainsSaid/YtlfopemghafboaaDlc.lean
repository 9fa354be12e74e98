/- The plain law of DriftChains: the law's printed function answers true for every plan and all events. No condition. -/
import Derived.Test.YtlfopemghafboaaDru
import Derived.Test.YtlfopemghafboaaDx18
namespace Go.Proofs.Ytlfopemghafboaa.D
open Go.RowKit Go.Proofs.YtlfopemghafboaaW.PrintWords Go.Proofs.YtlfopemghafboaaW.PrintLast Go.Proofs.YtlfopemghafboaaW.PrintMore
set_option linter.unusedVariables false
set_option linter.unusedSimpArgs false
theorem chains_j2 (n : Nat) (x y z : Int) (one two both : Bool) (hx : -1000000000000000 ≤ x ∧ x ≤ 1000000000000000) (hy : -1000000000000000 ≤ y ∧ y ≤ 1000000000000000) (hz : -1000000000000000 ≤ z ∧ z ≤ 1000000000000000)
    (h : one = true → two = true → both = true ∧ z ≤ x + y) : lw_DriftChains.j2 (n + 1 + 1 + 1 + 1 + 1) x one y two z both false = some true := by
  have hw : wrap64 (x + y) = x + y := wrap64_id' _ (by omega) (by omega)
  have e0 : rd [x, y, z] 0 = x := rfl
  have e1 : rd [x, y, z] 1 = y := rfl
  have e2 : rd [x, y, z] 2 = z := rfl
  have el : (([x, y, z] : List Int).length : Int) = 3 := rfl
  have w0 : wrap64 (0 + 1) = 1 := by unfold wrap64; omega
  have w1 : wrap64 (1 + 1) = 2 := by unfold wrap64; omega
  have w2 : wrap64 (2 + 1) = 3 := by unfold wrap64; omega
  simp only [lw_DriftChains.j2, Bool.false_eq_true, if_false, Option.bind_some]
  rw [lw_DriftChains.l0, el, if_pos (by decide), if_pos (by decide), if_pos (by decide), e0, if_neg (by omega), if_neg (by omega), w0]
  rw [lw_DriftChains.l0, el, if_pos (by decide), if_pos (by decide), if_pos (by decide), e1, if_neg (by omega), if_neg (by omega), w1]
  rw [lw_DriftChains.l0, el, if_pos (by decide), if_pos (by decide), if_pos (by decide), e2, if_neg (by omega), if_neg (by omega), w2]
  rw [lw_DriftChains.l0, if_neg (by decide), hw]
  cases one with
  | false => rfl
  | true =>
    cases two with
    | false => rfl
    | true =>
      obtain ⟨rfl, h2⟩ := h rfl rfl
      simp only [if_true, decide_eq_true h2]
theorem chains_main {R : List S42} {E : List S80} (hK : PlanOK R E) (h24 : E.length ≤ 24) (a b c : Int) (ha : 0 ≤ a ∧ a < E.length) (hb : 0 ≤ b ∧ b < E.length) (hc : 0 ≤ c ∧ c < E.length) (n : Nat) : lw_DriftChains.j0 (n + 1 + 1 + 1 + 1 + 1 + 1 + 1) a b c false R E = some true := by
  obtain ⟨x, px, one, t1, t2, t3, t4, t5⟩ := tight_api hK h24 a b ha hb
  obtain ⟨y, py, two, u1, u2, u3, u4, u5⟩ := tight_api hK h24 b c hb hc
  obtain ⟨z, pz, both, v1, v2, v3, v4, v5⟩ := tight_api hK h24 a c ha hc
  obtain ⟨o, po, own, w1, w2, w3, w4, w5⟩ := tight_api hK h24 a a ha ha
  have hE : ∃ ts, dr_Earliest.f R E = some (ts, own, 0) := by
    rcases circle_api hK h24 with ⟨_, g1, g2, _⟩ | ⟨_, ⟨ts, g1, _⟩, ⟨p, hp⟩, _⟩
    · have : own = false := by
        cases own with
        | false => rfl
        | true => obtain ⟨_, _, _, p, hp⟩ := w2 rfl; exact absurd hp (g2 p)
      rw [this]; exact ⟨_, g1⟩
    · have : own = true := (w4 p hp [] rfl).1
      rw [this]; exact ⟨_, g1⟩
  obtain ⟨ts, hE⟩ := hE
  have ho : own = true → o = 0 := by
    intro h
    obtain ⟨k1, k2, k3, p, hp⟩ := w2 h
    have g1 := (w4 p hp [] rfl).2
    have g2 := FC_feas hp _ a a k1
    simp only [wsum] at g1
    omega
  have hz : one = true → two = true → both = true ∧ z ≤ x + y := by
    intro h1 h2
    obtain ⟨k1, k2, k3, p, hp⟩ := t2 h1
    obtain ⟨l1, l2, l3, _, _⟩ := u2 h2
    have := v4 p hp _ (FC_append _ _ _ _ _ k1 l1)
    rw [wsum_append, k3, l3] at this
    exact this
  have L := chains_j2 n x y z one two both t5 u5 v5 hz
  simp only [lw_DriftChains.j0, Bool.false_eq_true, if_false, t1, u1, v1, w1, Option.bind_some, if_true, bne_self_eq_false]
  simp only [lw_DriftChains.j1, Bool.false_eq_true, if_false, hE, Option.bind_some, if_true, bne_self_eq_false]
  cases own with
  | false => simpa using L
  | true =>
    rw [ho rfl]
    simpa using L
theorem chains_true (R : List S42) (E : List S80) (a b c : Int) : lw_DriftChains.f 1000 R E a b c = some true := by
  have skip : lw_DriftChains.j0 1000 a b c true R E = some true := by
    rw [show (1000 : Nat) = 999 + 1 from rfl]
    simp only [lw_DriftChains.j0, if_true]
  unfold lw_DriftChains.f lw_sane.f lw_small.f
  simp only [Option.bind_some, if_true, isPlan_val R E 1000 (by omega), skip]
  by_cases hs : (E.length : Int) ≤ 24
  · rw [decide_eq_true hs]
    simp only [if_true]
    cases hP : planOK R E with
    | false => simp
    | true =>
      have hK := (planOK_iff R E).1 hP
      simp only [if_true]
      by_cases h1 : a < 0
      · rw [if_pos h1]
      · rw [if_neg h1]
        by_cases h2 : a ≥ (E.length : Int)
        · rw [if_pos h2]
        · rw [if_neg h2]
          by_cases h3 : b < 0
          · rw [if_pos h3]
          · rw [if_neg h3]
            by_cases h4 : b ≥ (E.length : Int)
            · rw [if_pos h4]
            · rw [if_neg h4]
              by_cases h5 : c < 0
              · rw [if_pos h5]
              · rw [if_neg h5]
                by_cases h6 : c ≥ (E.length : Int)
                · rw [decide_eq_true h6]; exact skip
                · rw [decide_eq_false h6]
                  exact chains_main hK (by omega) a b c (by omega) (by omega) (by omega) 993
  · rw [decide_eq_false hs]
    simp
end Go.Proofs.Ytlfopemghafboaa.D
