/- The plain law of DriftDemands: what Holds and Tight tell each run keeps, and some run reaches. No condition beyond each theorem's own hypotheses. -/
import Derived.Test.YtlfopemghafboaaDru
import Derived.Test.YtlfopemghafboaaDx8
namespace Go.Proofs.Ytlfopemghafboaa.D
open Go.RowKit Go.Proofs.YtlfopemghafboaaW.PrintWords Go.Proofs.YtlfopemghafboaaW.PrintLast Go.Proofs.YtlfopemghafboaaW.PrintMore
set_option linter.unusedVariables false
set_option linter.unusedSimpArgs false
theorem breachGo_val {R : List S42} {E : List S80} (hK : PlanOK R E) (h24 : E.length ≤ 24) : ∀ m : List S27, (∀ b ∈ m, InB E.length b) → (∀ b ∈ m, -24000000000000 ≤ b.f2 ∧ b.f2 ≤ 24000000000000) →
    ∃ ts is, breachGo (bindsL R E) E.length m = some (ts, is) ∧ (is = true ↔ ∃ b ∈ m, ∃ p, Feas (bindsL R E ++ [b]) p) ∧ (is = true → isRunB R E ts = true ∧ ∃ b ∈ m, rd ts b.f1 - rd ts b.f0 ≤ b.f2) := by
  intro m
  induction m with
  | nil => intro _ _; exact ⟨[], false, rfl, by simp, fun h => by cases h⟩
  | cons b r ih =>
    intro hI hB
    obtain ⟨ts, is, h1, h2, h3⟩ := ih (fun c hc => hI c (by simp [hc])) (fun c hc => hB c (by simp [hc]))
    have hO := bindsL_ok (R := R) hK h24 [b] (by simp) (by intro c hc; simp at hc; subst hc; exact hI _ (by simp)) (by intro c hc; simp at hc; subst hc; exact hB _ (by simp))
    rcases earliest_spec hO (fun x h0 h1 => bindsL_zero [b] x h0 h1) with ⟨g1, g2, _⟩ | ⟨us, g1, g2, g3, g4, g5, g6, _⟩
    · refine ⟨ts, is, by rw [breachGo, g1]; exact h1, ?_, fun h => ?_⟩
      · rw [h2]
        constructor
        · rintro ⟨c, hc, hp⟩; exact ⟨c, by simp [hc], hp⟩
        · rintro ⟨c, hc, p, hp⟩
          rcases List.mem_cons.1 hc with rfl | hc
          · exact absurd hp (g2 p)
          · exact ⟨c, hc, p, hp⟩
      · obtain ⟨k1, c, hc, k2⟩ := h3 h
        exact ⟨k1, c, by simp [hc], k2⟩
    · obtain ⟨f1, f2⟩ := feas_append.1 g3
      refine ⟨us, true, by rw [breachGo, g1], ⟨fun _ => ⟨b, by simp, _, g3⟩, fun _ => rfl⟩, fun _ => ⟨?_, b, by simp, f2 b (by simp)⟩⟩
      refine (isRun_iff hK h24 us).2 ⟨g2, g4, fun x h0 h8 => ⟨g5 x h0 h8, ?_⟩, f1⟩
      obtain ⟨ps, k1, k2, k3⟩ := g6 x h0 h8
      have hb := (wsum_bd hO.bd ps x 0 k1).1
      have : (ps.length : Int) * 24000000000000 ≤ 24 * 24000000000000 := Int.mul_le_mul_of_nonneg_right (by omega) (by omega)
      omega
theorem demOK_iff (n : Nat) (d : S56) : demOK n d = true ↔ (0 ≤ d.f0 ∧ d.f0 < n) ∧ (0 ≤ d.f1 ∧ d.f1 < n) ∧ (0 ≤ d.f2 ∧ d.f2 ≤ 1000000) ∧ (d.f3 = -1 ∨ (d.f2 ≤ d.f3 ∧ d.f3 ≤ 1000000)) := by
  unfold demOK betweenB
  simp only [Bool.and_eq_true, Bool.or_eq_true, decide_eq_true_eq, beq_iff_eq]
  omega
theorem againstL_val {n : Nat} {d : S56} (h : demOK n d = true) : againstL d = (⟨d.f0, d.f1, d.f2 - 1⟩ : S27) :: (if d.f3 = -1 then [] else [(⟨d.f1, d.f0, -d.f3 - 1⟩ : S27)]) := by
  obtain ⟨h0, h1, h2, h3⟩ := (demOK_iff n d).1 h
  unfold againstL
  rw [wrap64_id' (d.f2 - 1) (by omega) (by omega)]
  by_cases hd : d.f3 = -1
  · rw [if_neg (by omega), if_pos hd]; rfl
  · rw [if_pos (by omega), if_neg hd, wrap64_id' (-d.f3) (by omega) (by omega), wrap64_id' _ (by omega) (by omega)]; rfl
/-- What breach tells. -/
theorem breach_val {R : List S42} {E : List S80} (hK : PlanOK R E) (h24 : E.length ≤ 24) (d : S56) (hd : demOK E.length d = true) :
    ∃ ts is, breachF R E d = some (ts, is) ∧ (is = true ↔ ∃ b ∈ againstL d, ∃ p, Feas (bindsL R E ++ [b]) p) ∧ (is = true → isRunB R E ts = true ∧ ∃ b ∈ againstL d, rd ts b.f1 - rd ts b.f0 ≤ b.f2) := by
  obtain ⟨h0, h1, h2, h3⟩ := (demOK_iff _ d).1 hd
  refine breachGo_val hK h24 (againstL d) (againstL_in h0 h1) ?_
  rw [againstL_val hd]
  intro b hb
  split at hb
  · simp only [List.mem_cons, List.not_mem_nil, or_false] at hb
    subst hb
    simp only
    omega
  · simp only [List.mem_cons, List.not_mem_nil, or_false] at hb
    rcases hb with rfl | rfl <;> (simp only; omega)
theorem breachB_iff {R : List S42} {E : List S80} (hK : PlanOK R E) (h24 : E.length ≤ 24) (d : S56) (hd : demOK E.length d = true) : breachB R E d = true ↔ ∃ b ∈ againstL d, ∃ p, Feas (bindsL R E ++ [b]) p := by
  obtain ⟨ts, is, h1, h2, h3⟩ := breach_val hK h24 d hd
  unfold breachB
  rw [h1]
  exact h2
/-- What Holds tells. -/
theorem holds_api {R : List S42} {E : List S80} (hK : PlanOK R E) (h24 : E.length ≤ 24) (l : List S56) (hl : l.length ≤ 200) (hd : ∀ d ∈ l, demOK E.length d = true) : dr_Holds.f R E l = some (idxOf (breachB R E) l, 0) := by
  unfold dr_Holds.f
  have h1 : (l.any fun d => !demOK E.length d) = false := by
    rw [List.any_eq_false]
    intro d h
    simp [hd d h]
  have h2 : (l.all fun d => (breachF R E d).isSome) = true := by
    rw [List.all_eq_true]
    intro d h
    obtain ⟨ts, is, g1, _⟩ := breach_val hK h24 d (hd d h)
    rw [g1]; rfl
  rw [if_pos ((planOK_iff R E).2 hK), if_neg (by rw [h1]; rintro (h | h); omega; cases h), if_pos h2]
theorem idxOf_cons {α : Type} (p : α → Bool) (x : α) (r : List α) : idxOf p (x :: r) = if p x = true then 0 else (if idxOf p r = -1 then -1 else idxOf p r + 1) := by
  unfold idxOf
  rw [List.findIdx?_cons]
  by_cases h : p x = true
  · rw [if_pos h, if_pos h]; rfl
  · rw [if_neg h, if_neg h]
    cases hq : List.findIdx? p r with
    | none => simp
    | some i => simp
end Go.Proofs.Ytlfopemghafboaa.D
namespace Go.Proofs.Ytlfopemghafboaa.D
open Go.RowKit Go.Proofs.YtlfopemghafboaaW.PrintWords Go.Proofs.YtlfopemghafboaaW.PrintLast Go.Proofs.YtlfopemghafboaaW.PrintMore
set_option linter.unusedVariables false
set_option linter.unusedSimpArgs false
/-- Some times keep all binds, and reach what the shortest chain tells. -/
theorem tight_run {l : List S27} {n : Nat} {B : Int} (hO : BindsOK l n B) (p : Int → Int) (hp : Feas l p) (a b : Int) (ha : 0 ≤ a ∧ a < n) (hb : 0 ≤ b ∧ b < n) (m : Int) (hm : ∀ qs, FC l a b qs → m ≤ wsum l qs) : ∃ q, Feas l q ∧ m ≤ q b - q a := by
  have T : ∀ x : Int, ∃ z : Int × Bool, 0 ≤ x → x < n → (∀ qs, FC l a x qs → z.2 = true ∧ z.1 ≤ wsum l qs) ∧ (z.2 = true → ∃ qs, FC l a x qs ∧ wsum l qs = z.1) := by
    intro x
    by_cases hx : 0 ≤ x ∧ x < n
    · obtain ⟨k, ps, is, _, h2, h3, _⟩ := tight_spec hO p hp a x ha hx
      exact ⟨(k, is), fun _ _ => ⟨h3, fun h => ⟨ps, (h2 h).1, (h2 h).2.2⟩⟩⟩
    · exact ⟨(0, false), fun h0 h1 => absurd ⟨h0, h1⟩ hx⟩
  obtain ⟨f, hf⟩ := Classical.axiomOfChoice T
  have hin : ∀ i : Nat, i < l.length → (0 ≤ (rd_T27 l (i : Int)).f0 ∧ (rd_T27 l (i : Int)).f0 < n) ∧ (0 ≤ (rd_T27 l (i : Int)).f1 ∧ (rd_T27 l (i : Int)).f1 < n) := fun i hi => in_rd hO.inb i hi
  refine ⟨fun x => if (f x).2 = true then (if (f x).1 ≤ p x + (m - p b) then (f x).1 else p x + (m - p b)) else p x + (m - p b), ?_, ?_⟩
  · intro i hi
    have hpi := hp i hi
    obtain ⟨⟨u0, u1⟩, v0, v1⟩ := hin i hi
    simp only
    generalize hu : (rd_T27 l (i : Int)).f0 = u at hpi u0 u1
    generalize hv : (rd_T27 l (i : Int)).f1 = v at hpi v0 v1
    generalize hw : (rd_T27 l (i : Int)).f2 = w at hpi
    by_cases hr : (f u).2 = true
    · obtain ⟨qs, q1, q2⟩ := (hf u u0 u1).2 hr
      have hc : FC l a v (qs ++ [(i : Int)]) := FC_append qs [(i : Int)] a u v q1 ⟨⟨by omega, by omega⟩, hu, by rw [hv]; rfl⟩
      obtain ⟨g1, g2⟩ := (hf v v0 v1).1 _ hc
      rw [wsum_append] at g2
      have hs : wsum l [(i : Int)] = w := by simp [wsum, hw]
      rw [if_pos hr, if_pos g1]
      split <;> split <;> omega
    · rw [if_neg hr]
      split
      · split <;> omega
      · omega
  · simp only
    obtain ⟨g1, g2⟩ := (hf a ha.1 ha.2).1 [] rfl
    have hs : wsum l [] = 0 := rfl
    rw [if_pos g1]
    by_cases hr : (f b).2 = true
    · obtain ⟨qs, q1, q2⟩ := (hf b hb.1 hb.2).2 hr
      have := hm qs q1
      rw [if_pos hr]
      split <;> split <;> omega
    · rw [if_neg hr]
      split <;> omega
end Go.Proofs.Ytlfopemghafboaa.D
