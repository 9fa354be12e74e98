/- The plain law of DriftDemands: what Holds and Tight tell each run keeps, and some run reaches. No condition beyond each theorem's own hypotheses. -/
import Derived.Test.YtlfopemghafboaaDbr
import Derived.Test.YtlfopemghafboaaDx8
namespace Go.Proofs.Ytlfopemghafboaa.D
open Go.RowKit Go.Proofs.YtlfopemghafboaaW.PrintWords Go.Proofs.YtlfopemghafboaaW.PrintLast Go.Proofs.YtlfopemghafboaaW.PrintMore
set_option linter.unusedVariables false
set_option linter.unusedSimpArgs false
/-- Some times keep all binds, and reach what the shortest chain tells. -/
theorem tight_run {l : List S27} {n : Nat} {B : Int} (hO : BindsOK l n B) (p : Int → Int) (hp : Feas l p) (a b : Int) (ha : 0 ≤ a ∧ a < n) (hb : 0 ≤ b ∧ b < n) (m : Int) (hm : ∀ qs, FC l a b qs → m ≤ wsum l qs) : ∃ q, Feas l q ∧ m ≤ q b - q a := by
  have T : ∀ x : Int, ∃ z : Int × Bool, 0 ≤ x → x < n → (∀ qs, FC l a x qs → z.2 = true ∧ z.1 ≤ wsum l qs) ∧ (z.2 = true → ∃ qs, FC l a x qs ∧ wsum l qs = z.1) := by
    intro x
    by_cases hx : 0 ≤ x ∧ x < n
    · obtain ⟨k, ps, is, _, h2, h3, _⟩ := tight_spec hO p hp a x ha hx
      exact ⟨(k, is), fun _ _ => ⟨h3, fun h => ⟨ps, (h2 h).1, (h2 h).2.2⟩⟩⟩
    · exact ⟨(0, false), fun h0 h1 => absurd ⟨h0, h1⟩ hx⟩
  obtain ⟨f, hf⟩ := Classical.axiomOfChoice T
  have hin : ∀ i : Nat, i < l.length → (0 ≤ (rd_T27 l (i : Int)).f0 ∧ (rd_T27 l (i : Int)).f0 < n) ∧ (0 ≤ (rd_T27 l (i : Int)).f1 ∧ (rd_T27 l (i : Int)).f1 < n) := fun i hi => in_rd hO.inb i hi
  refine ⟨fun x => if (f x).2 = true then (if (f x).1 ≤ p x + (m - p b) then (f x).1 else p x + (m - p b)) else p x + (m - p b), ?_, ?_⟩
  · intro i hi
    have hpi := hp i hi
    obtain ⟨⟨u0, u1⟩, v0, v1⟩ := hin i hi
    simp only
    generalize hu : (rd_T27 l (i : Int)).f0 = u at hpi u0 u1
    generalize hv : (rd_T27 l (i : Int)).f1 = v at hpi v0 v1
    generalize hw : (rd_T27 l (i : Int)).f2 = w at hpi
    by_cases hr : (f u).2 = true
    · obtain ⟨qs, q1, q2⟩ := (hf u u0 u1).2 hr
      have hc : FC l a v (qs ++ [(i : Int)]) := FC_append qs [(i : Int)] a u v q1 ⟨⟨by omega, by omega⟩, hu, by rw [hv]; rfl⟩
      obtain ⟨g1, g2⟩ := (hf v v0 v1).1 _ hc
      rw [wsum_append] at g2
      have hs : wsum l [(i : Int)] = w := by simp [wsum, hw]
      rw [if_pos hr, if_pos g1]
      split <;> split <;> omega
    · rw [if_neg hr]
      split
      · split <;> omega
      · omega
  · simp only
    obtain ⟨g1, g2⟩ := (hf a ha.1 ha.2).1 [] rfl
    have hs : wsum l [] = 0 := rfl
    rw [if_pos g1]
    by_cases hr : (f b).2 = true
    · obtain ⟨qs, q1, q2⟩ := (hf b hb.1 hb.2).2 hr
      have := hm qs q1
      rw [if_pos hr]
      split <;> split <;> omega
    · rw [if_neg hr]
      split <;> omega
/-- What is told ahead of the first one that is so. -/
theorem idxOf_before {α : Type} (p : α → Bool) (xs : List α) (d : α) (i : Nat) (hi : i < xs.length) (h : idxOf p xs < 0 ∨ (i : Int) < idxOf p xs) : p (xs.getD i d) = false := by
  induction xs generalizing i with
  | nil => simp at hi
  | cons x r ih =>
    rw [idxOf_cons] at h
    by_cases hx : p x = true
    · rw [if_pos hx] at h; omega
    · rw [if_neg hx] at h
      cases i with
      | zero => simpa using hx
      | succ j =>
        have : (x :: r).getD (j + 1) d = r.getD j d := rfl
        rw [this]
        refine ih j (by simpa using hi) ?_
        split at h <;> omega
theorem idxOf_lt {α : Type} (p : α → Bool) (xs : List α) : idxOf p xs < xs.length ∧ -1 ≤ idxOf p xs := by
  induction xs with
  | nil => exact ⟨by simp [idxOf], by simp [idxOf]⟩
  | cons x r ih =>
    rw [idxOf_cons]
    simp only [List.length_cons]
    split
    · omega
    · split <;> omega
theorem runGo_none (bs : List S27) (ch : List Int) : ∀ (k : Nat) (ts qs : List Int), runGo bs ch k ts = some (qs, false) → qs = [] := by
  intro k
  induction k with
  | zero => intro ts qs h; simp [runGo] at h
  | succ k ih =>
    intro ts qs h
    rw [runGo] at h
    split at h
    · cases h
    · split at h
      · injection h with h; injection h with h1 h2; exact h1.symm
      · split at h
        · split at h
          · cases h
          · exact ih _ _ h
        · exact ih _ _ h
/-- What a row of times must be for the law. -/
def RowKeeps (E : List S80) (l : List S56) (at_ : Int) (X : List Int) : Prop := X.length = 0 ∨ (X.length = E.length ∧ ∀ i : Nat, i < l.length → (at_ < 0 ∨ (i : Int) < at_) → rf_Keeps.f X (rd_T56 l i).f0 (rd_T56 l i).f1 (rd_T56 l i).f2 (rd_T56 l i).f3 = some true)
theorem run_keeps {R : List S42} {E : List S80} (hK : PlanOK R E) (h24 : E.length ≤ 24) (d : S56) (hd : demOK E.length d = true) (hb : breachB R E d = false) (X : List Int) (hX : isRunB R E X = true) : rf_Keeps.f X d.f0 d.f1 d.f2 d.f3 = some true := by
  obtain ⟨x1, x2, x3, x4⟩ := (isRun_iff hK h24 X).1 hX
  obtain ⟨h0, h1, h2, h3⟩ := (demOK_iff _ d).1 hd
  have hn : ¬ ∃ b ∈ againstL d, ∃ p, Feas (bindsL R E ++ [b]) p := fun h => by rw [(breachB_iff hK h24 d hd).2 h] at hb; cases hb
  have hg : ∀ b ∈ againstL d, ¬ (rd X b.f1 - rd X b.f0 ≤ b.f2) := fun b hbm hle => hn ⟨b, hbm, rd X, feas_append.2 ⟨x4, fun c hc => by simp at hc; subst hc; exact hle⟩⟩
  rw [againstL_val hd] at hg
  have g1 := hg _ (List.mem_cons_self ..)
  simp only at g1
  have t0 := x3 d.f0 h0.1 h0.2
  have t1 := x3 d.f1 h1.1 h1.2
  unfold rf_Keeps.f
  rw [wrap64_id' (rd X d.f1 - rd X d.f0) (by omega) (by omega), if_pos h1.1, if_pos (by omega), if_pos h0.1, if_pos (by omega), if_pos (by omega)]
  by_cases c3 : d.f3 = -1
  · rw [if_pos c3]
  · rw [if_neg c3] at hg ⊢
    have g2 := hg _ (List.mem_cons_of_mem _ (List.mem_cons_self ..))
    simp only at g2
    rw [decide_eq_true (by omega)]
/-- What the law asks of its calls. -/
theorem demands_calls {R : List S42} {E : List S80} (hK : PlanOK R E) (h24 : E.length ≤ 24) (l : List S56) (h8 : l.length ≤ 8) (hd : ∀ d ∈ l, demOK E.length d = true) (ch : List Int) :
    ∃ at_ ts ran fs som, dr_Holds.f R E l = some (at_, 0) ∧ (-1 ≤ at_ ∧ at_ < l.length) ∧ dr_Run.f R E ch = some (ts, ran, 0) ∧ dr_Earliest.f R E = some (fs, som, 0) ∧ (ran = true → som = true ∧ isRunB R E ts = true) ∧ (som = true → isRunB R E fs = true) ∧ RowKeeps E l at_ ts ∧ RowKeeps E l at_ fs := by
  have hh := holds_api hK h24 l (by omega) hd
  have hlt := idxOf_lt (breachB R E) l
  obtain ⟨ts, ran, r1, r2⟩ := run_api hK h24 ch
  have hrow : ∀ X, isRunB R E X = true → RowKeeps E l (idxOf (breachB R E) l) X := by
    intro X hX
    right
    refine ⟨((isRun_iff hK h24 X).1 hX).1, fun i hi hat => ?_⟩
    have e : rd_T56 l (i : Int) = l.getD i z56 := rfl
    have hm : rd_T56 l (i : Int) ∈ l := by
      have e : rd_T56 l (i : Int) = l[i] := by simp [rd_T56, List.getD_eq_getElem?_getD, List.getElem?_eq_getElem hi]
      rw [e]
      exact List.getElem_mem hi
    exact run_keeps hK h24 _ (hd _ hm) (by rw [e]; exact idxOf_before (breachB R E) l _ i hi hat) X hX
  have hts : RowKeeps E l (idxOf (breachB R E) l) ts := by
    cases ran with
    | true => exact hrow ts (r2 rfl)
    | false =>
      left
      unfold dr_Run.f at r1
      rw [if_pos ((planOK_iff R E).2 hK)] at r1
      split at r1
      · cases r1
      · rename_i q hq
        injection r1 with r1
        injection r1 with e1 e2
        injection e2 with e2 e3
        rw [show q = (ts, false) from by rw [← e1, ← e2]] at hq
        rw [runGo_none _ _ _ _ _ hq]
        rfl
  rcases circle_api hK h24 with ⟨_, h2, h3, _⟩ | ⟨_, ⟨fs, h2, h3, _⟩, _, _⟩
  · refine ⟨_, ts, ran, [], false, hh, ⟨hlt.2, hlt.1⟩, r1, h2, fun h => ?_, (fun h => by cases h), hts, .inl rfl⟩
    exact absurd ((isRun_iff hK h24 ts).1 (r2 h)).2.2.2 (h3 _)
  · exact ⟨_, ts, ran, fs, true, hh, ⟨hlt.2, hlt.1⟩, r1, h2, fun h => ⟨rfl, r2 h⟩, fun _ => h3, hts, hrow fs h3⟩
theorem run_within {R : List S42} {E : List S80} (hK : PlanOK R E) (h24 : E.length ≤ 24) (a b : Int) (ha : 0 ≤ a ∧ a < E.length) (hb : 0 ≤ b ∧ b < E.length) (ps : List Int) (hF : FC (bindsL R E) a b ps) (m : Int) (hm : wsum (bindsL R E) ps = m) (X : List Int) (hX : isRunB R E X = true) : X.length = E.length ∧ wrap64 (rd X b - rd X a) ≤ m := by
  obtain ⟨x1, x2, x3, x4⟩ := (isRun_iff hK h24 X).1 hX
  have t0 := x3 a ha.1 ha.2
  have t1 := x3 b hb.1 hb.2
  have := FC_feas x4 ps a b hF
  rw [wrap64_id' _ (by omega) (by omega)]
  exact ⟨x1, by omega⟩
/-- What the law asks of Tight. -/
theorem demands_tight {R : List S42} {E : List S80} (hK : PlanOK R E) (h24 : E.length ≤ 24) (a b : Int) (ha : 0 ≤ a ∧ a < E.length) (hb : 0 ≤ b ∧ b < E.length) (fs : List Int) (som : Bool) (hf : dr_Earliest.f R E = some (fs, som, 0)) :
    ∃ m ps told, dr_Tight.f R E a b = some (m, ps, told, 0) ∧ (told = true → som = true ∧ (∀ X, isRunB R E X = true → X.length = E.length ∧ wrap64 (rd X b - rd X a) ≤ m) ∧ IntKind.i64.wrap (m - 1) = m - 1 ∧
      (decide (m < 1) = true ∨ (decide (m < 1) = false ∧ decide (m - 1 > 1000000) = true) ∨ ((decide (m < 1) = false ∧ decide (m - 1 > 1000000) = false) ∧ ∃ ts, dr_Breach.f R E a b 0 (m - 1) = some (ts, true, 0) ∧ isRunB R E ts = true))) := by
  obtain ⟨m, ps, told, h1, h2, h3, h4, h5, h6⟩ := tight_api hK h24 a b ha hb
  refine ⟨m, ps, told, h1, fun ht => ?_⟩
  obtain ⟨g1, g2, g3, p, g4⟩ := h2 ht
  have hO := bindsL_ok0 hK h24
  refine ⟨?_, fun X hX => run_within hK h24 a b ha hb ps g1 m g3 X hX, by rw [i64_w, wrap64_id' _ (by omega) (by omega)], ?_⟩
  · rcases circle_api hK h24 with ⟨_, k2, k3, _⟩ | ⟨_, ⟨us, k2, k3, _⟩, _, _⟩
    · exact absurd g4 (k3 p)
    · rw [k2] at hf; injection hf with hf; injection hf with _ hf; injection hf with hf _; exact hf.symm
  · by_cases c1 : m < 1
    · left; exact decide_eq_true c1
    · right
      by_cases c2 : m - 1 > 1000000
      · left; exact ⟨decide_eq_false c1, decide_eq_true c2⟩
      · right
        refine ⟨⟨decide_eq_false c1, decide_eq_false c2⟩, ?_⟩
        have hd : demOK E.length ⟨a, b, 0, m - 1⟩ = true := (demOK_iff _ _).2 ⟨ha, hb, by simp, by right; simp only; omega⟩
        obtain ⟨ts, is, b1, b2, b3⟩ := breach_val hK h24 ⟨a, b, 0, m - 1⟩ hd
        have hr : is = true := by
          refine b2.2 ?_
          obtain ⟨q, q1, q2⟩ := tight_run hO p g4 a b ha hb m (fun qs hq => (h4 p g4 qs hq).2)
          rw [againstL_val hd]
          simp only
          rw [if_neg (by omega)]
          refine ⟨⟨b, a, -(m - 1) - 1⟩, by simp, q, feas_append.2 ⟨q1, fun c hc => ?_⟩⟩
          simp only [List.mem_cons, List.not_mem_nil, or_false] at hc
          subst hc
          simp only
          omega
        subst hr
        refine ⟨ts, ?_, (b3 rfl).1⟩
        unfold dr_Breach.f
        rw [if_pos ((planOK_iff R E).2 hK), if_pos hd, b1]
end Go.Proofs.Ytlfopemghafboaa.D
