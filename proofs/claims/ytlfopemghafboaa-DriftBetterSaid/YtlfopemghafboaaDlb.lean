/- The plain law of DriftBetter: the law's printed function answers true for every plan, all rates, choices and demands. No condition. -/
import Derived.Test.YtlfopemghafboaaDbr
import Derived.Test.YtlfopemghafboaaDx21
namespace Go.Proofs.Ytlfopemghafboaa.D
open Go.RowKit Go.Proofs.YtlfopemghafboaaW.PrintWords Go.Proofs.YtlfopemghafboaaW.PrintLast Go.Proofs.YtlfopemghafboaaW.PrintMore
set_option linter.unusedVariables false
set_option linter.unusedSimpArgs false
/-- Clocks that are not worse. -/
def Finer (R R' : List S42) (i : Int) : Prop := (1 ≤ (rd_T42 R' i).f0 ∧ (rd_T42 R' i).f0 ≤ (rd_T42 R' i).f1 ∧ (rd_T42 R' i).f1 ≤ 1000000) ∧ (rd_T42 R i).f0 ≤ (rd_T42 R' i).f0 ∧ (rd_T42 R' i).f1 ≤ (rd_T42 R i).f1
theorem finer_plan {R R' : List S42} {E : List S80} (hK : PlanOK R E) (hl : R'.length = R.length) (h : ∀ i : Nat, i < R.length → Finer R R' i) : PlanOK R' E := by
  have hr : ∀ i : Int, 0 ≤ i → i < R'.length → 1 ≤ (rd_T42 R' i).f0 ∧ (rd_T42 R' i).f0 ≤ (rd_T42 R' i).f1 ∧ (rd_T42 R' i).f1 ≤ 1000000 := by
    intro i h0 h1
    obtain ⟨m, rfl⟩ : ∃ m : Nat, i = m := ⟨i.toNat, by omega⟩
    exact (h m (by omega)).1
  exact { kind := hK.kind, place := fun i hi => by rw [hl]; exact hK.place i hi, timer := hK.timer, rate := fun i h0 h1 => by have := hr i h0 h1; omega, len := hK.len, pos := hK.pos, rates := hr, rlen := by rw [hl]; exact hK.rlen, first := hK.first, ev1 := hK.ev1, ev2 := hK.ev2, ev3 := hK.ev3 }
theorem finer_feas {R R' : List S42} {E : List S80} (hK : PlanOK R E) (h24 : E.length ≤ 24) (hl : R'.length = R.length) (h : ∀ i : Nat, i < R.length → Finer R R' i) (p : Int → Int) (hp : Feas (bindsL R' E) p) : Feas (bindsL R E) p := by
  have hK' := finer_plan hK hl h
  rw [feas_iff] at hp ⊢
  intro b hb
  rcases (bindsL_cases b).1 hb with ⟨i, hi, hb⟩ | ⟨e, f, he, hf, hb⟩ | ⟨i, h0, hi, rfl⟩
  · exact hp b ((bindsL_cases b).2 (.inl ⟨i, hi, hb⟩))
  · have hpl := hK.place e (by omega)
    obtain ⟨m, hm⟩ : ∃ m : Nat, (rd_T80 E e).f0 = m := ⟨(rd_T80 E e).f0.toNat, by omega⟩
    have hfi := h m (by omega)
    rw [← hm] at hfi
    have t1 := ticks_24 hK h24 e (by omega)
    have t2 := ticks_24 hK h24 f hf
    have r1 := rate_at hK e (by omega)
    have hv := pairOne_val hK h24 e f (by omega) hf
    have hv' := pairOne_val hK' h24 e f (by omega) hf
    have hin : ∀ c ∈ pairOne R' E (rdL E E.length).1 (rdL E E.length).2 e f, p c.f1 - p c.f0 ≤ c.f2 := fun c hc => hp c ((bindsL_cases c).2 (.inr (.inl ⟨e, f, he, hf, hc⟩)))
    rw [hv] at hb
    rw [hv'] at hin
    obtain ⟨q1, q2, q3⟩ := hfi
    by_cases ho : rd (rdL E E.length).1 e = rd (rdL E E.length).1 f
    · rw [if_pos ho] at hb hin
      by_cases hx : rd (rdL E E.length).2 f < rd (rdL E E.length).2 e
      · rw [if_pos hx] at hb hin
        have g1 := hin _ (List.mem_cons_self ..)
        have g2 := hin _ (List.mem_cons_of_mem _ (List.mem_cons_self ..))
        have m1 := div_mono (n := rd (rdL E E.length).2 e - rd (rdL E E.length).2 f) (by omega) r1.1 q2
        have m2 := up_mono (n := rd (rdL E E.length).2 e - rd (rdL E E.length).2 f) (by omega) (by omega) q3
        simp only [List.mem_cons, List.not_mem_nil, or_false] at hb
        rcases hb with rfl | rfl <;> (simp only at g1 g2 ⊢; omega)
      · rw [if_neg hx] at hb hin
        have g1 := hin _ (List.mem_cons_self ..)
        have g2 := hin _ (List.mem_cons_of_mem _ (List.mem_cons_self ..))
        have m1 := div_mono (n := rd (rdL E E.length).2 f - rd (rdL E E.length).2 e) (by omega) r1.1 q2
        have m2 := up_mono (n := rd (rdL E E.length).2 f - rd (rdL E E.length).2 e) (by omega) (by omega) q3
        simp only [List.mem_cons, List.not_mem_nil, or_false] at hb
        rcases hb with rfl | rfl <;> (simp only at g1 g2 ⊢; omega)
    · rw [if_neg ho] at hb; cases hb
  · exact hp _ ((bindsL_cases _).2 (.inr (.inr ⟨i, h0, hi, rfl⟩)))
theorem isDemand_val (R : List S42) (E : List S80) (d : S56) : rf_IsDemand.f R E d.f0 d.f1 d.f2 d.f3 = some (demOK E.length d) := by
  have h := demOK_iff E.length d
  have ht : (demOK E.length d = true) ↔ _ := h
  unfold rf_IsDemand.f
  by_cases c : demOK E.length d = true
  · have := h.1 c
    rw [c, if_pos (by omega), if_pos (by omega), if_pos (by omega), if_pos (by omega), if_pos (by omega), if_pos (by omega)]
    by_cases c3 : d.f3 = -1
    · rw [if_pos c3]
    · rw [if_neg c3, if_pos (by omega), decide_eq_true (by omega)]
  · have hn : ¬ ((0 ≤ d.f0 ∧ d.f0 < E.length) ∧ (0 ≤ d.f1 ∧ d.f1 < E.length) ∧ (0 ≤ d.f2 ∧ d.f2 ≤ 1000000) ∧ (d.f3 = -1 ∨ (d.f2 ≤ d.f3 ∧ d.f3 ≤ 1000000))) := fun hh => c (h.2 hh)
    have cf : demOK E.length d = false := by simpa using c
    rw [cf]
    split
    · split
      · split
        · split
          · split
            · split
              · split
                · omega
                · split
                  · rw [decide_eq_false (by omega)]
                  · rfl
              · rfl
            · rfl
          · rfl
        · rfl
      · rfl
    · rfl
theorem better_j3 {R R' : List S42} {E : List S80} (hK : PlanOK R E) (h24 : E.length ≤ 24) (hl : R'.length = R.length) (h : ∀ i : Nat, i < R.length → Finer R R' i) (l : List S56) (hd : ∀ d ∈ l, demOK E.length d = true) (h8 : l.length ≤ 8) (n : Nat) : lw_DriftBetter.j3 (n + 1) l false R E R' E = some true := by
  have hK' := finer_plan hK hl h
  simp only [lw_DriftBetter.j3, Bool.false_eq_true, if_false, holds_api hK h24 l (by omega) hd, holds_api hK' h24 l (by omega) hd, Option.bind_some, if_true]
  have hm := idxOf_mono (breachB R E) (breachB R' E) l (by
    intro d hdl hq
    have hdo := hd d hdl
    obtain ⟨b, hb, p, hp⟩ := (breachB_iff hK' h24 d hdo).1 hq
    obtain ⟨f1, f2⟩ := feas_append.1 hp
    exact (breachB_iff hK h24 d hdo).2 ⟨b, hb, p, feas_append.2 ⟨finer_feas hK h24 hl h p f1, f2⟩⟩)
  have g1 := idxOf_ge (breachB R E) l
  have g2 := idxOf_ge (breachB R' E) l
  by_cases c1 : idxOf (breachB R E) l = -1
  · rw [if_pos c1, if_pos (by omega)]
  · rw [if_neg c1]
    by_cases c2 : idxOf (breachB R' E) l = -1
    · rw [if_pos c2]
    · rw [if_neg c2, if_pos (by omega), decide_eq_true (by omega)]
theorem better_end {R R' : List S42} {E : List S80} (hK : PlanOK R E) (h24 : E.length ≤ 24) (hl : R'.length = R.length) (h : ∀ i : Nat, i < R.length → Finer R R' i) (ch : List Int) (l : List S56) (hd : ∀ d ∈ l, demOK E.length d = true) (h8 : l.length ≤ 8) (n : Nat) : lw_DriftBetter.l1 (n + 1 + 1) R' ch l (l.length : Int) R E = some true := by
  have hK' := finer_plan hK hl h
  obtain ⟨ts, ran, r1, r2⟩ := run_api hK' h24 ch
  have J := better_j3 hK h24 hl h l hd h8 n
  rw [lw_DriftBetter.l1, if_neg (by omega), r1]
  simp only [Option.bind_some, if_true]
  cases ran with
  | false => simpa using J
  | true =>
    obtain ⟨g1, g2, g3, g4⟩ := (isRun_iff hK' h24 ts).1 (r2 rfl)
    have hR : isRunB R E ts = true := (isRun_iff hK h24 ts).2 ⟨g1, g2, g3, finer_feas hK h24 hl h _ g4⟩
    unfold dr_CheckTimes.f
    rw [if_pos ((planOK_iff R E).2 hK), if_pos hR]
    simpa using J
theorem rd56_mem (l : List S56) (i : Nat) (hi : i < l.length) : rd_T56 l (i : Int) ∈ l := by
  have e : rd_T56 l (i : Int) = l[i] := by simp [rd_T56, List.getD_eq_getElem?_getD, List.getElem?_eq_getElem hi]
  rw [e]
  exact List.getElem_mem hi
theorem rd56_of (l : List S56) (P : S56 → Prop) (h : ∀ i : Nat, i < l.length → P (rd_T56 l i)) : ∀ d ∈ l, P d := by
  intro d hd
  obtain ⟨i, hi, rfl⟩ := List.getElem_of_mem hd
  have := h i hi
  rwa [show rd_T56 l (i : Int) = l[i] by simp [rd_T56, List.getD_eq_getElem?_getD, List.getElem?_eq_getElem hi]] at this
theorem better_l1 {R R' : List S42} {E : List S80} (hK : PlanOK R E) (h24 : E.length ≤ 24) (hl : R'.length = R.length) (h : ∀ i : Nat, i < R.length → Finer R R' i) (ch : List Int) (l : List S56) (h8 : l.length ≤ 8) (n : Nat) :
    ∀ d i : Nat, i + d = l.length → (∀ j : Nat, j < i → demOK E.length (rd_T56 l j) = true) → lw_DriftBetter.l1 (n + 1 + 1 + d) R' ch l (i : Int) R E = some true := by
  intro d
  induction d with
  | zero =>
    intro i hi hj
    obtain rfl : i = l.length := by omega
    exact better_end hK h24 hl h ch l (rd56_of l _ hj) h8 n
  | succ d ih =>
    intro i hi hj
    rw [← Nat.add_assoc, lw_DriftBetter.l1, if_pos (by omega), if_pos (by omega), isDemand_val]
    simp only [Option.bind_some]
    by_cases c : demOK E.length (rd_T56 l (i : Int)) = true
    · rw [if_pos c, wsucc i (by omega)]
      refine ih (i + 1) (by omega) (fun j hj' => ?_)
      by_cases ej : j = i
      · subst ej; exact c
      · exact hj j (by omega)
    · rw [if_neg c]
theorem better_l0 {R R' : List S42} {E : List S80} (hK : PlanOK R E) (h24 : E.length ≤ 24) (hl : R'.length = R.length) (ch : List Int) (l : List S56) (h8 : l.length ≤ 8) (n : Nat) :
    ∀ d i : Nat, i + d = R'.length → (∀ j : Nat, j < i → Finer R R' j) → lw_DriftBetter.l0 (n + 1 + 1 + l.length + 1 + d) R' ch l (i : Int) R E = some true := by
  intro d
  have hr := hK.rlen
  induction d with
  | zero =>
    intro i hi hj
    rw [Nat.add_zero, lw_DriftBetter.l0, if_neg (by omega)]
    exact better_l1 hK h24 hl (fun j hj' => hj j (by omega)) ch l h8 n l.length 0 (by omega) (fun j hj => by omega)
  | succ d ih =>
    intro i hi hj
    rw [← Nat.add_assoc, lw_DriftBetter.l0, if_pos (by omega), if_pos (by omega)]
    have hv : rf_IsRate.f (rd_T42 R' (i : Int)).f0 (rd_T42 R' (i : Int)).f1 = some (decide (1 ≤ (rd_T42 R' (i : Int)).f0 ∧ (rd_T42 R' (i : Int)).f0 ≤ (rd_T42 R' (i : Int)).f1 ∧ (rd_T42 R' (i : Int)).f1 ≤ 1000000)) := by
      unfold rf_IsRate.f
      by_cases c1 : (rd_T42 R' (i : Int)).f0 ≥ 1
      · rw [if_pos c1]
        by_cases c2 : (rd_T42 R' (i : Int)).f0 ≤ (rd_T42 R' (i : Int)).f1
        · rw [if_pos c2]; congr 1; rw [decide_eq_decide]; omega
        · rw [if_neg c2, decide_eq_false (by omega)]
      · rw [if_neg c1, decide_eq_false (by omega)]
    rw [hv]
    simp only [Option.bind_some, decide_eq_true_eq]
    by_cases c : 1 ≤ (rd_T42 R' (i : Int)).f0 ∧ (rd_T42 R' (i : Int)).f0 ≤ (rd_T42 R' (i : Int)).f1 ∧ (rd_T42 R' (i : Int)).f1 ≤ 1000000
    · rw [if_pos c, if_pos (by omega)]
      by_cases c1 : (rd_T42 R' (i : Int)).f0 < (rd_T42 R (i : Int)).f0
      · rw [if_pos c1]
      · rw [if_neg c1]
        by_cases c2 : (rd_T42 R' (i : Int)).f1 > (rd_T42 R (i : Int)).f1
        · rw [if_pos c2]
        · rw [if_neg c2, wsucc i (by omega)]
          refine ih (i + 1) (by omega) (fun j hj' => ?_)
          by_cases ej : j = i
          · subst ej; exact ⟨c, by omega, by omega⟩
          · exact hj j (by omega)
    · rw [if_neg c]
theorem better_true (R : List S42) (E : List S80) (R' : List S42) (ch : List Int) (l : List S56) : lw_DriftBetter.f 1000 R E R' ch l = some true := by
  have skip : lw_DriftBetter.j0 1000 R' ch l true R E = some true := by
    rw [show (1000 : Nat) = 999 + 1 from rfl]
    simp only [lw_DriftBetter.j0, if_true]
  unfold lw_DriftBetter.f lw_sane.f
  simp only [Option.bind_some, if_true, isPlan_val R E 1000 (by omega), skip]
  by_cases hs : (E.length : Int) > 16
  · rw [if_pos hs]
  · rw [if_neg hs]
    cases hP : planOK R E with
    | false => simp
    | true =>
      have hK := (planOK_iff R E).1 hP
      simp only [if_true]
      by_cases h1 : (R'.length : Int) = (R.length : Int)
      · rw [if_pos h1]
        by_cases h2 : (l.length : Int) > 8
        · rw [decide_eq_true h2]; exact skip
        · rw [decide_eq_false h2, show (1000 : Nat) = 999 + 1 from rfl]
          simp only [lw_DriftBetter.j0, Bool.false_eq_true, if_false]
          have hr := hK.rlen
          rw [show (999 : Nat) = (999 - l.length - R'.length - 3) + 1 + 1 + l.length + 1 + R'.length by omega]
          exact better_l0 hK (by omega) (by omega) ch l (by omega) _ R'.length 0 (by omega) (fun j hj => by omega)
      · rw [if_neg h1]
end Go.Proofs.Ytlfopemghafboaa.D
