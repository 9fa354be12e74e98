/- Runs, the earliest times and the least binds of a plan with few events, as the API's functions tell them. No condition beyond each theorem's own hypotheses. -/
import Derived.Test.YtlfopemghafboaaDbl
import Derived.Test.YtlfopemghafboaaDapi
namespace Go.Proofs.Ytlfopemghafboaa.D
open Go.RowKit Go.Proofs.YtlfopemghafboaaW.PrintWords Go.Proofs.YtlfopemghafboaaW.PrintLast Go.Proofs.YtlfopemghafboaaW.PrintMore
set_option linter.unusedVariables false
set_option linter.unusedSimpArgs false
theorem wsucc (i : Nat) (h : i ≤ 1000000) : wrap64 ((i : Int) + 1) = ((i + 1 : Nat) : Int) := by rw [wrap64_id' _ (by omega) (by omega)]; omega
theorem mn_le (a b : Int) : mn a b ≤ a ∧ mn a b ≤ b := by unfold mn; split <;> omega
theorem le_mx (a b : Int) : a ≤ mx a b ∧ b ≤ mx a b := by unfold mx; split <;> omega
/-- The window of an event keeps to all binds to the events before it. -/
theorem window_val (bs : List S27) (ts : List Int) (N e : Nat) (hts : ts.length = e) (hI : ∀ b ∈ bs, InB N b) (hB : ∀ i : Nat, i < bs.length → -24000000000000 ≤ (rd_T27 bs i).f2 ∧ (rd_T27 bs i).f2 ≤ 24000000000000) (hlen : bs.length ≤ 100000)
    (ht : ∀ x : Int, 0 ≤ x → x < e → 0 ≤ rd ts x ∧ rd ts x ≤ 1000000000000000) : ∀ (d i n : Nat) (lo hi : Int), i + d = bs.length → 2 * d + 1 ≤ n →
    ∃ lo' hi', dr_window.l0 n ts (e : Int) lo hi bs (bs.length : Int) (i : Int) = some (lo', hi') ∧ lo ≤ lo' ∧ hi' ≤ hi ∧
      (∀ k : Nat, i ≤ k → k < bs.length → ((rd_T27 bs k).f1 = e → (rd_T27 bs k).f0 < e → hi' ≤ rd ts (rd_T27 bs k).f0 + (rd_T27 bs k).f2) ∧ ((rd_T27 bs k).f0 = e → (rd_T27 bs k).f1 < e → rd ts (rd_T27 bs k).f1 - (rd_T27 bs k).f2 ≤ lo')) := by
  intro d
  induction d with
  | zero =>
    intro i n lo hi h1 h2
    obtain ⟨m, rfl⟩ : ∃ m, n = m + 1 := ⟨n - 1, by omega⟩
    refine ⟨lo, hi, ?_, by omega, by omega, fun k h3 h4 => by omega⟩
    simp only [dr_window.l0]
    rw [if_neg (by omega)]
  | succ d ih =>
    intro i n lo hi h1 h2
    obtain ⟨m, rfl⟩ : ∃ m, n = m + 1 + 1 := ⟨n - 2, by omega⟩
    have hz : (0 ≤ (rd_T27 bs (i : Int)).f0 ∧ (rd_T27 bs (i : Int)).f0 < N) ∧ (0 ≤ (rd_T27 bs (i : Int)).f1 ∧ (rd_T27 bs (i : Int)).f1 < N) := in_rd hI i (by omega)
    have hb := hB i (by omega)
    have next : ∀ lo1 hi1 : Int, lo ≤ lo1 → hi1 ≤ hi → (((rd_T27 bs i).f1 = e → (rd_T27 bs i).f0 < e → hi1 ≤ rd ts (rd_T27 bs i).f0 + (rd_T27 bs i).f2) ∧ ((rd_T27 bs i).f0 = e → (rd_T27 bs i).f1 < e → rd ts (rd_T27 bs i).f1 - (rd_T27 bs i).f2 ≤ lo1)) →
        ∃ lo' hi', dr_window.l0 m ts (e : Int) lo1 hi1 bs (bs.length : Int) (wrap64 ((i : Int) + 1)) = some (lo', hi') ∧ lo ≤ lo' ∧ hi' ≤ hi ∧
      (∀ k : Nat, i ≤ k → k < bs.length → ((rd_T27 bs k).f1 = e → (rd_T27 bs k).f0 < e → hi' ≤ rd ts (rd_T27 bs k).f0 + (rd_T27 bs k).f2) ∧ ((rd_T27 bs k).f0 = e → (rd_T27 bs k).f1 < e → rd ts (rd_T27 bs k).f1 - (rd_T27 bs k).f2 ≤ lo')) := by
      intro lo1 hi1 g1 g2 g3
      obtain ⟨lo', hi', k1, k2, k3, k4⟩ := ih (i + 1) m lo1 hi1 (by omega) (by omega)
      rw [wsucc i (by omega)]
      refine ⟨lo', hi', k1, by omega, by omega, fun k h3 h4 => ?_⟩
      by_cases ek : k = i
      · subst ek
        exact ⟨fun q1 q2 => Int.le_trans k3 (g3.1 q1 q2), fun q1 q2 => Int.le_trans (g3.2 q1 q2) k2⟩
      · exact k4 k (by omega) h4
    simp only [dr_window.l0]
    rw [if_pos (by omega), if_pos (by omega), if_pos (by omega)]
    by_cases hto : (rd_T27 bs (i : Int)).f1 = e
    · rw [if_pos hto]
      simp only [dr_window.j1]
      by_cases hfr : (rd_T27 bs (i : Int)).f0 < e
      · rw [if_pos (decide_eq_true hfr), if_pos hz.1.1, if_pos (by omega)]
        have hx := ht _ hz.1.1 hfr
        have hw : wrap64 (rd ts (rd_T27 bs (i : Int)).f0 + (rd_T27 bs (i : Int)).f2) = rd ts (rd_T27 bs (i : Int)).f0 + (rd_T27 bs (i : Int)).f2 := wrap64_id' _ (by omega) (by omega)
        rw [hw]
        have hm := mn_le hi (rd ts (rd_T27 bs (i : Int)).f0 + (rd_T27 bs (i : Int)).f2)
        exact next _ _ (Int.le_refl _) hm.1 ⟨fun _ _ => hm.2, fun h _ => by omega⟩
      · rw [if_neg (by simpa using hfr)]
        by_cases hfe : (rd_T27 bs (i : Int)).f0 = e
        · rw [if_pos hfe, if_neg (by omega)]
          exact next _ _ (Int.le_refl _) (Int.le_refl _) ⟨fun _ h => absurd h hfr, fun _ h => by omega⟩
        · rw [if_neg hfe]
          exact next _ _ (Int.le_refl _) (Int.le_refl _) ⟨fun _ h => absurd h hfr, fun h _ => absurd h hfe⟩
    · rw [if_neg hto]
      simp only [dr_window.j1, Bool.false_eq_true, if_false]
      by_cases hfe : (rd_T27 bs (i : Int)).f0 = e
      · rw [if_pos hfe]
        by_cases hte : (rd_T27 bs (i : Int)).f1 < e
        · rw [if_pos hte, if_pos hz.2.1, if_pos (by omega)]
          have hx := ht _ hz.2.1 hte
          have hw : wrap64 (rd ts (rd_T27 bs (i : Int)).f1 - (rd_T27 bs (i : Int)).f2) = rd ts (rd_T27 bs (i : Int)).f1 - (rd_T27 bs (i : Int)).f2 := wrap64_id' _ (by omega) (by omega)
          rw [hw]
          have hm := le_mx lo (rd ts (rd_T27 bs (i : Int)).f1 - (rd_T27 bs (i : Int)).f2)
          exact next _ _ hm.1 (Int.le_refl _) ⟨fun h _ => absurd h hto, fun _ _ => hm.2⟩
        · rw [if_neg hte]
          exact next _ _ (Int.le_refl _) (Int.le_refl _) ⟨fun h _ => absurd h hto, fun _ h => absurd h hte⟩
      · rw [if_neg hfe]
        exact next _ _ (Int.le_refl _) (Int.le_refl _) ⟨fun h _ => absurd h hto, fun h _ => absurd h hfe⟩
/-- A choice is taken round into the window. -/
theorem tmod_bd (c k : Int) (h0 : 0 < k) : -k < Int.tmod c k ∧ Int.tmod c k < k := by
  refine ⟨?_, Int.tmod_lt_of_pos c h0⟩
  rcases Int.le_total 0 c with h | h
  · have := Int.tmod_nonneg k h; omega
  · have h1 := Int.tmod_lt_of_pos (-c) h0
    rw [Int.neg_tmod] at h1
    omega
theorem pick_in (c k : Int) (h0 : 0 < k) (h1 : k ≤ 1000000000000001) : 0 ≤ Int.tmod (wrap64 (Int.tmod c k + k)) k ∧ Int.tmod (wrap64 (Int.tmod c k + k)) k < k := by
  have h2 := tmod_bd c k h0
  rw [wrap64_id' _ (by omega) (by omega)]
  exact ⟨Int.tmod_nonneg k (by omega), Int.tmod_lt_of_pos _ h0⟩
/-- Times so far that keep the binds so far. -/
structure SoFar (bs : List S27) (ts : List Int) : Prop where
  pos : 1 ≤ ts.length
  first : rd ts 0 = 0
  bd : ∀ x : Int, 0 ≤ x → x < ts.length → 0 ≤ rd ts x ∧ rd ts x ≤ 1000000000000000
  keep : ∀ i : Nat, i < bs.length → (rd_T27 bs i).f0 < ts.length → (rd_T27 bs i).f1 < ts.length → rd ts (rd_T27 bs i).f1 - rd ts (rd_T27 bs i).f0 ≤ (rd_T27 bs i).f2
theorem rd_app_lt (xs : List Int) (y x : Int) (h0 : 0 ≤ x) (h1 : x < xs.length) : rd (xs ++ [y]) x = rd xs x := by
  obtain ⟨m, rfl⟩ : ∃ m : Nat, x = m := ⟨x.toNat, by omega⟩
  exact rd_append_lt xs [y] m (by omega)
theorem SoFar.next {bs : List S27} {ts : List Int} {N : Nat} (hI : ∀ b ∈ bs, InB N b) (hne : ∀ i : Nat, i < bs.length → (rd_T27 bs i).f0 ≠ (rd_T27 bs i).f1) (h : SoFar bs ts) (t lo hi : Int) (h0 : 0 ≤ lo) (h1 : hi ≤ 1000000000000000) (hlo : lo ≤ t) (hhi : t ≤ hi)
    (hw : ∀ k : Nat, k < bs.length → ((rd_T27 bs k).f1 = ts.length → (rd_T27 bs k).f0 < ts.length → hi ≤ rd ts (rd_T27 bs k).f0 + (rd_T27 bs k).f2) ∧ ((rd_T27 bs k).f0 = ts.length → (rd_T27 bs k).f1 < ts.length → rd ts (rd_T27 bs k).f1 - (rd_T27 bs k).f2 ≤ lo)) : SoFar bs (ts ++ [t]) := by
  have hp := h.pos
  refine ⟨by simp, by rw [rd_app_lt _ _ _ (by omega) (by omega)]; exact h.first, fun x hx0 hx1 => ?_, fun i hi' hf0 hf1 => ?_⟩
  · by_cases e : x = ts.length
    · rw [e, rd_append_last]; omega
    · have hx1' : x < ts.length + 1 := by simpa using hx1
      rw [rd_app_lt _ _ _ hx0 (by omega)]
      exact h.bd x hx0 (by omega)
  · have hf0' : (rd_T27 bs i).f0 < ts.length + 1 := by simpa using hf0
    have hf1' : (rd_T27 bs i).f1 < ts.length + 1 := by simpa using hf1
    have hz : (0 ≤ (rd_T27 bs (i : Int)).f0 ∧ (rd_T27 bs (i : Int)).f0 < N) ∧ (0 ≤ (rd_T27 bs (i : Int)).f1 ∧ (rd_T27 bs (i : Int)).f1 < N) := in_rd hI i hi'
    have hn := hne i hi'
    have hwi := hw i hi'
    by_cases e0 : (rd_T27 bs (i : Int)).f0 = ts.length
    · have g1 : (rd_T27 bs (i : Int)).f1 < ts.length := by omega
      have := hwi.2 e0 g1
      rw [rd_app_lt _ _ _ hz.2.1 g1]
      rw [e0, rd_append_last]
      omega
    · by_cases e1 : (rd_T27 bs (i : Int)).f1 = ts.length
      · have g1 : (rd_T27 bs (i : Int)).f0 < ts.length := by omega
        have := hwi.1 e1 g1
        rw [rd_app_lt _ _ _ hz.1.1 g1]
        rw [e1, rd_append_last]
        omega
      · rw [rd_app_lt _ _ _ hz.1.1 (by omega), rd_app_lt _ _ _ hz.2.1 (by omega)]
        exact h.keep i hi' (by omega) (by omega)
/-- Run makes a run, or tells that it can't. -/
theorem runGo_val (bs : List S27) (ch : List Int) (N : Nat) (hI : ∀ b ∈ bs, InB N b) (hB : ∀ i : Nat, i < bs.length → -24000000000000 ≤ (rd_T27 bs i).f2 ∧ (rd_T27 bs i).f2 ≤ 24000000000000) (hlen : bs.length ≤ 100000) (hne : ∀ i : Nat, i < bs.length → (rd_T27 bs i).f0 ≠ (rd_T27 bs i).f1) :
    ∀ (k : Nat) (ts : List Int), ts.length + k = N → SoFar bs ts → ∃ q, runGo bs ch k ts = some q ∧ (q.2 = true → q.1.length = N ∧ SoFar bs q.1) := by
  intro k
  induction k with
  | zero =>
    intro ts h1 h2
    exact ⟨(ts, true), rfl, fun _ => ⟨by simpa using h1, h2⟩⟩
  | succ k ih =>
    intro ts h1 h2
    obtain ⟨lo, hi, g1, g2, g3, g4⟩ := window_val bs ts N ts.length rfl hI hB hlen h2.bd bs.length 0 (2 * bs.length + 3) 0 1000000000000000 (by omega) (by omega)
    have gf : dr_window.f (2 * bs.length + 3) bs ts (ts.length : Int) = some (lo, hi) := g1
    rw [runGo, gf]
    simp only
    by_cases hlt : hi < lo
    · rw [if_pos hlt]
      exact ⟨_, rfl, fun h => by cases h⟩
    · rw [if_neg hlt]
      have e0 : wrap64 (hi - lo) = hi - lo := wrap64_id' _ (by omega) (by omega)
      have e1 : wrap64 (hi - lo + 1) = hi - lo + 1 := wrap64_id' _ (by omega) (by omega)
      rw [e0, e1]
      by_cases hc : ts.length < ch.length
      · rw [if_pos hc, if_neg (by omega)]
        have hp := pick_in (rd ch (ts.length : Int)) (hi - lo + 1) (by omega) (by omega)
        rw [wrap64_id' (lo + _) (by omega) (by omega)]
        exact ih _ (by simp; omega) (h2.next hI hne _ lo hi g2 g3 (by omega) (by omega) (fun k hk => g4 k (by omega) hk))
      · rw [if_neg hc, wrap64_id' _ (by omega) (by omega)]
        exact ih _ (by simp; omega) (h2.next hI hne _ lo hi g2 g3 (by omega) (by omega) (fun k hk => g4 k (by omega) hk))
theorem int_index (ts : List Int) (x : Int) (h : x ∈ ts) : ∃ i : Int, 0 ≤ i ∧ i < ts.length ∧ rd ts i = x := by
  obtain ⟨i, hi, rfl⟩ := List.getElem_of_mem h
  exact ⟨i, by omega, by omega, by simp [rd, List.getD_eq_getElem?_getD, List.getElem?_eq_getElem hi]⟩
theorem int_mem (ts : List Int) (x : Int) (h0 : 0 ≤ x) (h1 : x < ts.length) : rd ts x ∈ ts := by
  have hi : x.toNat < ts.length := by omega
  unfold rd
  rw [List.getD_eq_getElem?_getD, List.getElem?_eq_getElem hi]
  exact List.getElem_mem hi
/-- Times are a run just if they keep all binds. -/
theorem isRun_iff {R : List S42} {E : List S80} (hK : PlanOK R E) (h24 : E.length ≤ 24) (ts : List Int) : isRunB R E ts = true ↔ ts.length = E.length ∧ rd ts 0 = 0 ∧ (∀ x : Int, 0 ≤ x → x < E.length → 0 ≤ rd ts x ∧ rd ts x ≤ 1000000000000000) ∧ Feas (bindsL R E) (rd ts) := by
  unfold isRunB
  simp only [Bool.and_eq_true, Bool.not_eq_true', decide_eq_true_eq, beq_iff_eq, List.any_eq_false]
  constructor
  · rintro ⟨⟨⟨h1, h2⟩, h3⟩, h4⟩
    have hbd : ∀ x : Int, 0 ≤ x → x < E.length → 0 ≤ rd ts x ∧ rd ts x ≤ 1000000000000000 := by
      intro x h0 h5
      have := h3 _ (int_mem ts x h0 (by omega))
      simp [timeBad, betweenB] at this
      omega
    refine ⟨h1, h2, hbd, feas_iff.2 fun b hb => ?_⟩
    have hin : (0 ≤ b.f0 ∧ b.f0 < E.length) ∧ (0 ≤ b.f1 ∧ b.f1 < E.length) := bindsL_in hK b hb
    have := h4 b hb
    have t0 := hbd _ hin.1.1 hin.1.2
    have t1 := hbd _ hin.2.1 hin.2.2
    rw [bindBad, wrap64_id' _ (by omega) (by omega)] at this
    simp at this
    omega
  · rintro ⟨h1, h2, h3, h4⟩
    refine ⟨⟨⟨h1, h2⟩, fun x hx => ?_⟩, fun b hb => ?_⟩
    · obtain ⟨i, i0, i1, rfl⟩ := int_index ts x hx
      have := h3 i i0 (by omega)
      simp [timeBad, betweenB]
      omega
    · have hin : (0 ≤ b.f0 ∧ b.f0 < E.length) ∧ (0 ≤ b.f1 ∧ b.f1 < E.length) := bindsL_in hK b hb
      have t0 := h3 _ hin.1.1 hin.1.2
      have t1 := h3 _ hin.2.1 hin.2.2
      have := feas_iff.1 h4 b hb
      rw [bindBad, wrap64_id' _ (by omega) (by omega)]
      simp
      omega
/-- What Run tells. -/
theorem run_api {R : List S42} {E : List S80} (hK : PlanOK R E) (h24 : E.length ≤ 24) (ch : List Int) : ∃ ts is, dr_Run.f R E ch = some (ts, is, 0) ∧ (is = true → isRunB R E ts = true) := by
  have hO := bindsL_ok0 hK h24
  have hp := hK.pos
  have hne : ∀ i : Nat, i < (bindsL R E).length → (rd_T27 (bindsL R E) i).f0 ≠ (rd_T27 (bindsL R E) i).f1 := fun i hi => (bindsL_small hK h24 _ (rd27_mem _ i hi)).1
  have hS : SoFar (bindsL R E) [0] := by
    refine ⟨by simp, rfl, fun x h0 h1 => ?_, fun i hi h0 h1 => ?_⟩
    · have : x = 0 := by simp at h1; omega
      subst this
      exact ⟨by decide, by decide⟩
    · have hz : (0 ≤ (rd_T27 (bindsL R E) (i : Int)).f0 ∧ _) ∧ (0 ≤ (rd_T27 (bindsL R E) (i : Int)).f1 ∧ _) := in_rd hO.inb i hi
      have := hne i hi
      simp at h0 h1
      omega
  obtain ⟨q, h1, h2⟩ := runGo_val (bindsL R E) ch E.length hO.inb hO.bd (by have := bindsL_len24 (R := R) h24; omega) hne (E.length - 1) [0] (by simp; omega) hS
  refine ⟨q.1, q.2, ?_, fun hq => ?_⟩
  · unfold dr_Run.f
    rw [if_pos ((planOK_iff R E).2 hK), h1]
  · obtain ⟨h3, h4⟩ := h2 hq
    refine (isRun_iff hK h24 _).2 ⟨h3, h4.first, fun x h0 h5 => h4.bd x h0 (by omega), fun i hi => ?_⟩
    have hz : (0 ≤ (rd_T27 (bindsL R E) (i : Int)).f0 ∧ (rd_T27 (bindsL R E) (i : Int)).f0 < E.length) ∧ (0 ≤ (rd_T27 (bindsL R E) (i : Int)).f1 ∧ (rd_T27 (bindsL R E) (i : Int)).f1 < E.length) := in_rd hO.inb i hi
    exact h4.keep i hi (by omega) (by omega)
/-- What Circle and Earliest tell. -/
theorem circle_api {R : List S42} {E : List S80} (hK : PlanOK R E) (h24 : E.length ≤ 24) :
    ((∃ ps a, dr_Circle.f R E = some (ps, true, 0) ∧ FC (bindsL R E) a a ps ∧ 1 ≤ ps.length ∧ ps.length ≤ 24 ∧ wsum (bindsL R E) ps < 0) ∧ dr_Earliest.f R E = some ([], false, 0) ∧ (∀ p, ¬ Feas (bindsL R E) p) ∧ (∃ ps, circleF (bindsL R E) E.length = some (ps, true))) ∨
    (dr_Circle.f R E = some ([], false, 0) ∧ (∃ ts, dr_Earliest.f R E = some (ts, true, 0) ∧ isRunB R E ts = true ∧ (∀ x : Int, 0 ≤ x → x < E.length → ∃ ps, FC (bindsL R E) x 0 ps ∧ ps.length < E.length ∧ wsum (bindsL R E) ps = -(rd ts x))) ∧ (∃ p, Feas (bindsL R E) p) ∧ circleF (bindsL R E) E.length = some ([], false)) := by
  have hO := bindsL_ok0 hK h24
  unfold dr_Circle.f dr_Earliest.f
  rw [if_pos ((planOK_iff R E).2 hK), if_pos ((planOK_iff R E).2 hK)]
  rcases earliest_spec hO (fun x h0 h1 => bindsL_zero0 x h0 h1) with ⟨h1, h2, h3⟩ | ⟨ts, h1, h2, h3, h4, h5, h6, h7⟩
  · left
    rw [h1]
    rcases circle_spec hO with ⟨g1, p, g2⟩ | ⟨a, ps, g1, g2, g3, g4, g5, g6⟩
    · exact absurd g2 (h2 p)
    · rw [g1]
      exact ⟨⟨ps, a, rfl, g3, g4, by omega, g6⟩, rfl, h2, ps, rfl⟩
  · right
    rw [h1, h7]
    refine ⟨rfl, ⟨ts, rfl, ?_, h6⟩, ⟨_, h3⟩, rfl⟩
    refine (isRun_iff hK h24 ts).2 ⟨h2, h4, fun x h0 h8 => ⟨h5 x h0 h8, ?_⟩, h3⟩
    obtain ⟨ps, g1, g2, g3⟩ := h6 x h0 h8
    have hb := (wsum_bd hO.bd ps x 0 g1).1
    have : (ps.length : Int) * 24000000000000 ≤ 24 * 24000000000000 := Int.mul_le_mul_of_nonneg_right (by omega) (by omega)
    omega
end Go.Proofs.Ytlfopemghafboaa.D
