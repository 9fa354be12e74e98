/- Plain facts on the binds of a plan with few events: what they weigh, how many there are, and what they say of the events of a clock. No condition beyond each theorem's own hypotheses. -/
import Derived.Test.YtlfopemghafboaaDbf
import Derived.Test.YtlfopemghafboaaDpq
namespace Go.Proofs.Ytlfopemghafboaa.D
open Go.RowKit Go.Proofs.YtlfopemghafboaaW.PrintWords Go.Proofs.YtlfopemghafboaaW.PrintLast Go.Proofs.YtlfopemghafboaaW.PrintMore
set_option linter.unusedVariables false
set_option linter.unusedSimpArgs false
theorem rd27_at (l : List S27) (b : S27) (h : b ∈ l) : ∃ i : Nat, i < l.length ∧ rd_T27 l (i : Int) = b := by
  obtain ⟨i, hi, rfl⟩ := List.getElem_of_mem h
  exact ⟨i, hi, by simp [rd_T27, List.getD_eq_getElem?_getD, List.getElem?_eq_getElem hi]⟩
theorem rd27_mem (l : List S27) (i : Nat) (hi : i < l.length) : rd_T27 l (i : Int) ∈ l := by
  have e : rd_T27 l (i : Int) = l[i] := by simp [rd_T27, List.getD_eq_getElem?_getD, List.getElem?_eq_getElem hi]
  rw [e]
  exact List.getElem_mem hi
theorem feas_iff {l : List S27} {p : Int → Int} : Feas l p ↔ ∀ b ∈ l, p b.f1 - p b.f0 ≤ b.f2 := by
  constructor
  · intro h b hb
    obtain ⟨i, hi, rfl⟩ := rd27_at l b hb
    exact h i hi
  · intro h i hi
    exact h _ (rd27_mem l i hi)
theorem up_le_iff {n f k : Int} (hf : 1 ≤ f) : upZ n f ≤ k ↔ n ≤ k * f := by
  unfold upZ
  have h : (n + f - 1) / f < k + 1 ↔ n + f - 1 < (k + 1) * f := Int.ediv_lt_iff_lt_mul (by omega)
  have e : (k + 1) * f = k * f + f := by rw [Int.add_mul]; simp
  rw [e] at h
  constructor
  · intro h1
    have := h.1 (by omega)
    omega
  · intro h1
    have := h.2 (by omega)
    omega
theorem up_bounds {n f : Int} (hn : 0 ≤ n) (hf : 1 ≤ f) : 0 ≤ upZ n f ∧ upZ n f ≤ n := by
  constructor
  · unfold upZ; exact Int.ediv_nonneg (by omega) (by omega)
  · rw [up_le_iff hf]
    have : n * 1 ≤ n * f := Int.mul_le_mul_of_nonneg_left hf hn
    omega
/-- The binds of two events that are read together. -/
theorem pairAB_val (R : List S42) (E : List S80) (x : Int) (e a b : Nat) (hx : 0 ≤ x) (hx1 : x ≤ 100000000000000) (hs : 1 ≤ (rd_T42 R (rd_T80 E e).f0).f0 ∧ (rd_T42 R (rd_T80 E e).f0).f0 ≤ (rd_T42 R (rd_T80 E e).f0).f1 ∧ (rd_T42 R (rd_T80 E e).f0).f1 ≤ 1000000) :
    pairAB R E x e a b = [⟨a, b, x / (rd_T42 R (rd_T80 E e).f0).f0⟩, ⟨b, a, -(upZ x (rd_T42 R (rd_T80 E e).f0).f1)⟩] := by
  have h1 := ediv_bounds (n := x) (f := (rd_T42 R (rd_T80 E e).f0).f0) hx hs.1
  have h2 := up_bounds (n := x) (f := (rd_T42 R (rd_T80 E e).f0).f1) hx (by omega)
  unfold pairAB
  rw [Int.tdiv_eq_ediv_of_nonneg hx, wrap64_id' _ (by omega) (by omega), upR_val hx (by omega) (by omega) (by omega), wrap64_id' _ (by omega) (by omega)]
/-- What ticks a plan's events have. -/
theorem ticks_24 {R : List S42} {E : List S80} (hK : PlanOK R E) (h24 : E.length ≤ 24) (j : Nat) (hj : j < E.length) : 0 ≤ rd (rdL E E.length).2 j ∧ rd (rdL E E.length).2 j ≤ 24000000000000 := by
  have := ticks_small R E hK E.length (Nat.le_refl _) j hj
  omega
theorem rate_at {R : List S42} {E : List S80} (hK : PlanOK R E) (e : Nat) (he : e < E.length) : 1 ≤ (rd_T42 R (rd_T80 E e).f0).f0 ∧ (rd_T42 R (rd_T80 E e).f0).f0 ≤ (rd_T42 R (rd_T80 E e).f0).f1 ∧ (rd_T42 R (rd_T80 E e).f0).f1 ≤ 1000000 := by
  have := hK.place e he
  exact hK.rates _ this.1 this.2
/-- Two events of one origin: their binds. -/
theorem pairOne_val {R : List S42} {E : List S80} (hK : PlanOK R E) (h24 : E.length ≤ 24) (e f : Nat) (he : e < E.length) (hf : f < E.length) :
    pairOne R E (rdL E E.length).1 (rdL E E.length).2 e f = if rd (rdL E E.length).1 e = rd (rdL E E.length).1 f then
      (if rd (rdL E E.length).2 f < rd (rdL E E.length).2 e then [⟨f, e, (rd (rdL E E.length).2 e - rd (rdL E E.length).2 f) / (rd_T42 R (rd_T80 E e).f0).f0⟩, ⟨e, f, -(upZ (rd (rdL E E.length).2 e - rd (rdL E E.length).2 f) (rd_T42 R (rd_T80 E e).f0).f1)⟩]
       else [⟨e, f, (rd (rdL E E.length).2 f - rd (rdL E E.length).2 e) / (rd_T42 R (rd_T80 E e).f0).f0⟩, ⟨f, e, -(upZ (rd (rdL E E.length).2 f - rd (rdL E E.length).2 e) (rd_T42 R (rd_T80 E e).f0).f1)⟩]) else [] := by
  have t1 := ticks_24 hK h24 e he
  have t2 := ticks_24 hK h24 f hf
  have r1 := rate_at hK e he
  unfold pairOne
  by_cases h : rd (rdL E E.length).1 e = rd (rdL E E.length).1 f
  · rw [if_pos h, if_pos h]
    by_cases h2 : rd (rdL E E.length).2 f < rd (rdL E E.length).2 e
    · rw [if_pos h2, if_pos h2, wrap64_id' _ (by omega) (by omega), pairAB_val R E _ e f e (by omega) (by omega) r1]
    · rw [if_neg h2, if_neg h2, wrap64_id' _ (by omega) (by omega), pairAB_val R E _ e e f (by omega) (by omega) r1]
  · rw [if_neg h, if_neg h]
/-- The kinds of binds that a plan has. -/
theorem bindsL_cases {R : List S42} {E : List S80} (b : S27) : b ∈ bindsL R E ↔ (∃ i : Nat, i < E.length ∧ b ∈ causeBs i (rd_T80 E i)) ∨ (∃ e f : Nat, e < f ∧ f < E.length ∧ b ∈ pairOne R E (rdL E E.length).1 (rdL E E.length).2 e f) ∨ (∃ i : Nat, 0 < i ∧ i < E.length ∧ b = ⟨i, 0, 0⟩) := by
  unfold bindsL
  rw [List.mem_append, List.mem_append]
  unfold cbs prAll prRow lastBs
  simp only [List.mem_flatMap, List.mem_map, List.mem_range]
  constructor
  · rintro ((⟨i, hi, hb⟩ | ⟨e, he, i, hi, hb⟩) | ⟨i, hi, rfl⟩)
    · exact .inl ⟨i, hi, hb⟩
    · exact .inr (.inl ⟨e, e + 1 + i, by omega, by omega, hb⟩)
    · exact .inr (.inr ⟨i + 1, by omega, by omega, rfl⟩)
  · rintro (⟨i, hi, hb⟩ | ⟨e, f, he, hf, hb⟩ | ⟨i, h0, hi, rfl⟩)
    · exact .inl (.inl ⟨i, hi, hb⟩)
    · refine .inl (.inr ⟨e, by omega, f - (e + 1), by omega, ?_⟩)
      rw [show e + 1 + (f - (e + 1)) = f by omega]
      exact hb
    · refine .inr ⟨i - 1, by omega, ?_⟩
      rw [show i - 1 + 1 = i by omega]
/-- Binds are between two events, and weigh little. -/
theorem bindsL_small {R : List S42} {E : List S80} (hK : PlanOK R E) (h24 : E.length ≤ 24) (b : S27) (hb : b ∈ bindsL R E) : b.f0 ≠ b.f1 ∧ -24000000000000 ≤ b.f2 ∧ b.f2 ≤ 24000000000000 := by
  rcases (bindsL_cases b).1 hb with ⟨i, hi, hb⟩ | ⟨e, f, he, hf, hb⟩ | ⟨i, h0, hi, rfl⟩
  · unfold causeBs firstBs postBs at hb
    rcases hK.kind i hi with k | k | k
    · rw [if_pos k] at hb
      split at hb
      · cases hb
      · rename_i hne
        simp only [List.mem_cons, List.not_mem_nil, or_false] at hb
        rcases hb with rfl | rfl <;> refine ⟨?_, by simp, by simp⟩ <;> (simp only; omega)
    · rw [if_neg (by omega), if_pos k] at hb
      cases hb
    · rw [if_neg (by omega), if_neg (by omega)] at hb
      have h3 := hK.ev3 i hi k
      rw [wrap64_id' _ (by omega) (by omega)] at hb
      simp only [List.mem_cons, List.not_mem_nil, or_false] at hb
      rcases hb with rfl | rfl <;> (simp only; omega)
  · rw [pairOne_val hK h24 e f (by omega) hf] at hb
    have t1 := ticks_24 hK h24 e (by omega)
    have t2 := ticks_24 hK h24 f hf
    have r1 := rate_at hK e (by omega)
    split at hb
    · split at hb
      · have h1 := ediv_bounds (n := rd (rdL E E.length).2 e - rd (rdL E E.length).2 f) (f := (rd_T42 R (rd_T80 E e).f0).f0) (by omega) r1.1
        have h2 := up_bounds (n := rd (rdL E E.length).2 e - rd (rdL E E.length).2 f) (f := (rd_T42 R (rd_T80 E e).f0).f1) (by omega) (by omega)
        simp only [List.mem_cons, List.not_mem_nil, or_false] at hb
        rcases hb with rfl | rfl <;> (simp only; omega)
      · have h1 := ediv_bounds (n := rd (rdL E E.length).2 f - rd (rdL E E.length).2 e) (f := (rd_T42 R (rd_T80 E e).f0).f0) (by omega) r1.1
        have h2 := up_bounds (n := rd (rdL E E.length).2 f - rd (rdL E E.length).2 e) (f := (rd_T42 R (rd_T80 E e).f0).f1) (by omega) (by omega)
        simp only [List.mem_cons, List.not_mem_nil, or_false] at hb
        rcases hb with rfl | rfl <;> (simp only; omega)
    · cases hb
  · simp only; omega
theorem prAll_len24 (R : List S42) (E : List S80) (fs ts : List Int) (n : Nat) (hE : E.length ≤ 24) : (prAll R E fs ts n).length ≤ 48 * n := by
  induction n with
  | zero => simp [prAll]
  | succ n ih => rw [prAll_succ, List.length_append]; have := prRow_len R E fs ts n (E.length - (n + 1)); omega
theorem bindsL_len24 {R : List S42} {E : List S80} (h24 : E.length ≤ 24) : (bindsL R E).length ≤ 1300 := by
  have h1 := cbs_len E E.length
  have h2 := prAll_len24 R E (rdL E E.length).1 (rdL E E.length).2 E.length h24
  have h3 := lastBs_len (E.length - 1)
  unfold bindsL
  simp only [List.length_append]
  omega
/-- All that the shortest chains ask of a plan's binds, and of one more bind. -/
theorem bindsL_ok {R : List S42} {E : List S80} (hK : PlanOK R E) (h24 : E.length ≤ 24) (m : List S27) (hm : m.length ≤ 1) (hi : ∀ b ∈ m, InB E.length b) (hb : ∀ b ∈ m, -24000000000000 ≤ b.f2 ∧ b.f2 ≤ 24000000000000) : BindsOK (bindsL R E ++ m) E.length 24000000000000 := by
  have hl := bindsL_len24 (R := R) h24
  refine ⟨fun b hb' => ?_, fun i hi' => ?_, by omega, hK.pos, ?_⟩
  · rcases List.mem_append.1 hb' with h | h
    · exact bindsL_in hK b h
    · exact hi b h
  · rcases List.mem_append.1 (rd27_mem _ i hi') with h | h
    · exact (bindsL_small hK h24 _ h).2
    · exact hb _ h
  · have h1 : E.length * (bindsL R E ++ m).length ≤ 24 * 1400 := Nat.mul_le_mul h24 (by simp; omega)
    omega
theorem bindsL_ok0 {R : List S42} {E : List S80} (hK : PlanOK R E) (h24 : E.length ≤ 24) : BindsOK (bindsL R E) E.length 24000000000000 := by
  have := bindsL_ok hK h24 [] (by simp) (by simp) (by simp)
  rwa [List.append_nil] at this
theorem bindsL_zero {R : List S42} {E : List S80} (m : List S27) (x : Int) (h0 : 0 < x) (h1 : x < E.length) : ∃ i : Nat, i < (bindsL R E ++ m).length ∧ rd_T27 (bindsL R E ++ m) (i : Int) = ⟨x, 0, 0⟩ := by
  refine rd27_at _ _ (List.mem_append.2 (.inl ((bindsL_cases _).2 (.inr (.inr ⟨x.toNat, by omega, by omega, ?_⟩)))))
  rw [Int.toNat_of_nonneg (by omega)]
theorem bindsL_zero0 {R : List S42} {E : List S80} (x : Int) (h0 : 0 < x) (h1 : x < E.length) : ∃ i : Nat, i < (bindsL R E).length ∧ rd_T27 (bindsL R E) (i : Int) = ⟨x, 0, 0⟩ := by
  have := bindsL_zero (R := R) (E := E) [] x h0 h1
  rwa [List.append_nil] at this
end Go.Proofs.Ytlfopemghafboaa.D
