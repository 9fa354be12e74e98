/- What a plan that is accepted has: plain lemmas on the events, and on the binds that are made of them. -/
import Derived.Test.YtlfopemghafboaaDh7
namespace Go.Proofs.Ytlfopemghafboaa.D
open Go.RowKit Go.Proofs.YtlfopemghafboaaW.PrintWords Go.Proofs.YtlfopemghafboaaW.PrintLast Go.Proofs.YtlfopemghafboaaW.PrintMore

theorem rd42_mem (R : List S42) (i : Int) (h0 : 0 ≤ i) (h1 : i < R.length) : rd_T42 R i ∈ R := by
  have hi : i.toNat < R.length := by omega
  unfold rd_T42
  rw [List.getD_eq_getElem?_getD, List.getElem?_eq_getElem hi]
  exact List.getElem_mem hi
theorem rateOK_iff {r : S42} : rateOK r = true ↔ 1 ≤ r.f0 ∧ r.f0 ≤ r.f1 ∧ r.f1 ≤ 1000000 := by
  simp [rateOK, and_assoc]
structure PlanOK (R : List S42) (E : List S80) : Prop extends EvsOK R E where
  rates : ∀ i : Int, 0 ≤ i → i < R.length → 1 ≤ (rd_T42 R i).f0 ∧ (rd_T42 R i).f0 ≤ (rd_T42 R i).f1 ∧ (rd_T42 R i).f1 ≤ 1000000
  rlen : 1 ≤ R.length ∧ R.length ≤ 32
  first : (rd_T80 E 0).f1 = 1
  ev1 : ∀ i : Nat, i < E.length → (rd_T80 E i).f1 = 1 → (rd_T80 E i).f2 = 0 ∧ (rd_T80 E i).f3 = 0 ∧ (rd_T80 E i).f4 = 0 ∧ (rd_T80 E i).f5 = 0
  ev2 : ∀ i : Nat, i < E.length → (rd_T80 E i).f1 = 2 → (0 ≤ (rd_T80 E i).f2 ∧ (rd_T80 E i).f2 < i) ∧ (rd_T80 E (rd_T80 E i).f2).f0 = (rd_T80 E i).f0 ∧ (0 ≤ (rd_T80 E i).f3 ∧ (rd_T80 E i).f3 ≤ 1000000000000) ∧ (rd_T80 E i).f4 = 0 ∧ (rd_T80 E i).f5 = 0
  ev3 : ∀ i : Nat, i < E.length → (rd_T80 E i).f1 = 3 → (0 ≤ (rd_T80 E i).f2 ∧ (rd_T80 E i).f2 < i) ∧ (rd_T80 E i).f3 = 0 ∧ 0 ≤ (rd_T80 E i).f4 ∧ (rd_T80 E i).f4 ≤ (rd_T80 E i).f5 ∧ (rd_T80 E i).f5 ≤ 1000000
theorem planOK_iff (R : List S42) (E : List S80) : planOK R E = true ↔ PlanOK R E := by
  constructor
  · intro h
    unfold planOK at h
    simp only [Bool.and_eq_true, Bool.not_eq_true'] at h
    obtain ⟨⟨⟨⟨hR, hE⟩, h0⟩, hA⟩, hV⟩ := h
    have hR' : 1 ≤ R.length ∧ R.length ≤ 32 := by simp [betweenB] at hR; omega
    have hE' : 1 ≤ E.length ∧ E.length ≤ 100 := by simp [betweenB] at hE; omega
    have h0' : (rd_T80 E 0).f1 = 1 := by simpa using h0
    have hr : ∀ i : Int, 0 ≤ i → i < R.length → 1 ≤ (rd_T42 R i).f0 ∧ (rd_T42 R i).f0 ≤ (rd_T42 R i).f1 ∧ (rd_T42 R i).f1 ≤ 1000000 := by
      intro i hi0 hi1
      rw [List.any_eq_false] at hA
      have := hA _ (rd42_mem R i hi0 hi1)
      have hok : rateOK (rd_T42 R i) = true := by simpa using this
      exact rateOK_iff.1 hok
    have hev : ∀ i : Nat, i < E.length → evOK R E i (rd_T80 E i) = true := by
      intro i hi
      unfold evsOK at hV
      rw [List.all_eq_true] at hV
      exact hV i (List.mem_range.2 hi)
    have hk : ∀ i : Nat, i < E.length → ((rd_T80 E i).f1 = 1 ∨ (rd_T80 E i).f1 = 2 ∨ (rd_T80 E i).f1 = 3) ∧ (0 ≤ (rd_T80 E i).f0 ∧ (rd_T80 E i).f0 < R.length) ∧ rightB R E i (rd_T80 E i) = true := by
      intro i hi
      have := hev i hi
      unfold evOK at this
      simp only [Bool.and_eq_true] at this
      obtain ⟨⟨h1, h2⟩, h3⟩ := this
      refine ⟨?_, ?_, h3⟩
      · unfold kindOK at h1
        simp only [Bool.or_eq_true, beq_iff_eq] at h1
        omega
      · simp [betweenB] at h2
        omega
    have e1 : ∀ i : Nat, i < E.length → (rd_T80 E i).f1 = 1 → (rd_T80 E i).f2 = 0 ∧ (rd_T80 E i).f3 = 0 ∧ (rd_T80 E i).f4 = 0 ∧ (rd_T80 E i).f5 = 0 := by
      intro i hi h1
      have h3 := (hk i hi).2.2
      unfold rightB at h3
      rw [if_pos h1] at h3
      unfold firstOK at h3
      simp only [Bool.and_eq_true, beq_iff_eq] at h3
      exact ⟨h3.1.1.1, h3.1.1.2, h3.1.2, h3.2⟩
    have e2 : ∀ i : Nat, i < E.length → (rd_T80 E i).f1 = 2 → (0 ≤ (rd_T80 E i).f2 ∧ (rd_T80 E i).f2 < i) ∧ (rd_T80 E (rd_T80 E i).f2).f0 = (rd_T80 E i).f0 ∧ (0 ≤ (rd_T80 E i).f3 ∧ (rd_T80 E i).f3 ≤ 1000000000000) ∧ (rd_T80 E i).f4 = 0 ∧ (rd_T80 E i).f5 = 0 := by
      intro i hi h1
      have h3 := (hk i hi).2.2
      unfold rightB at h3
      rw [if_neg (by omega), if_pos h1] at h3
      unfold timerOK at h3
      simp only [Bool.and_eq_true, beq_iff_eq] at h3
      obtain ⟨⟨⟨⟨a, b⟩, d⟩, e⟩, f⟩ := h3
      simp [betweenB] at a d
      exact ⟨by omega, b, by omega, e, f⟩
    have e3 : ∀ i : Nat, i < E.length → (rd_T80 E i).f1 = 3 → (0 ≤ (rd_T80 E i).f2 ∧ (rd_T80 E i).f2 < i) ∧ (rd_T80 E i).f3 = 0 ∧ 0 ≤ (rd_T80 E i).f4 ∧ (rd_T80 E i).f4 ≤ (rd_T80 E i).f5 ∧ (rd_T80 E i).f5 ≤ 1000000 := by
      intro i hi h1
      have h3 := (hk i hi).2.2
      unfold rightB at h3
      rw [if_neg (by omega), if_neg (by omega)] at h3
      unfold postOK at h3
      simp only [Bool.and_eq_true, beq_iff_eq] at h3
      obtain ⟨⟨⟨a, b⟩, d⟩, e⟩ := h3
      simp [betweenB] at a d e
      exact ⟨by omega, b, by omega, by omega, by omega⟩
    exact { kind := fun i hi => (hk i hi).1, place := fun i hi => (hk i hi).2.1, timer := fun i hi h => (e2 i hi h).1, rate := fun i h0 h1 => by have := hr i h0 h1; omega, len := hE'.2, pos := hE'.1, rates := hr, rlen := hR', first := h0', ev1 := e1, ev2 := e2, ev3 := e3 }
  · intro h
    have hp := h.pos
    have hl := h.len
    have hr := h.rlen
    unfold planOK
    simp only [Bool.and_eq_true, Bool.not_eq_true']
    refine ⟨⟨⟨⟨?_, ?_⟩, ?_⟩, ?_⟩, ?_⟩
    · simp [betweenB]; omega
    · simp [betweenB]; omega
    · simpa using h.first
    · rw [List.any_eq_false]
      intro r hr'
      obtain ⟨i, hi, rfl⟩ := List.getElem_of_mem hr'
      have h1 := h.rates (i : Int) (by omega) (by omega)
      have e : rd_T42 R (i : Int) = R[i] := by simp [rd_T42, List.getD_eq_getElem?_getD, List.getElem?_eq_getElem hi]
      rw [e] at h1
      have := rateOK_iff.2 h1
      simp [this]
    · unfold evsOK
      rw [List.all_eq_true]
      intro i hi'
      have hi := List.mem_range.1 hi'
      have hk := h.kind i hi
      have hpl := h.place i hi
      unfold evOK kindOK rightB
      simp only [Bool.and_eq_true, Bool.or_eq_true, beq_iff_eq]
      refine ⟨⟨by omega, by simp [betweenB]; omega⟩, ?_⟩
      rcases hk with k | k | k
      · rw [if_pos k]
        have := h.ev1 i hi k
        unfold firstOK
        simp only [Bool.and_eq_true, beq_iff_eq]
        exact ⟨⟨⟨this.1, this.2.1⟩, this.2.2.1⟩, this.2.2.2⟩
      · rw [if_neg (by omega), if_pos k]
        have := h.ev2 i hi k
        unfold timerOK
        simp only [Bool.and_eq_true, beq_iff_eq]
        exact ⟨⟨⟨⟨by simp [betweenB]; omega, this.2.1⟩, by simp [betweenB]; omega⟩, this.2.2.2.1⟩, this.2.2.2.2⟩
      · rw [if_neg (by omega), if_neg (by omega)]
        have := h.ev3 i hi k
        unfold postOK
        simp only [Bool.and_eq_true, beq_iff_eq]
        exact ⟨⟨⟨by simp [betweenB]; omega, this.2.1⟩, by simp; omega⟩, by simp [betweenB]; omega⟩
/-- A bind between events. -/
def InB (n : Nat) (b : S27) : Prop := (0 ≤ b.f0 ∧ b.f0 < n) ∧ (0 ≤ b.f1 ∧ b.f1 < n)
theorem causeBs_in {R : List S42} {E : List S80} (h : PlanOK R E) (i : Nat) (hi : i < E.length) : ∀ b ∈ causeBs i (rd_T80 E i), InB E.length b := by
  intro b hb
  have hp := h.pos
  unfold causeBs firstBs postBs at hb
  rcases h.kind i hi with k | k | k
  · rw [if_pos k] at hb
    split at hb
    · cases hb
    · simp only [List.mem_cons, List.not_mem_nil, or_false] at hb
      rcases hb with rfl | rfl <;> exact ⟨by simp; omega, by simp; omega⟩
  · rw [if_neg (by omega), if_pos k] at hb
    cases hb
  · rw [if_neg (by omega), if_neg (by omega)] at hb
    have h3 := (h.ev3 i hi k).1
    simp only [List.mem_cons, List.not_mem_nil, or_false] at hb
    rcases hb with rfl | rfl <;> exact ⟨by simp; omega, by simp; omega⟩
theorem pairOne_in {R : List S42} {E : List S80} {fs ts : List Int} {n : Nat} (e f : Nat) (he : e < n) (hf : f < n) : ∀ b ∈ pairOne R E fs ts e f, InB n b := by
  intro b hb
  unfold pairOne pairAB at hb
  split at hb
  · split at hb <;>
    · simp only [List.mem_cons, List.not_mem_nil, or_false] at hb
      rcases hb with rfl | rfl <;> exact ⟨by simp; omega, by simp; omega⟩
  · cases hb
theorem bindsL_in {R : List S42} {E : List S80} (h : PlanOK R E) : ∀ b ∈ bindsL R E, InB E.length b := by
  intro b hb
  have hp := h.pos
  unfold bindsL at hb
  rw [List.mem_append, List.mem_append] at hb
  rcases hb with (hb | hb) | hb
  · unfold cbs at hb
    rw [List.mem_flatMap] at hb
    obtain ⟨i, hi, hb⟩ := hb
    exact causeBs_in h i (List.mem_range.1 hi) b hb
  · unfold prAll at hb
    rw [List.mem_flatMap] at hb
    obtain ⟨e, he, hb⟩ := hb
    unfold prRow at hb
    rw [List.mem_flatMap] at hb
    obtain ⟨i, hi, hb⟩ := hb
    have he := List.mem_range.1 he
    have hi := List.mem_range.1 hi
    exact pairOne_in e (e + 1 + i) he (by omega) b hb
  · unfold lastBs at hb
    rw [List.mem_map] at hb
    obtain ⟨i, hi, rfl⟩ := hb
    have hi := List.mem_range.1 hi
    exact ⟨by simp; omega, by simp; omega⟩
theorem bindsL_len {R : List S42} {E : List S80} (h : PlanOK R E) : (bindsL R E).length ≤ 21000 := by
  have h1 := cbs_len E E.length
  have h2 := prAll_len R E (rdL E E.length).1 (rdL E E.length).2 E.length h.len
  have h3 := lastBs_len (E.length - 1)
  have h4 := h.len
  unfold bindsL
  simp only [List.length_append]
  omega
theorem in_rd {n : Nat} {l : List S27} (h : ∀ b ∈ l, InB n b) (i : Nat) (hi : i < l.length) : InB n (rd_T27 l (i : Int)) := by
  have e : rd_T27 l (i : Int) = l[i] := by simp [rd_T27, List.getD_eq_getElem?_getD, List.getElem?_eq_getElem hi]
  rw [e]
  exact h _ (List.getElem_mem hi)
end Go.Proofs.Ytlfopemghafboaa.D
