/- Moments of one clock: what CheckClock accepts, and that the times and readings of a run's events of one origin are such. No condition beyond each theorem's own hypotheses. -/
import Derived.Test.YtlfopemghafboaaDru
import Derived.Test.YtlfopemghafboaaDx9
namespace Go.Proofs.Ytlfopemghafboaa.D
open Go.RowKit Go.Proofs.YtlfopemghafboaaW.PrintWords Go.Proofs.YtlfopemghafboaaW.PrintLast Go.Proofs.YtlfopemghafboaaW.PrintMore
set_option linter.unusedVariables false
set_option linter.unusedSimpArgs false
/-- Moments that one clock could have shown. -/
def OneClock (s f : Int) (l : List S82) : Prop := (∀ a ∈ l, (0 ≤ a.f0 ∧ a.f0 ≤ 1000000) ∧ (0 ≤ a.f1 ∧ a.f1 ≤ 24000000000000)) ∧ ∀ a ∈ l, ∀ b ∈ l, a.f0 ≤ b.f0 → s * (b.f0 - a.f0) ≤ b.f1 - a.f1 ∧ b.f1 - a.f1 ≤ f * (b.f0 - a.f0)
theorem OneClock.sub {s f : Int} {l l' : List S82} (h : OneClock s f l) (hs : ∀ x ∈ l', x ∈ l) : OneClock s f l' := ⟨fun a ha => h.1 a (hs a ha), fun a ha b hb => h.2 a (hs a ha) b (hs b hb)⟩
theorem rd82_mem (l : List S82) (i : Int) (h0 : 0 ≤ i) (h1 : i < l.length) : rd_T82 l i ∈ l := by
  have hi : i.toNat < l.length := by omega
  unfold rd_T82
  rw [List.getD_eq_getElem?_getD, List.getElem?_eq_getElem hi]
  exact List.getElem_mem hi
theorem rd82_set (xs : List S82) (v x : Int) (y : S82) (h0 : 0 ≤ v) (h1 : v < xs.length) (hx : 0 ≤ x) : rd_T82 (xs.set v.toNat y) x = if x = v then y else rd_T82 xs x := by
  unfold rd_T82
  rw [List.getD_eq_getElem?_getD, List.getD_eq_getElem?_getD, List.getElem?_set]
  by_cases e : x = v
  · subst e
    rw [if_pos rfl, if_pos rfl, if_pos (by omega)]
    rfl
  · rw [if_neg (by omega), if_neg e]
theorem rd82_lt (xs : List S82) (y : S82) (x : Int) (h0 : 0 ≤ x) (h1 : x < xs.length) : rd_T82 (xs ++ [y]) x = rd_T82 xs x := by
  have hi : x.toNat < xs.length := by omega
  simp [rd_T82, List.getD_eq_getElem?_getD, List.getElem?_append_left hi]
theorem rd82_last (xs : List S82) (y : S82) : rd_T82 (xs ++ [y]) (xs.length : Int) = y := by
  simp [rd_T82, List.getD_eq_getElem?_getD]
theorem between_yes {a lo hi : Int} (h0 : lo ≤ a) (h1 : a ≤ hi) : dr_between.f a lo hi = some true := by
  unfold dr_between.f
  rw [if_pos (by omega), decide_eq_true h1]
/-- CheckClock accepts moments of one clock at growing times. -/
theorem clock_l0 (s f : Int) (hr : 1 ≤ s ∧ s ≤ f ∧ f ≤ 1000000) (l : List S82) (hl : l.length ≤ 10000) (hC : OneClock s f l) (hS : ∀ j : Nat, j + 1 < l.length → (rd_T82 l j).f0 < (rd_T82 l ((j + 1 : Nat) : Int)).f0) :
    ∀ d i n : Nat, i + d = l.length → 2 * d + 1 ≤ n → dr_CheckClock.l0 n l l (l.length : Int) (i : Int) s f = some 0 := by
  intro d
  induction d with
  | zero =>
    intro i n h1 h2
    obtain ⟨m, rfl⟩ : ∃ m, n = m + 1 := ⟨n - 1, by omega⟩
    rw [dr_CheckClock.l0, if_neg (by omega)]
  | succ d ih =>
    intro i n h1 h2
    obtain ⟨m, rfl⟩ : ∃ m, n = m + 1 + 1 := ⟨n - 2, by omega⟩
    have hm := rd82_mem l i (by omega) (by omega)
    have hb := hC.1 _ hm
    rw [dr_CheckClock.l0, if_pos (by omega), if_pos (by omega), if_pos (by omega), between_yes hb.1.1 hb.1.2]
    simp only [Option.bind_some, if_true]
    rw [between_yes (by omega) (by omega)]
    simp only [Option.bind_some, Bool.not_true]
    rw [dr_CheckClock.j2, if_neg (by simp)]
    by_cases hi : i = 0
    · rw [if_pos (by omega), wsucc i (by omega)]
      exact ih (i + 1) m (by omega) (by omega)
    · rw [if_neg (by omega)]
      obtain ⟨j, rfl⟩ : ∃ j, i = j + 1 := ⟨i - 1, by omega⟩
      have e2 : wrap64 (((j + 1 : Nat) : Int) - 1) = (j : Int) := by rw [wrap64_id' _ (by omega) (by omega)]; omega
      have hm' := rd82_mem l j (by omega) (by omega)
      have hb' := hC.1 _ hm'
      have hs := hS j (by omega)
      have hc := hC.2 _ hm' _ hm (by omega)
      rw [e2, if_pos (by omega), if_pos (by omega), wrap64_id' _ (by omega) (by omega), if_neg (by omega), wrap64_id' _ (by omega) (by omega)]
      have hD : (rd_T82 l ((j + 1 : Nat) : Int)).f0 - (rd_T82 l (j : Int)).f0 ≤ 1000000 := by omega
      have g1 : s * ((rd_T82 l ((j + 1 : Nat) : Int)).f0 - (rd_T82 l (j : Int)).f0) ≤ 1000000 * 1000000 := Int.mul_le_mul (by omega) hD (by omega) (by omega)
      have g2 : f * ((rd_T82 l ((j + 1 : Nat) : Int)).f0 - (rd_T82 l (j : Int)).f0) ≤ 1000000 * 1000000 := Int.mul_le_mul (by omega) hD (by omega) (by omega)
      have g3 : 0 ≤ s * ((rd_T82 l ((j + 1 : Nat) : Int)).f0 - (rd_T82 l (j : Int)).f0) := Int.mul_nonneg (by omega) (by omega)
      have g4 : 0 ≤ f * ((rd_T82 l ((j + 1 : Nat) : Int)).f0 - (rd_T82 l (j : Int)).f0) := Int.mul_nonneg (by omega) (by omega)
      rw [wrap64_id' (s * _) (by omega) (by omega), wrap64_id' (f * _) (by omega) (by omega), between_yes hc.1 hc.2]
      simp only [Option.bind_some, if_true]
      rw [wsucc (j + 1) (by omega)]
      exact ih (j + 1 + 1) m (by omega) (by omega)
theorem clock_zero (s f : Int) (hr : 1 ≤ s ∧ s ≤ f ∧ f ≤ 1000000) (l : List S82) (hl : l.length ≤ 10000) (hC : OneClock s f l) (hS : ∀ j : Nat, j + 1 < l.length → (rd_T82 l j).f0 < (rd_T82 l ((j + 1 : Nat) : Int)).f0) (n : Nat) (hn : 2 * l.length + 2 ≤ n) : dr_CheckClock.f n s f l = some 0 := by
  unfold dr_CheckClock.f dr_isRate.f
  rw [if_pos (by omega), if_pos (by omega), decide_eq_true (by omega)]
  simp only [Option.bind_some, if_true]
  rw [decide_eq_false (by omega)]
  obtain ⟨m, rfl⟩ : ∃ m, n = m + 1 := ⟨n - 1, by omega⟩
  rw [dr_CheckClock.j0, if_neg (by simp)]
  exact clock_l0 s f hr l hl hC hS l.length 0 m (by omega) (by omega)
/-! ### times that are equal once -/
structure Once (l : List S82) (i : Nat) (once : List S82) : Prop where
  sub : ∀ x ∈ once, x ∈ l
  up : ∀ j : Nat, j + 1 < once.length → (rd_T82 once j).f0 < (rd_T82 once ((j + 1 : Nat) : Int)).f0
  len : once.length ≤ i
  last : 0 < i → 0 < once.length ∧ (rd_T82 once ((once.length : Int) - 1)).f0 = (rd_T82 l ((i : Int) - 1)).f0
/-! ### events of one clock -/
theorem origin_nonneg (R : List S42) (E : List S80) (hK : PlanOK R E) : ∀ n : Nat, n ≤ E.length → ∀ j : Nat, j < n → 0 ≤ rd (rdL E n).1 j := by
  intro n
  induction n with
  | zero => intro _ j hj; omega
  | succ n ih =>
    intro hn j hj
    have hl := (rdL_len E n).1
    have IH := ih (by omega)
    rw [rdL]
    by_cases h2 : (rd_T80 E (n : Int)).f1 = 2
    · rw [if_pos h2]
      have hb := hK.ev2 n (by omega) h2
      simp only
      rcases Nat.lt_or_ge j n with h | h
      · rw [rd_append_lt _ _ j (by omega)]
        exact IH j h
      · have e : (j : Int) = ((rdL E n).1.length : Int) := by omega
        rw [e, rd_append_last]
        have hq := IH (rd_T80 E (n : Int)).f2.toNat (by omega)
        rw [Int.toNat_of_nonneg hb.1.1] at hq
        exact hq
    · rw [if_neg h2]
      simp only
      rcases Nat.lt_or_ge j n with h | h
      · rw [rd_append_lt _ _ j (by omega)]
        exact IH j h
      · have e : (j : Int) = ((rdL E n).1.length : Int) := by omega
        rw [e, rd_append_last]
        omega
theorem pair_clock {R : List S42} {E : List S80} (hK : PlanOK R E) (h24 : E.length ≤ 24) (p : Int → Int) (hp : Feas (bindsL R E) p) (e f : Nat) (he : e < f) (hf : f < E.length) (ho : rd (rdL E E.length).1 e = rd (rdL E E.length).1 f) :
    (0 ≤ rd (rdL E E.length).2 f - rd (rdL E E.length).2 e ∧ (p f - p e) * (rd_T42 R (rd_T80 E e).f0).f0 ≤ rd (rdL E E.length).2 f - rd (rdL E E.length).2 e ∧ rd (rdL E E.length).2 f - rd (rdL E E.length).2 e ≤ (p f - p e) * (rd_T42 R (rd_T80 E e).f0).f1) ∨
    (0 ≤ rd (rdL E E.length).2 e - rd (rdL E E.length).2 f ∧ (p e - p f) * (rd_T42 R (rd_T80 E e).f0).f0 ≤ rd (rdL E E.length).2 e - rd (rdL E E.length).2 f ∧ rd (rdL E E.length).2 e - rd (rdL E E.length).2 f ≤ (p e - p f) * (rd_T42 R (rd_T80 E e).f0).f1) := by
  have hv := pairOne_val hK h24 e f (by omega) hf
  have r1 := rate_at hK e (by omega)
  have hin : ∀ c ∈ pairOne R E (rdL E E.length).1 (rdL E E.length).2 e f, p c.f1 - p c.f0 ≤ c.f2 := fun c hc => (feas_iff.1 hp) c ((bindsL_cases c).2 (.inr (.inl ⟨e, f, he, hf, hc⟩)))
  rw [hv, if_pos ho] at hin
  by_cases hx : rd (rdL E E.length).2 f < rd (rdL E E.length).2 e
  · rw [if_pos hx] at hin
    have g1 := hin _ (List.mem_cons_self ..)
    have g2 := hin _ (List.mem_cons_of_mem _ (List.mem_cons_self ..))
    simp only at g1 g2
    right
    exact ⟨by omega, (le_div_iff r1.1).1 g1, (up_le_iff (by omega)).1 (by omega)⟩
  · rw [if_neg hx] at hin
    have g1 := hin _ (List.mem_cons_self ..)
    have g2 := hin _ (List.mem_cons_of_mem _ (List.mem_cons_self ..))
    simp only at g1 g2
    left
    exact ⟨by omega, (le_div_iff r1.1).1 g1, (up_le_iff (by omega)).1 (by omega)⟩
theorem orient {D x s f : Int} (hs : 1 ≤ s) (hf : 1 ≤ f) (h0 : 0 ≤ x) (h1 : D * s ≤ x) (h2 : x ≤ D * f) : 0 ≤ D ∧ (s * D ≤ x ∧ x ≤ f * D) ∧ (D ≤ 0 → s * (-D) ≤ -x ∧ -x ≤ f * (-D)) := by
  have hD : 0 ≤ D := by
    by_cases h : D < 0
    · have : D * f ≤ (-1) * f := Int.mul_le_mul_of_nonneg_right (by omega) (by omega)
      omega
    · omega
  refine ⟨hD, ⟨by rw [Int.mul_comm]; exact h1, by rw [Int.mul_comm]; exact h2⟩, fun h => ?_⟩
  obtain rfl : D = 0 := by omega
  simp at h1 h2 ⊢
  omega
theorem events_clock {R : List S42} {E : List S80} (hK : PlanOK R E) (h24 : E.length ≤ 24) (p : Int → Int) (hp : Feas (bindsL R E) p) (pl : Int) (e f : Nat) (he : e < E.length) (hf : f < E.length) (hpe : (rd_T80 E e).f0 = pl) (hpf : (rd_T80 E f).f0 = pl) (ho : rd (rdL E E.length).1 e = rd (rdL E E.length).1 f) (hle : p e ≤ p f) :
    (rd_T42 R pl).f0 * (p f - p e) ≤ rd (rdL E E.length).2 f - rd (rdL E E.length).2 e ∧ rd (rdL E E.length).2 f - rd (rdL E E.length).2 e ≤ (rd_T42 R pl).f1 * (p f - p e) := by
  have r1 := rate_at hK e he
  rw [hpe] at r1
  rcases Nat.lt_trichotomy e f with h | h | h
  · have := pair_clock hK h24 p hp e f h hf ho
    rw [hpe] at this
    rcases this with ⟨g0, g1, g2⟩ | ⟨g0, g1, g2⟩
    · exact (orient r1.1 (by omega) g0 g1 g2).2.1
    · have := (orient r1.1 (by omega) g0 g1 g2).2.2 (by omega)
      rw [show -(p e - p f) = p f - p e by omega, show -(rd (rdL E E.length).2 e - rd (rdL E E.length).2 f) = rd (rdL E E.length).2 f - rd (rdL E E.length).2 e by omega] at this
      exact this
  · subst h; simp
  · have := pair_clock hK h24 p hp f e h he ho.symm
    rw [hpf] at this
    rcases this with ⟨g0, g1, g2⟩ | ⟨g0, g1, g2⟩
    · have := (orient r1.1 (by omega) g0 g1 g2).2.2 (by omega)
      rw [show -(p e - p f) = p f - p e by omega, show -(rd (rdL E E.length).2 e - rd (rdL E E.length).2 f) = rd (rdL E E.length).2 f - rd (rdL E E.length).2 e by omega] at this
      exact this
    · exact (orient r1.1 (by omega) g0 g1 g2).2.1
/-- The moments taken so far. -/
structure Taken (R : List S42) (E : List S80) (ts : List Int) (pl : Int) (i : Nat) (l : List S82) (w : Int) : Prop where
  len : l.length ≤ i
  none : w < 0 → l = []
  at_ : ∀ x ∈ l, ∃ j : Nat, j < i ∧ (rd_T80 E j).f0 = pl ∧ rd (rdL E E.length).1 j = w ∧ x = ⟨rd ts j, rd (rdL E E.length).2 j⟩ ∧ rd ts j ≤ 1000000
theorem taken_clock {R : List S42} {E : List S80} (hK : PlanOK R E) (h24 : E.length ≤ 24) (ts : List Int) (hR : isRunB R E ts = true) (pl : Int) (i : Nat) (hi : i ≤ E.length) (l : List S82) (w : Int) (h : Taken R E ts pl i l w) : OneClock (rd_T42 R pl).f0 (rd_T42 R pl).f1 l := by
  obtain ⟨g1, g2, g3, g4⟩ := (isRun_iff hK h24 ts).1 hR
  refine ⟨fun a ha => ?_, fun a ha b hb hab => ?_⟩
  · obtain ⟨j, j0, j1, j2, rfl, j4⟩ := h.at_ a ha
    have := g3 j (by omega) (by omega)
    have := ticks_24 hK h24 j (by omega)
    simp only
    omega
  · obtain ⟨j, j0, j1, j2, rfl, j4⟩ := h.at_ a ha
    obtain ⟨k, k0, k1, k2, rfl, k4⟩ := h.at_ b hb
    exact events_clock hK h24 (rd ts) g4 pl j k (by omega) (by omega) j1 k1 (by omega) hab
theorem once_next {l once : List S82} {i : Nat} (h : Once l i once) (hi : i < l.length) (hlt : ∀ m : Nat, i = m + 1 → (rd_T82 l (m : Int)).f0 < (rd_T82 l (i : Int)).f0) : Once l (i + 1) (once ++ [rd_T82 l (i : Int)]) := by
  have hm := rd82_mem l i (by omega) (by omega)
  have hlen := h.len
  refine ⟨fun x hx => ?_, fun j hj => ?_, by simp; omega, fun _ => ⟨by simp, ?_⟩⟩
  · rcases List.mem_append.1 hx with hx | hx
    · exact h.sub x hx
    · simp only [List.mem_cons, List.not_mem_nil, or_false] at hx
      subst hx
      exact hm
  · have hj' : j + 1 < once.length + 1 := by simpa using hj
    by_cases ej : j + 1 = once.length
    · have hi0 : 0 < i := by omega
      obtain ⟨g1, g2⟩ := h.last hi0
      obtain ⟨m, rfl⟩ : ∃ m, i = m + 1 := ⟨i - 1, by omega⟩
      have e3 : ((j + 1 : Nat) : Int) = (once.length : Int) := by omega
      rw [e3, rd82_last, rd82_lt _ _ _ (by omega) (by omega), show (j : Int) = (once.length : Int) - 1 by omega, g2, show (((m + 1 : Nat) : Int) - 1) = (m : Int) by omega]
      exact hlt m rfl
    · rw [rd82_lt _ _ _ (by omega) (by omega), rd82_lt _ _ _ (by omega) (by omega)]
      exact h.up j (by omega)
  · rw [show (((once ++ [rd_T82 l (i : Int)]).length : Int) - 1) = (once.length : Int) by simp, rd82_last, show (((i + 1 : Nat) : Int) - 1) = (i : Int) by omega]
theorem once_same {l once : List S82} {m : Nat} (h : Once l (m + 1) once) (he : (rd_T82 l ((m + 1 : Nat) : Int)).f0 = (rd_T82 l (m : Int)).f0) : Once l (m + 1 + 1) once := by
  refine ⟨h.sub, h.up, by have := h.len; omega, fun _ => ?_⟩
  obtain ⟨g1, g2⟩ := h.last (by omega)
  refine ⟨g1, ?_⟩
  rw [g2, show (((m + 1 + 1 : Nat) : Int) - 1) = ((m + 1 : Nat) : Int) by omega, show (((m + 1 : Nat) : Int) - 1) = (m : Int) by omega, he]
/-! ### sorting -/
def SortedTo (l : List S82) (i : Nat) : Prop := ∀ a b : Nat, a < b → b < i → b < l.length → (rd_T82 l a).f0 ≤ (rd_T82 l b).f0
/-- Sorted up to i, but for what stands at k. -/
def Sinking (l : List S82) (i k : Nat) : Prop := ∀ a b : Nat, a < b → b ≤ i → b ≠ k → (rd_T82 l a).f0 ≤ (rd_T82 l b).f0
theorem sink_start {l : List S82} {i : Nat} (hi : i < l.length) (h : SortedTo l i) : Sinking l i i := fun a b h1 h2 h3 => h a b h1 (by omega) (by omega)
theorem sink_zero {l : List S82} {i : Nat} (h : Sinking l i 0) : SortedTo l (i + 1) := fun a b h1 h2 _ => h a b h1 (by omega) (by omega)
theorem sink_stop {l : List S82} {i k : Nat} (hk : k + 1 ≤ i) (h : Sinking l i (k + 1)) (hc : ¬ (rd_T82 l ((k + 1 : Nat) : Int)).f0 < (rd_T82 l (k : Int)).f0) : SortedTo l (i + 1) := by
  intro a b h1 h2 _
  by_cases b1 : b = k + 1
  · subst b1
    by_cases a1 : a = k
    · subst a1; omega
    · have := h a k (by omega) (by omega) (by omega)
      omega
  · exact h a b h1 (by omega) b1
def swapped (l : List S82) (k : Nat) : List S82 := (l.set (k + 1) (rd_T82 l (k : Int))).set k (rd_T82 l ((k + 1 : Nat) : Int))
theorem rd_swapped (l : List S82) (k : Nat) (hk : k + 1 < l.length) (x : Nat) : rd_T82 (swapped l k) (x : Int) = if x = k then rd_T82 l ((k + 1 : Nat) : Int) else if x = k + 1 then rd_T82 l (k : Int) else rd_T82 l (x : Int) := by
  have e1 : swapped l k = (l.set ((k + 1 : Nat) : Int).toNat (rd_T82 l (k : Int))).set (k : Int).toNat (rd_T82 l ((k + 1 : Nat) : Int)) := rfl
  rw [e1, rd82_set _ _ _ _ (by omega) (by simp; omega) (by omega)]
  by_cases c1 : x = k
  · rw [if_pos (by omega), if_pos c1]
  · rw [if_neg (by omega), if_neg c1, rd82_set _ _ _ _ (by omega) (by omega) (by omega)]
    by_cases c2 : x = k + 1
    · rw [if_pos (by omega), if_pos c2]
    · rw [if_neg (by omega), if_neg c2]
theorem swapped_mem {l : List S82} {k : Nat} (hk : k + 1 < l.length) : ∀ x ∈ swapped l k, x ∈ l := by
  intro x hx
  have m1 := rd82_mem l ((k + 1 : Nat) : Int) (by omega) (by omega)
  have m0 := rd82_mem l (k : Int) (by omega) (by omega)
  rcases List.mem_or_eq_of_mem_set hx with hx | hx
  · rcases List.mem_or_eq_of_mem_set hx with hx | hx
    · exact hx
    · rw [hx]; exact m0
  · rw [hx]; exact m1
theorem sink_swap {l : List S82} {i k : Nat} (hi : i < l.length) (hk : k + 1 ≤ i) (h : Sinking l i (k + 1)) (hc : (rd_T82 l ((k + 1 : Nat) : Int)).f0 < (rd_T82 l (k : Int)).f0) : Sinking (swapped l k) i k := by
  intro a b h1 h2 h3
  rw [rd_swapped l k (by omega) a, rd_swapped l k (by omega) b, if_neg h3]
  by_cases b1 : b = k + 1
  · rw [if_pos b1]
    by_cases a1 : a = k
    · rw [if_pos a1]; omega
    · rw [if_neg a1, if_neg (by omega)]
      exact h a k (by omega) (by omega) (by omega)
  · rw [if_neg b1]
    by_cases a1 : a = k
    · rw [if_pos a1]
      exact h (k + 1) b (by omega) h2 b1
    · rw [if_neg a1]
      by_cases a2 : a = k + 1
      · rw [if_pos a2]
        exact h k b (by omega) h2 b1
      · rw [if_neg a2]
        exact h a b h1 h2 b1
end Go.Proofs.Ytlfopemghafboaa.D
