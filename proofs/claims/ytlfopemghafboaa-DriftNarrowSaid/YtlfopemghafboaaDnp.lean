/- The plain law of DriftNarrow: the law answers true for all rates, moments, times and numbers of ticks. No condition. -/
import Derived.Test.YtlfopemghafboaaDnw
namespace Go.Proofs.Ytlfopemghafboaa.D
open Go.RowKit Go.Proofs.YtlfopemghafboaaW.PrintWords Go.Proofs.YtlfopemghafboaaW.PrintLast Go.Proofs.YtlfopemghafboaaW.PrintMore
set_option linter.unusedVariables false
set_option linter.unusedSimpArgs false
theorem nwrap (x : Int) (h0 : -9223372036854775808 ≤ x) (h1 : x ≤ 9223372036854775807) : wrap64 x = x := by unfold wrap64; omega
theorem nsucc (i : Nat) (h : i ≤ 1000000) : wrap64 ((i : Int) + 1) = ((i + 1 : Nat) : Int) := by rw [nwrap _ (by omega) (by omega)]; omega
theorem npred (i : Nat) (h : i ≤ 1000000) : wrap64 (((i + 1 : Nat) : Int) - 1) = (i : Int) := by rw [nwrap _ (by omega) (by omega)]; omega
/-- A moment within the bounds. -/
def InMoment (x : S82) : Prop := (0 ≤ x.f0 ∧ x.f0 ≤ 1000000) ∧ (-1000000000000000 ≤ x.f1 ∧ x.f1 ≤ 1000000000000000)
/-- What an accepted clock has between two neighbours. -/
def NextMoment (s f : Int) (x y : S82) : Prop := 0 < y.f0 - x.f0 ∧ s * (y.f0 - x.f0) ≤ y.f1 - x.f1 ∧ y.f1 - x.f1 ≤ f * (y.f0 - x.f0)
theorem mul_small {s d : Int} (h0 : 0 ≤ s) (h1 : s ≤ 1000000) (g0 : 0 ≤ d) (g1 : d ≤ 1000000) : 0 ≤ s * d ∧ s * d ≤ 1000000000000 := by
  refine ⟨Int.mul_nonneg h0 g0, ?_⟩
  have : s * d ≤ 1000000 * 1000000 := Int.mul_le_mul h1 g1 g0 (by omega)
  omega
theorem cc_l0 (s f : Int) (hr : 1 ≤ s ∧ s ≤ f ∧ f ≤ 1000000) (l : List S82) (hl : l.length ≤ 10000) : ∀ d i n : Nat, i + d = l.length → 2 * d + 1 ≤ n → (∀ j : Nat, j < i → InMoment (rd_T82 l j)) → ∃ v, rf_CheckClock.l0 n l (i : Int) s f = some v ∧
    (v = 0 → ∀ j : Nat, i ≤ j → j < l.length → InMoment (rd_T82 l j) ∧ ∀ m : Nat, j = m + 1 → NextMoment s f (rd_T82 l m) (rd_T82 l j)) := by
  intro d
  induction d with
  | zero =>
    intro i n h1 h2 h3
    obtain ⟨m, rfl⟩ : ∃ m, n = m + 1 := ⟨n - 1, by omega⟩
    refine ⟨0, ?_, fun _ j g1 g2 => by omega⟩
    rw [rf_CheckClock.l0, if_neg (by omega)]
  | succ d ih =>
    intro i n h1 h2 h3
    obtain ⟨m, rfl⟩ : ∃ m, n = m + 1 + 1 := ⟨n - 2, by omega⟩
    have bad : ∃ v, rf_CheckClock.j2 (m + 1) l (i : Int) true s f = some v ∧ (v = 0 → ∀ j : Nat, i ≤ j → j < l.length → InMoment (rd_T82 l j) ∧ ∀ m : Nat, j = m + 1 → NextMoment s f (rd_T82 l m) (rd_T82 l j)) :=
      ⟨310, by rw [rf_CheckClock.j2, if_pos rfl], fun h => by omega⟩
    rw [rf_CheckClock.l0, if_pos (by omega), if_pos (by omega)]
    by_cases c1 : (rd_T82 l (i : Int)).f0 < 0
    · rw [if_pos c1]; exact bad
    · rw [if_neg c1]
      by_cases c2 : (rd_T82 l (i : Int)).f0 > 1000000
      · rw [if_pos c2]; exact bad
      · rw [if_neg c2]
        by_cases c3 : (rd_T82 l (i : Int)).f1 < -1000000000000000
        · rw [if_pos c3]; exact bad
        · rw [if_neg c3]
          by_cases c4 : (rd_T82 l (i : Int)).f1 > 1000000000000000
          · rw [decide_eq_true c4]; exact bad
          · rw [decide_eq_false c4, rf_CheckClock.j2, if_neg (by simp)]
            have hI : InMoment (rd_T82 l (i : Int)) := ⟨⟨by omega, by omega⟩, by omega, by omega⟩
            have hI3 : ∀ j : Nat, j < i + 1 → InMoment (rd_T82 l j) := by
              intro j hj
              by_cases e : j = i
              · rw [e]; exact hI
              · exact h3 j (by omega)
            have IH := ih (i + 1) m (by omega) (by omega) hI3
            have fin : (∀ q : Nat, i = q + 1 → NextMoment s f (rd_T82 l q) (rd_T82 l i)) → ∃ v, rf_CheckClock.l0 m l ((i + 1 : Nat) : Int) s f = some v ∧ (v = 0 → ∀ j : Nat, i ≤ j → j < l.length → InMoment (rd_T82 l j) ∧ ∀ m : Nat, j = m + 1 → NextMoment s f (rd_T82 l m) (rd_T82 l j)) := by
              intro hN
              obtain ⟨v, g1, g2⟩ := IH
              refine ⟨v, g1, fun hv j k1 k2 => ?_⟩
              by_cases e : j = i
              · subst e; exact ⟨hI, hN⟩
              · exact g2 hv j (by omega) k2
            by_cases hi0 : i = 0
            · rw [if_pos (by omega), nsucc i (by omega)]
              exact fin (fun q hq => by omega)
            · obtain ⟨q, rfl⟩ : ∃ q, i = q + 1 := ⟨i - 1, by omega⟩
              have hq := h3 q (by omega)
              rw [if_neg (by omega), if_pos (by omega), if_pos (by omega), npred q (by omega), if_pos (by omega), if_pos (by omega)]
              obtain ⟨⟨a1, a2⟩, a3, a4⟩ := hI
              obtain ⟨⟨b1, b2⟩, b3, b4⟩ := hq
              rw [nwrap ((rd_T82 l ((q + 1 : Nat) : Int)).f0 - (rd_T82 l (q : Int)).f0) (by omega) (by omega), nwrap ((rd_T82 l ((q + 1 : Nat) : Int)).f1 - (rd_T82 l (q : Int)).f1) (by omega) (by omega)]
              by_cases d1 : (rd_T82 l ((q + 1 : Nat) : Int)).f0 - (rd_T82 l (q : Int)).f0 ≤ 0
              · rw [if_pos d1]; exact ⟨310, rfl, fun h => by omega⟩
              · rw [if_neg d1]
                have m1 := mul_small (s := s) (d := (rd_T82 l ((q + 1 : Nat) : Int)).f0 - (rd_T82 l (q : Int)).f0) (by omega) (by omega) (by omega) (by omega)
                have m2 := mul_small (s := f) (d := (rd_T82 l ((q + 1 : Nat) : Int)).f0 - (rd_T82 l (q : Int)).f0) (by omega) (by omega) (by omega) (by omega)
                rw [nwrap (s * _) (by omega) (by omega), nwrap (f * _) (by omega) (by omega)]
                by_cases d2 : (rd_T82 l ((q + 1 : Nat) : Int)).f1 - (rd_T82 l (q : Int)).f1 < s * ((rd_T82 l ((q + 1 : Nat) : Int)).f0 - (rd_T82 l (q : Int)).f0)
                · rw [if_pos d2]; exact ⟨310, rfl, fun h => by omega⟩
                · rw [if_neg d2]
                  by_cases d3 : (rd_T82 l ((q + 1 : Nat) : Int)).f1 - (rd_T82 l (q : Int)).f1 > f * ((rd_T82 l ((q + 1 : Nat) : Int)).f0 - (rd_T82 l (q : Int)).f0)
                  · rw [if_pos d3]; exact ⟨310, rfl, fun h => by omega⟩
                  · rw [if_neg d3, nsucc (q + 1) (by omega)]
                    refine fin (fun q' hq' => ?_)
                    obtain rfl : q' = q := by omega
                    exact ⟨by omega, by omega, by omega⟩
/-- CheckClock tells something, and OK only of a clock. -/
theorem cc_val (s f : Int) (l : List S82) (n : Nat) (hn : 2 * l.length + 3 ≤ n) : ∃ v, rf_CheckClock.f n s f l = some v ∧
    (v = 0 → (1 ≤ s ∧ s ≤ f ∧ f ≤ 1000000) ∧ ∀ j : Nat, j < l.length → InMoment (rd_T82 l j) ∧ ∀ m : Nat, j = m + 1 → NextMoment s f (rd_T82 l m) (rd_T82 l j)) := by
  obtain ⟨m, rfl⟩ : ∃ m, n = m + 1 := ⟨n - 1, by omega⟩
  have bad : ∃ v, rf_CheckClock.j0 (m + 1) l true s f = some v ∧ (v = 0 → (1 ≤ s ∧ s ≤ f ∧ f ≤ 1000000) ∧ ∀ j : Nat, j < l.length → InMoment (rd_T82 l j) ∧ ∀ m : Nat, j = m + 1 → NextMoment s f (rd_T82 l m) (rd_T82 l j)) :=
    ⟨310, by rw [rf_CheckClock.j0, if_pos rfl], fun h => by omega⟩
  unfold rf_CheckClock.f rf_IsRate.f
  by_cases c1 : s ≥ 1
  · rw [if_pos c1]
    by_cases c2 : s ≤ f
    · rw [if_pos c2]
      by_cases c3 : f ≤ 1000000
      · rw [decide_eq_true c3]
        simp only [Option.bind_some, if_true]
        by_cases c4 : (l.length : Int) > 10000
        · rw [decide_eq_true c4]; exact bad
        · rw [decide_eq_false c4, rf_CheckClock.j0, if_neg (by simp)]
          obtain ⟨v, g1, g2⟩ := cc_l0 s f ⟨by omega, c2, c3⟩ l (by omega) l.length 0 m (by omega) (by omega) (fun j hj => by omega)
          exact ⟨v, g1, fun hv => ⟨⟨by omega, c2, c3⟩, fun j hj => g2 hv j (by omega) hj⟩⟩
      · rw [decide_eq_false c3]
        simp only [Option.bind_some, Bool.false_eq_true, if_false]
        exact bad
    · rw [if_neg c2]
      simp only [Option.bind_some, Bool.false_eq_true, if_false]
      exact bad
  · rw [if_neg c1]
    simp only [Option.bind_some, Bool.false_eq_true, if_false]
    exact bad
/-- Between any two moments of a clock. -/
theorem far_moment {s f : Int} {l : List S82} (h : ∀ j : Nat, j < l.length → InMoment (rd_T82 l j) ∧ ∀ m : Nat, j = m + 1 → NextMoment s f (rd_T82 l m) (rd_T82 l j)) (i : Nat) : ∀ d : Nat, i + d < l.length →
    0 ≤ (rd_T82 l ((i + d : Nat) : Int)).f0 - (rd_T82 l (i : Int)).f0 ∧ s * ((rd_T82 l ((i + d : Nat) : Int)).f0 - (rd_T82 l (i : Int)).f0) ≤ (rd_T82 l ((i + d : Nat) : Int)).f1 - (rd_T82 l (i : Int)).f1 ∧ (rd_T82 l ((i + d : Nat) : Int)).f1 - (rd_T82 l (i : Int)).f1 ≤ f * ((rd_T82 l ((i + d : Nat) : Int)).f0 - (rd_T82 l (i : Int)).f0) := by
  intro d
  induction d with
  | zero => intro _; simp
  | succ d ih =>
    intro hd
    obtain ⟨h1, h2, h3⟩ := ih (by omega)
    obtain ⟨g1, g2, g3⟩ := (h (i + d + 1) (by omega)).2 (i + d) rfl
    rw [show i + (d + 1) = i + d + 1 from rfl]
    generalize (rd_T82 l ((i + d + 1 : Nat) : Int)).f0 = t2 at *
    generalize (rd_T82 l ((i + d + 1 : Nat) : Int)).f1 = k2 at *
    generalize (rd_T82 l ((i + d : Nat) : Int)).f0 = t1 at *
    generalize (rd_T82 l ((i + d : Nat) : Int)).f1 = k1 at *
    generalize (rd_T82 l (i : Int)).f0 = t0 at *
    generalize (rd_T82 l (i : Int)).f1 = k0 at *
    have e1 : s * (t2 - t0) = s * (t2 - t1) + s * (t1 - t0) := by rw [← Int.mul_add]; congr 1; omega
    have e2 : f * (t2 - t0) = f * (t2 - t1) + f * (t1 - t0) := by rw [← Int.mul_add]; congr 1; omega
    rw [e1, e2]
    exact ⟨by omega, by omega, by omega⟩
theorem nbetween {a lo hi : Int} : dr_between.f a lo hi = some (decide (lo ≤ a ∧ a ≤ hi)) := by
  unfold dr_between.f
  by_cases h : a ≥ lo
  · rw [if_pos h]; congr 1; rw [decide_eq_decide]; omega
  · rw [if_neg h, decide_eq_false (by omega)]
theorem nrate {s f : Int} (hr : 1 ≤ s ∧ s ≤ f ∧ f ≤ 1000000) : dr_isRate.f s f = some true := by
  unfold dr_isRate.f
  rw [if_pos (by omega), if_pos (by omega), decide_eq_true (by omega)]
/-- What Narrow tells. -/
theorem narrow_val {s f lo hi : Int} (hr : 1 ≤ s ∧ s ≤ f ∧ f ≤ 1000000) (h0 : 0 ≤ lo ∧ lo ≤ 1000000) (h1 : hi = -1 ∨ (lo ≤ hi ∧ hi ≤ 1000000)) (n : Nat) :
    ∃ a b is, dr_Narrow.f (n + 1) s f lo hi = some (a, b, is, 0) ∧ ((is = true ∧ a = f * lo ∧ (hi = -1 ∨ (b = s * hi ∧ f * lo ≤ s * hi))) ∨ (is = false ∧ hi ≠ -1 ∧ s * hi < f * lo)) := by
  have m1 := mul_small (s := f) (d := lo) (by omega) (by omega) h0.1 h0.2
  unfold dr_Narrow.f
  rw [nrate hr]
  simp only [Option.bind_some, if_true, nbetween]
  rw [decide_eq_true h0]
  simp only [if_true]
  by_cases hh : hi = -1
  · rw [if_pos hh, dr_Narrow.j0, if_neg (by simp), if_pos hh, nwrap _ (by omega) (by omega)]
    exact ⟨_, _, _, rfl, .inl ⟨rfl, rfl, .inl hh⟩⟩
  · have m2 := mul_small (s := s) (d := hi) (by omega) (by omega) (by omega) (by omega)
    rw [if_neg hh, decide_eq_true (by omega), dr_Narrow.j0, if_neg (by simp), if_neg hh, nwrap _ (by omega) (by omega), nwrap _ (by omega) (by omega)]
    by_cases hc : f * lo > s * hi
    · rw [if_pos hc]; exact ⟨_, _, _, rfl, .inr ⟨rfl, hh, hc⟩⟩
    · rw [if_neg hc]; exact ⟨_, _, _, rfl, .inl ⟨rfl, rfl, .inr ⟨rfl, by omega⟩⟩⟩
/-- What Real tells. -/
theorem real_val {s f t : Int} (hr : 1 ≤ s ∧ s ≤ f ∧ f ≤ 1000000) (ht : 0 ≤ t ∧ t ≤ 1000000000000) :
    ∃ c d can, dr_Real.f s f t = some (c, d, can, 0) ∧ (can = false ∨ (can = true ∧ c ≤ d ∧ t ≤ c * f ∧ d * s ≤ t)) := by
  unfold dr_Real.f
  rw [nrate hr]
  simp only [Option.bind_some, if_true, nbetween]
  rw [decide_eq_true ht]
  simp only [if_true]
  unfold dr_up.f
  rw [if_neg (by omega)]
  simp only [Option.bind_some]
  rw [if_neg (by omega)]
  have hc0 : 0 ≤ (t + f - 1) / f := Int.ediv_nonneg (by omega) (by omega)
  have hc1 : (t + f - 1) / f ≤ t + f - 1 := Int.ediv_le_self _ (by omega)
  have hd0 : 0 ≤ t / s := Int.ediv_nonneg (by omega) (by omega)
  have hd1 : t / s ≤ t := Int.ediv_le_self _ (by omega)
  rw [nwrap (t + f) (by omega) (by omega), nwrap (t + f - 1) (by omega) (by omega), Int.tdiv_eq_ediv_of_nonneg (by omega), Int.tdiv_eq_ediv_of_nonneg (by omega), nwrap _ (by omega) (by omega), nwrap _ (by omega) (by omega)]
  by_cases hc : (t + f - 1) / f > t / s
  · rw [if_pos hc]; exact ⟨_, _, _, rfl, .inl rfl⟩
  · rw [if_neg hc]
    refine ⟨_, _, _, rfl, .inr ⟨rfl, by omega, ?_, ?_⟩⟩
    · have e := Int.mul_ediv_add_emod (t + f - 1) f
      have := Int.emod_lt_of_pos (t + f - 1) (show 0 < f by omega)
      rw [Int.mul_comm] at e
      omega
    · have e := Int.mul_ediv_add_emod t s
      have := Int.emod_nonneg t (show s ≠ 0 by omega)
      rw [Int.mul_comm] at e
      omega
theorem within_iff (is : Bool) (a b hi n : Int) : withinB is a b hi n = true ↔ is = true ∧ a ≤ n ∧ (hi = -1 ∨ n ≤ b) := by
  unfold withinB
  simp only [Bool.and_eq_true, Bool.or_eq_true, decide_eq_true_eq, beq_iff_eq, and_assoc]
/-- The law, for every input. -/
theorem lw_DriftNarrow.calls (k : Nat) (s f : Int) (A : Option Addr) (c : Nat) (l : List S82) (lo hi ticks : Int) (r : Bool) (w : World) (hr : Kd.C k82 w A l.length l) (hc : l.length ≤ c) (h : r = true) :
    Calls Try.prog 4 #[.agg #[.int .i64 s, .int .i64 f], .slice A l.length c, .int .i64 lo, .int .i64 hi, .int .i64 ticks] w fun e w' => e = .returned (.bool r) ∧ Below w.heap.size w w' := by
  subst h
  obtain ⟨cc, hcc, hok⟩ := cc_val s f l (2 * l.length + 3) (Nat.le_refl _)
  have early := narrow_early s f A c l lo hi ticks cc w hr hc _ hcc
  by_cases d0 : cc = 0
  · subst d0
    have d0b : ((0 : Int) != 0) = false := rfl
    by_cases d1 : (l.length : Int) > 40
    · exact early (.inr (.inl ⟨rfl, decide_eq_true d1⟩))
    · by_cases d2 : lo < 0
      · exact early (.inr (.inr ⟨⟨rfl, decide_eq_false d1⟩, .inl (decide_eq_true d2)⟩))
      · by_cases d3 : lo > 1000000
        · exact early (.inr (.inr ⟨⟨rfl, decide_eq_false d1⟩, .inr (.inl ⟨decide_eq_false d2, decide_eq_true d3⟩)⟩))
        · have e3 := fun q => early (.inr (.inr ⟨⟨rfl, decide_eq_false d1⟩, .inr (.inr ⟨⟨decide_eq_false d2, decide_eq_false d3⟩, q⟩)⟩))
          by_cases d4 : hi ≠ -1 ∧ hi < lo
          · exact e3 (.inl ⟨by simpa using d4.1, decide_eq_true d4.2⟩)
          · by_cases d5 : hi ≠ -1 ∧ hi > 1000000
            · exact e3 (.inr (.inl ⟨by simpa using d5.1, decide_eq_false (fun h => d4 ⟨d5.1, h⟩), decide_eq_true d5.2⟩))
            · have hq : (hi != -1) = false ∨ ((hi != -1) = true ∧ decide (hi < lo) = false ∧ decide (hi > 1000000) = false) := by
                by_cases hh : hi = -1
                · left; simpa using hh
                · right; exact ⟨by simpa using hh, decide_eq_false (fun h => d4 ⟨hh, h⟩), decide_eq_false (fun h => d5 ⟨hh, h⟩)⟩
              have hhi : hi = -1 ∨ (lo ≤ hi ∧ hi ≤ 1000000) := by
                by_cases hh : hi = -1
                · exact .inl hh
                · exact .inr ⟨by have := fun h => d4 ⟨hh, h⟩; omega, by have := fun h => d5 ⟨hh, h⟩; omega⟩
              by_cases d6 : ticks < 0
              · exact e3 (.inr (.inr ⟨hq, .inl (decide_eq_true d6)⟩))
              · by_cases d7 : ticks > 1000000000000
                · exact e3 (.inr (.inr ⟨hq, .inr ⟨decide_eq_false d6, decide_eq_true d7⟩⟩))
                · obtain ⟨hrate, hm⟩ := hok rfl
                  obtain ⟨a, b, is, hn, hab⟩ := narrow_val (s := s) (f := f) (lo := lo) (hi := hi) hrate (by omega) hhi (2 * l.length + 2)
                  have m1 := mul_small (s := f) (d := lo) (by omega) (by omega) (by omega) (by omega)
                  refine narrow_main s f A c l lo hi ticks w hr hc _ hcc a b is hn (decide_eq_false d1) (decide_eq_false d2) (decide_eq_false d3) hq (decide_eq_false d6) (decide_eq_false d7) (fun i k' hik hkl hwi => ?_) (fun hwi => ?_) (fun hwi => ?_)
                  · obtain ⟨g1, g2, g3⟩ := (within_iff is a b hi _).1 hwi
                    obtain ⟨d, rfl⟩ : ∃ d, k' = i + d := ⟨k' - i, by omega⟩
                    obtain ⟨p1, p2, p3⟩ := far_moment hm i d hkl
                    obtain ⟨⟨a1, a2⟩, a3, a4⟩ := (hm (i + d) hkl).1
                    obtain ⟨⟨b1, b2⟩, b3, b4⟩ := (hm i (by omega)).1
                    rw [nwrap _ (by omega) (by omega)] at g2 g3
                    rw [nwrap _ (by omega) (by omega)]
                    rcases hab with ⟨_, q1, q2⟩ | ⟨q1, _⟩
                    · refine ⟨decide_eq_false ?_, fun hne => decide_eq_false ?_⟩
                      · have : f * lo ≤ f * ((rd_T82 l ((i + d : Nat) : Int)).f0 - (rd_T82 l (i : Int)).f0) := by omega
                        have := Int.le_of_mul_le_mul_left this (by omega)
                        omega
                      · have hh : hi ≠ -1 := by simpa using hne
                        rcases q2 with q2 | ⟨q2, q3⟩
                        · exact absurd q2 hh
                        · rcases g3 with g3 | g3
                          · exact absurd g3 hh
                          · have : s * ((rd_T82 l ((i + d : Nat) : Int)).f0 - (rd_T82 l (i : Int)).f0) ≤ s * hi := by omega
                            have := Int.le_of_mul_le_mul_left this (by omega)
                            omega
                    · rw [q1] at g1; cases g1
                  · have hnot : ¬ (is = true ∧ a ≤ ticks ∧ (hi = -1 ∨ ticks ≤ b)) := fun h => by rw [(within_iff is a b hi ticks).2 h] at hwi; cases hwi
                    rw [nwrap _ (by omega) (by omega)]
                    by_cases ht : ticks < f * lo
                    · exact .inl (decide_eq_true ht)
                    · right
                      have hh : hi ≠ -1 := by
                        intro hh
                        rcases hab with ⟨q0, q1, q2⟩ | ⟨q1, q2, _⟩
                        · exact hnot ⟨q0, by omega, .inl hh⟩
                        · exact q2 hh
                      have m2 := mul_small (s := s) (d := hi) (by omega) (by omega) (by omega) (by omega)
                      refine ⟨decide_eq_false ht, by simpa using hh, ?_⟩
                      rw [nwrap _ (by omega) (by omega)]
                      refine decide_eq_true ?_
                      rcases hab with ⟨q0, q1, q2⟩ | ⟨q1, q2, q3⟩
                      · rcases q2 with q2 | ⟨q2, q3⟩
                        · exact absurd q2 hh
                        · by_cases hb : ticks ≤ b
                          · exact absurd ⟨q0, by omega, .inr hb⟩ hnot
                          · omega
                      · omega
                  · obtain ⟨g1, g2, g3⟩ := (within_iff is a b hi _).1 hwi
                    obtain ⟨cr, dr, can, k1, k2⟩ := real_val (s := s) (f := f) (t := ticks) hrate (by omega)
                    refine ⟨cr, dr, can, k1, ?_⟩
                    rcases k2 with k2 | ⟨k2, k3, k4, k5⟩
                    · exact .inl k2
                    · right
                      rcases hab with ⟨_, q1, q2⟩ | ⟨q1, _⟩
                      · refine ⟨k2, decide_eq_true k3, decide_eq_true ?_, ?_⟩
                        · have : lo * f ≤ cr * f := by rw [Int.mul_comm lo f]; omega
                          exact Int.le_of_mul_le_mul_right this (by omega)
                        · by_cases hh : hi = -1
                          · left; simpa using hh
                          · right
                            refine ⟨by simpa using hh, decide_eq_true ?_⟩
                            rcases q2 with q2 | ⟨q2, q3⟩
                            · exact absurd q2 hh
                            · rcases g3 with g3 | g3
                              · exact absurd g3 hh
                              · have : dr * s ≤ hi * s := by rw [Int.mul_comm hi s]; omega
                                exact Int.le_of_mul_le_mul_right this (by omega)
                      · rw [q1] at g1; cases g1
  · exact early (.inl (by simpa using d0))
end Go.Proofs.Ytlfopemghafboaa.D
