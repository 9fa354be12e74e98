/- Contracts over the evaluator: terms. Conditions: none beyond the hypotheses of each theorem. -/
import Derived.Test.YtdjgjnahfekdhaaGreatDoorT1
set_option linter.unusedSectionVars false
set_option linter.unusedVariables false
set_option linter.unusedSimpArgs false
namespace Go.Av
open Go.Proofs
set_option maxRecDepth 100000
def sortOK (b : ByteArray) : Bool := isNameB b && !(decide (((b.data.toList.count 95 : Nat) : Int) > 0))
def opEq (a b : O) : Bool := strEq a.name b.name && ((a.res == b.res) && decide (a.args = b.args))
structure SigP (s : S) : Prop where
  few : s.sorts.length ≤ 64
  fewOps : s.ops.length ≤ 256
  sort : ∀ (j : Nat) x, s.sorts[j]? = some x → sortOK x = true
  once : ∀ (j k : Nat) x y, k < j → s.sorts[j]? = some x → s.sorts[k]? = some y → strEq y x = false
  op : ∀ (j : Nat) x, s.ops[j]? = some x → opOK s.sorts.length x = true
  onceOp : ∀ (j k : Nat) x y, k < j → s.ops[j]? = some x → s.ops[k]? = some y → opEq y x = false
open Classical in
noncomputable def sigB (s : S) : Bool := decide (SigP s)
open Classical in
theorem sigB_no {s : S} (h : ¬ SigP s) : sigB s = false := by unfold sigB; exact decide_eq_false h
open Classical in
theorem sigB_yes {s : S} (h : SigP s) : sigB s = true := by unfold sigB; exact decide_eq_true h
theorem F130 : cfg.F 130 = some Tryz.f130 := rfl
set_option maxHeartbeats 8000000 in
theorem isSig_fn (s : S) (hf : s.Fit) : Fn 130 [.agg (sV s)] (.bool (sigB s)) := by
  refine Fn.of_wp F130 rfl ?_
  simp only [show Tryz.f130.ntmps = 119 from rfl, List.length_cons, List.length_nil, List.replicate, List.cons_append, List.nil_append]
  repeat (first | refine zE ?_ | refine zP ?_ | refine zD ?_ | refine zQ ?_ | refine zR ?_ | refine zS ?_ | refine wN ?_ | refine wM ?_ | refine wR ?_ | refine wS ?_ | refine wB ?_ | refine wG ?_ | refine wD ?_ | refine wY ?_ | refine wZ ?_ | refine wK ?_ | refine wT ?_ | refine wX ?_)
  cases h1 : decide ((s.sorts.length : Int) > 64)
  case true =>
    rw [sigB_no fun h => by have := h.few; simp at h1; omega]
    repeat (first | refine zE ?_ | refine zP ?_ | refine zD ?_ | refine zQ ?_ | refine zR ?_ | refine zS ?_ | refine wN ?_ | refine wM ?_ | refine wR ?_ | refine wS ?_ | refine wB ?_ | refine wG ?_ | refine wD ?_ | refine wY ?_ | refine wZ ?_ | refine wK ?_ | refine wT ?_ | refine wX ?_)
    exact ⟨.inr rfl, _, rfl, rfl⟩
  repeat (first | refine zE ?_ | refine zP ?_ | refine zD ?_ | refine zQ ?_ | refine zR ?_ | refine zS ?_ | refine wN ?_ | refine wM ?_ | refine wR ?_ | refine wS ?_ | refine wB ?_ | refine wG ?_ | refine wD ?_ | refine wY ?_ | refine wZ ?_ | refine wK ?_ | refine wT ?_ | refine wX ?_)
  cases h2 : decide ((s.ops.length : Int) > 256)
  case true =>
    rw [sigB_no fun h => by have := h.fewOps; simp at h2; omega]
    repeat (first | refine zE ?_ | refine zP ?_ | refine zD ?_ | refine zQ ?_ | refine zR ?_ | refine zS ?_ | refine wN ?_ | refine wM ?_ | refine wR ?_ | refine wS ?_ | refine wB ?_ | refine wG ?_ | refine wD ?_ | refine wY ?_ | refine wZ ?_ | refine wK ?_ | refine wT ?_ | refine wX ?_)
    exact ⟨.inr rfl, _, rfl, rfl⟩
  have hlen : s.sorts.length ≤ 64 := by simp at h1; omega
  have hlen2 : s.ops.length ≤ 256 := by simp at h2; omega
  clear h1 h2
  repeat (first | refine zE ?_ | refine zP ?_ | refine zD ?_ | refine zQ ?_ | refine zR ?_ | refine zS ?_ | refine wN ?_ | refine wM ?_ | refine wR ?_ | refine wS ?_ | refine wB ?_ | refine wG ?_ | refine wD ?_ | refine wY ?_ | refine wZ ?_ | refine wK ?_ | refine wT ?_ | refine wX ?_)
  refine wp_loop2 115 (fun i : Nat => [.agg (sV s), .bp 0 0, .bool false, .int .i64 (i : Int)]) (fun i H => H = [.box (sV s)] ∧ i ≤ s.sorts.length ∧ (∀ j, j < i → ∀ x, s.sorts[j]? = some x → sortOK x = true) ∧ (∀ j, j < i → ∀ k, k < j → ∀ x y, s.sorts[j]? = some x → s.sorts[k]? = some y → strEq y x = false)) (fun i => s.sorts.length - i) 0 ⟨_, rfl, rfl, rfl, Nat.zero_le _, fun j hj => by omega, fun j hj => by omega⟩ ?_
  rintro i H d u ⟨rfl, hi, hb1, hb2⟩
  (rw [show (List.range 115).map u = [u 0, u 1, u 2, u 3, u 4, u 5, u 6, u 7, u 8, u 9, u 10, u 11, u 12, u 13, u 14, u 15, u 16, u 17, u 18, u 19, u 20, u 21, u 22, u 23, u 24, u 25, u 26, u 27, u 28, u 29, u 30, u 31, u 32, u 33, u 34, u 35, u 36, u 37, u 38, u 39, u 40, u 41, u 42, u 43, u 44, u 45, u 46, u 47, u 48, u 49, u 50, u 51, u 52, u 53, u 54, u 55, u 56, u 57, u 58, u 59, u 60, u 61, u 62, u 63, u 64, u 65, u 66, u 67, u 68, u 69, u 70, u 71, u 72, u 73, u 74, u 75, u 76, u 77, u 78, u 79, u 80, u 81, u 82, u 83, u 84, u 85, u 86, u 87, u 88, u 89, u 90, u 91, u 92, u 93, u 94, u 95, u 96, u 97, u 98, u 99, u 100, u 101, u 102, u 103, u 104, u 105, u 106, u 107, u 108, u 109, u 110, u 111, u 112, u 113, u 114] from rfl]; simp only [List.cons_append, List.nil_append])
  repeat (first | refine zE ?_ | refine zP ?_ | refine zD ?_ | refine zQ ?_ | refine zR ?_ | refine zS ?_ | refine wN ?_ | refine wM ?_ | refine wR ?_ | refine wS ?_ | refine wB ?_ | refine wG ?_ | refine wD ?_ | refine wY ?_ | refine wZ ?_ | refine wK ?_ | refine wT ?_ | refine wX ?_)
  by_cases hlt : i < s.sorts.length
  · refine wp_yes rfl (decide_eq_true (by omega)) ?_
    obtain ⟨x, hx⟩ := get_of hlt
    have hxs := hf.sort i x hx
    repeat (first | refine zE ?_ | refine zP ?_ | refine zD ?_ | refine zQ ?_ | refine zR ?_ | refine zS ?_ | refine wN ?_ | refine wM ?_ | refine wR ?_ | refine wS ?_ | refine wB ?_ | refine wG ?_ | refine wD ?_ | refine wY ?_ | refine wZ ?_ | refine wK ?_ | refine wT ?_ | refine wX ?_)
    refine zF (step_idx rfl rfl rfl rfl rfl rfl ⟨by omega, by omega⟩ (drop_rows (k := 1) (fun _ => rfl) hx)) ?_
    repeat (first | refine zE ?_ | refine zP ?_ | refine zD ?_ | refine zQ ?_ | refine zR ?_ | refine zS ?_ | refine wN ?_ | refine wM ?_ | refine wR ?_ | refine wS ?_ | refine wB ?_ | refine wG ?_ | refine wD ?_ | refine wY ?_ | refine wZ ?_ | refine wK ?_ | refine wT ?_ | refine wX ?_)
    refine zF (step_call rfl rfl ((name_fn x hxs).call (by decide) rfl rfl _)) ?_
    repeat (first | refine zE ?_ | refine zP ?_ | refine zD ?_ | refine zQ ?_ | refine zR ?_ | refine zS ?_ | refine wN ?_ | refine wM ?_ | refine wR ?_ | refine wS ?_ | refine wB ?_ | refine wG ?_ | refine wD ?_ | refine wY ?_ | refine wZ ?_ | refine wK ?_ | refine wT ?_ | refine wX ?_)
    cases h3 : isNameB x
    · rw [sigB_no fun h => by have := h.sort i x hx; simp [sortOK, h3] at this]
      repeat (first | refine zE ?_ | refine zP ?_ | refine zD ?_ | refine zQ ?_ | refine zR ?_ | refine zS ?_ | refine wN ?_ | refine wM ?_ | refine wR ?_ | refine wS ?_ | refine wB ?_ | refine wG ?_ | refine wD ?_ | refine wY ?_ | refine wZ ?_ | refine wK ?_ | refine wT ?_ | refine wX ?_)
      exact ⟨.inr rfl, _, rfl, rfl⟩
    repeat (first | refine zE ?_ | refine zP ?_ | refine zD ?_ | refine zQ ?_ | refine zR ?_ | refine zS ?_ | refine wN ?_ | refine wM ?_ | refine wR ?_ | refine wS ?_ | refine wB ?_ | refine wG ?_ | refine wD ?_ | refine wY ?_ | refine wZ ?_ | refine wK ?_ | refine wT ?_ | refine wX ?_)
    refine zF (step_idx rfl rfl rfl rfl rfl rfl ⟨by omega, by omega⟩ (drop_rows (k := 1) (fun _ => rfl) hx)) ?_
    repeat (first | refine zE ?_ | refine zP ?_ | refine zD ?_ | refine zQ ?_ | refine zR ?_ | refine zS ?_ | refine wN ?_ | refine wM ?_ | refine wR ?_ | refine wS ?_ | refine wB ?_ | refine wG ?_ | refine wD ?_ | refine wY ?_ | refine wZ ?_ | refine wK ?_ | refine wT ?_ | refine wX ?_)
    refine zF (step_call rfl rfl ((blanks_fn x hxs).call (by decide) rfl rfl _)) ?_
    repeat (first | refine zE ?_ | refine zP ?_ | refine zD ?_ | refine zQ ?_ | refine zR ?_ | refine zS ?_ | refine wN ?_ | refine wM ?_ | refine wR ?_ | refine wS ?_ | refine wB ?_ | refine wG ?_ | refine wD ?_ | refine wY ?_ | refine wZ ?_ | refine wK ?_ | refine wT ?_ | refine wX ?_)
    cases h4 : decide (((x.data.toList.count 95 : Nat) : Int) > 0)
    case true =>
      rw [sigB_no fun h => by have := h.sort i x hx; unfold sortOK at this; rw [h4] at this; simp at this]
      repeat (first | refine zE ?_ | refine zP ?_ | refine zD ?_ | refine zQ ?_ | refine zR ?_ | refine zS ?_ | refine wN ?_ | refine wM ?_ | refine wR ?_ | refine wS ?_ | refine wB ?_ | refine wG ?_ | refine wD ?_ | refine wY ?_ | refine wZ ?_ | refine wK ?_ | refine wT ?_ | refine wX ?_)
      exact ⟨.inr rfl, _, rfl, rfl⟩
    have hxok : sortOK x = true := by unfold sortOK; rw [h3, h4]; rfl
    repeat (first | refine zE ?_ | refine zP ?_ | refine zD ?_ | refine zQ ?_ | refine zR ?_ | refine zS ?_ | refine wN ?_ | refine wM ?_ | refine wR ?_ | refine wS ?_ | refine wB ?_ | refine wG ?_ | refine wD ?_ | refine wY ?_ | refine wZ ?_ | refine wK ?_ | refine wT ?_ | refine wX ?_)
    refine wp_loop2 114 (fun k : Nat => [.agg (sV s), .bp 0 0, .bool false, .int .i64 (i : Int), .int .i64 (k : Int)]) (fun k H => H = [.box (sV s)] ∧ k ≤ i ∧ (∀ k', k' < k → ∀ y, s.sorts[k']? = some y → strEq y x = false)) (fun k => i - k) 0 ⟨_, rfl, rfl, rfl, Nat.zero_le _, fun j hj => by omega⟩ ?_
    rintro k H d u ⟨rfl, hk, hb3⟩
    (rw [show (List.range 114).map u = [u 0, u 1, u 2, u 3, u 4, u 5, u 6, u 7, u 8, u 9, u 10, u 11, u 12, u 13, u 14, u 15, u 16, u 17, u 18, u 19, u 20, u 21, u 22, u 23, u 24, u 25, u 26, u 27, u 28, u 29, u 30, u 31, u 32, u 33, u 34, u 35, u 36, u 37, u 38, u 39, u 40, u 41, u 42, u 43, u 44, u 45, u 46, u 47, u 48, u 49, u 50, u 51, u 52, u 53, u 54, u 55, u 56, u 57, u 58, u 59, u 60, u 61, u 62, u 63, u 64, u 65, u 66, u 67, u 68, u 69, u 70, u 71, u 72, u 73, u 74, u 75, u 76, u 77, u 78, u 79, u 80, u 81, u 82, u 83, u 84, u 85, u 86, u 87, u 88, u 89, u 90, u 91, u 92, u 93, u 94, u 95, u 96, u 97, u 98, u 99, u 100, u 101, u 102, u 103, u 104, u 105, u 106, u 107, u 108, u 109, u 110, u 111, u 112, u 113] from rfl]; simp only [List.cons_append, List.nil_append])
    repeat (first | refine zE ?_ | refine zP ?_ | refine zD ?_ | refine zQ ?_ | refine zR ?_ | refine zS ?_ | refine wN ?_ | refine wM ?_ | refine wR ?_ | refine wS ?_ | refine wB ?_ | refine wG ?_ | refine wD ?_ | refine wY ?_ | refine wZ ?_ | refine wK ?_ | refine wT ?_ | refine wX ?_)
    by_cases hlk : k < i
    · refine wp_yes rfl (decide_eq_true (by omega)) ?_
      obtain ⟨y, hy⟩ := get_of (show k < s.sorts.length by omega)
      repeat (first | refine zE ?_ | refine zP ?_ | refine zD ?_ | refine zQ ?_ | refine zR ?_ | refine zS ?_ | refine wN ?_ | refine wM ?_ | refine wR ?_ | refine wS ?_ | refine wB ?_ | refine wG ?_ | refine wD ?_ | refine wY ?_ | refine wZ ?_ | refine wK ?_ | refine wT ?_ | refine wX ?_)
      refine zG (step_idx rfl rfl rfl rfl rfl rfl ⟨by omega, by omega⟩ (drop_rows (k := 1) (fun _ => rfl) hy)) ?_
      repeat (first | refine zE ?_ | refine zP ?_ | refine zD ?_ | refine zQ ?_ | refine zR ?_ | refine zS ?_ | refine wN ?_ | refine wM ?_ | refine wR ?_ | refine wS ?_ | refine wB ?_ | refine wG ?_ | refine wD ?_ | refine wY ?_ | refine wZ ?_ | refine wK ?_ | refine wT ?_ | refine wX ?_)
      refine zG (step_idx rfl rfl rfl rfl rfl rfl ⟨by omega, by omega⟩ (drop_rows (k := 1) (fun _ => rfl) hx)) ?_
      repeat (first | refine zE ?_ | refine zP ?_ | refine zD ?_ | refine zQ ?_ | refine zR ?_ | refine zS ?_ | refine wN ?_ | refine wM ?_ | refine wR ?_ | refine wS ?_ | refine wB ?_ | refine wG ?_ | refine wD ?_ | refine wY ?_ | refine wZ ?_ | refine wK ?_ | refine wT ?_ | refine wX ?_)
      cases h5 : strEq y x
      · repeat (first | refine zE ?_ | refine zP ?_ | refine zD ?_ | refine zQ ?_ | refine zR ?_ | refine zS ?_ | refine wN ?_ | refine wM ?_ | refine wR ?_ | refine wS ?_ | refine wB ?_ | refine wG ?_ | refine wD ?_ | refine wY ?_ | refine wZ ?_ | refine wK ?_ | refine wT ?_ | refine wX ?_)
        rw [wrap_succ (by omega)]
        exact ⟨k + 1, _, rfl, rfl, ⟨rfl, hlk, below_succ hb3 fun z hz => by rw [hy] at hz; cases hz; exact h5⟩, (by first | omega | (dsimp only; omega))⟩
      · rw [sigB_no fun h => by have := h.once i k x y hlk hx hy; rw [h5] at this; cases this]
        repeat (first | refine zE ?_ | refine zP ?_ | refine zD ?_ | refine zQ ?_ | refine zR ?_ | refine zS ?_ | refine wN ?_ | refine wM ?_ | refine wR ?_ | refine wS ?_ | refine wB ?_ | refine wG ?_ | refine wD ?_ | refine wY ?_ | refine wZ ?_ | refine wK ?_ | refine wT ?_ | refine wX ?_)
        exact ⟨.inr rfl, _, rfl, rfl⟩
    · refine wp_no rfl (decide_eq_false (by omega)) ?_
      have hki : k = i := by omega
      subst hki
      repeat (first | refine zE ?_ | refine zP ?_ | refine zD ?_ | refine zQ ?_ | refine zR ?_ | refine zS ?_ | refine wN ?_ | refine wM ?_ | refine wR ?_ | refine wS ?_ | refine wB ?_ | refine wG ?_ | refine wD ?_ | refine wY ?_ | refine wZ ?_ | refine wK ?_ | refine wT ?_ | refine wX ?_)
      rw [wrap_succ (by omega)]
      exact ⟨k + 1, _, rfl, rfl, ⟨rfl, hlt, below_succ hb1 fun z hz => by rw [hx] at hz; cases hz; exact hxok, below_succ hb2 fun q hq z y hz hy => by rw [hx] at hz; cases hz; exact hb3 q hq y hy⟩, (by first | omega | (dsimp only; omega))⟩
  refine wp_no rfl (decide_eq_false (by omega)) ?_
  have hil : i = s.sorts.length := by omega
  subst hil
  repeat (first | refine zE ?_ | refine zP ?_ | refine zD ?_ | refine zQ ?_ | refine zR ?_ | refine zS ?_ | refine wN ?_ | refine wM ?_ | refine wR ?_ | refine wS ?_ | refine wB ?_ | refine wG ?_ | refine wD ?_ | refine wY ?_ | refine wZ ?_ | refine wK ?_ | refine wT ?_ | refine wX ?_)
  refine wp_loop2 113 (fun i : Nat => [.agg (sV s), .bp 0 0, .bool false, .int .i64 (s.sorts.length : Int), u 0, .int .i64 (i : Int)]) (fun i H => H = [.box (sV s)] ∧ i ≤ s.ops.length ∧ (∀ j, j < i → ∀ x, s.ops[j]? = some x → opOK s.sorts.length x = true) ∧ (∀ j, j < i → ∀ k, k < j → ∀ x y, s.ops[j]? = some x → s.ops[k]? = some y → opEq y x = false)) (fun i => s.ops.length - i) 0 ⟨_, rfl, rfl, rfl, Nat.zero_le _, fun j hj => by omega, fun j hj => by omega⟩ ?_
  rintro i H d v ⟨rfl, hi, hc1, hc2⟩
  (rw [show (List.range 113).map v = [v 0, v 1, v 2, v 3, v 4, v 5, v 6, v 7, v 8, v 9, v 10, v 11, v 12, v 13, v 14, v 15, v 16, v 17, v 18, v 19, v 20, v 21, v 22, v 23, v 24, v 25, v 26, v 27, v 28, v 29, v 30, v 31, v 32, v 33, v 34, v 35, v 36, v 37, v 38, v 39, v 40, v 41, v 42, v 43, v 44, v 45, v 46, v 47, v 48, v 49, v 50, v 51, v 52, v 53, v 54, v 55, v 56, v 57, v 58, v 59, v 60, v 61, v 62, v 63, v 64, v 65, v 66, v 67, v 68, v 69, v 70, v 71, v 72, v 73, v 74, v 75, v 76, v 77, v 78, v 79, v 80, v 81, v 82, v 83, v 84, v 85, v 86, v 87, v 88, v 89, v 90, v 91, v 92, v 93, v 94, v 95, v 96, v 97, v 98, v 99, v 100, v 101, v 102, v 103, v 104, v 105, v 106, v 107, v 108, v 109, v 110, v 111, v 112] from rfl]; simp only [List.cons_append, List.nil_append])
  repeat (first | refine zE ?_ | refine zP ?_ | refine zD ?_ | refine zQ ?_ | refine zR ?_ | refine zS ?_ | refine wN ?_ | refine wM ?_ | refine wR ?_ | refine wS ?_ | refine wB ?_ | refine wG ?_ | refine wD ?_ | refine wY ?_ | refine wZ ?_ | refine wK ?_ | refine wT ?_ | refine wX ?_)
  by_cases hlt : i < s.ops.length
  · refine wp_yes rfl (decide_eq_true (by omega)) ?_
    obtain ⟨x, hx⟩ := get_of hlt
    have hxs := hf.op i x hx
    repeat (first | refine zE ?_ | refine zP ?_ | refine zD ?_ | refine zQ ?_ | refine zR ?_ | refine zS ?_ | refine wN ?_ | refine wM ?_ | refine wR ?_ | refine wS ?_ | refine wB ?_ | refine wG ?_ | refine wD ?_ | refine wY ?_ | refine wZ ?_ | refine wK ?_ | refine wT ?_ | refine wX ?_)
    refine zG (step_idx rfl rfl rfl rfl rfl rfl ⟨by omega, by omega⟩ (drop_rows (k := 3) (fun _ => rfl) hx)) ?_
    repeat (first | refine zE ?_ | refine zP ?_ | refine zD ?_ | refine zQ ?_ | refine zR ?_ | refine zS ?_ | refine wN ?_ | refine wM ?_ | refine wR ?_ | refine wS ?_ | refine wB ?_ | refine wG ?_ | refine wD ?_ | refine wY ?_ | refine wZ ?_ | refine wK ?_ | refine wT ?_ | refine wX ?_)
    refine zG (step_call rfl rfl ((op_fn s x hxs.1 hxs.2).cl)) ?_
    repeat (first | refine zE ?_ | refine zP ?_ | refine zD ?_ | refine zQ ?_ | refine zR ?_ | refine zS ?_ | refine wN ?_ | refine wM ?_ | refine wR ?_ | refine wS ?_ | refine wB ?_ | refine wG ?_ | refine wD ?_ | refine wY ?_ | refine wZ ?_ | refine wK ?_ | refine wT ?_ | refine wX ?_)
    cases h3 : opOK s.sorts.length x
    · rw [sigB_no fun h => by have := h.op i x hx; rw [h3] at this; cases this]
      repeat (first | refine zE ?_ | refine zP ?_ | refine zD ?_ | refine zQ ?_ | refine zR ?_ | refine zS ?_ | refine wN ?_ | refine wM ?_ | refine wR ?_ | refine wS ?_ | refine wB ?_ | refine wG ?_ | refine wD ?_ | refine wY ?_ | refine wZ ?_ | refine wK ?_ | refine wT ?_ | refine wX ?_)
      exact ⟨.inr rfl, _, rfl, rfl⟩
    repeat (first | refine zE ?_ | refine zP ?_ | refine zD ?_ | refine zQ ?_ | refine zR ?_ | refine zS ?_ | refine wN ?_ | refine wM ?_ | refine wR ?_ | refine wS ?_ | refine wB ?_ | refine wG ?_ | refine wD ?_ | refine wY ?_ | refine wZ ?_ | refine wK ?_ | refine wT ?_ | refine wX ?_)
    refine wp_loop2 112 (fun k : Nat => [.agg (sV s), .bp 0 0, .bool false, .int .i64 (s.sorts.length : Int), u 0, .int .i64 (i : Int), .int .i64 (k : Int)]) (fun k H => H = [.box (sV s)] ∧ k ≤ i ∧ (∀ k', k' < k → ∀ y, s.ops[k']? = some y → opEq y x = false)) (fun k => i - k) 0 ⟨_, rfl, rfl, rfl, Nat.zero_le _, fun j hj => by omega⟩ ?_
    rintro k H d v ⟨rfl, hk, hc3⟩
    (rw [show (List.range 112).map v = [v 0, v 1, v 2, v 3, v 4, v 5, v 6, v 7, v 8, v 9, v 10, v 11, v 12, v 13, v 14, v 15, v 16, v 17, v 18, v 19, v 20, v 21, v 22, v 23, v 24, v 25, v 26, v 27, v 28, v 29, v 30, v 31, v 32, v 33, v 34, v 35, v 36, v 37, v 38, v 39, v 40, v 41, v 42, v 43, v 44, v 45, v 46, v 47, v 48, v 49, v 50, v 51, v 52, v 53, v 54, v 55, v 56, v 57, v 58, v 59, v 60, v 61, v 62, v 63, v 64, v 65, v 66, v 67, v 68, v 69, v 70, v 71, v 72, v 73, v 74, v 75, v 76, v 77, v 78, v 79, v 80, v 81, v 82, v 83, v 84, v 85, v 86, v 87, v 88, v 89, v 90, v 91, v 92, v 93, v 94, v 95, v 96, v 97, v 98, v 99, v 100, v 101, v 102, v 103, v 104, v 105, v 106, v 107, v 108, v 109, v 110, v 111] from rfl]; simp only [List.cons_append, List.nil_append])
    repeat (first | refine zE ?_ | refine zP ?_ | refine zD ?_ | refine zQ ?_ | refine zR ?_ | refine zS ?_ | refine wN ?_ | refine wM ?_ | refine wR ?_ | refine wS ?_ | refine wB ?_ | refine wG ?_ | refine wD ?_ | refine wY ?_ | refine wZ ?_ | refine wK ?_ | refine wT ?_ | refine wX ?_)
    by_cases hlk : k < i
    · refine wp_yes rfl (decide_eq_true (by omega)) ?_
      obtain ⟨y, hy⟩ := get_of (show k < s.ops.length by omega)
      have hys := hf.op k y hy
      have next : opEq y x = false → ∀ k', k' < k + 1 → ∀ z, s.ops[k']? = some z → opEq z x = false := fun h5 => below_succ hc3 fun z hz => by rw [hy] at hz; cases hz; exact h5
      repeat (first | refine zE ?_ | refine zP ?_ | refine zD ?_ | refine zQ ?_ | refine zR ?_ | refine zS ?_ | refine wN ?_ | refine wM ?_ | refine wR ?_ | refine wS ?_ | refine wB ?_ | refine wG ?_ | refine wD ?_ | refine wY ?_ | refine wZ ?_ | refine wK ?_ | refine wT ?_ | refine wX ?_)
      refine zG (step_idx rfl rfl rfl rfl rfl rfl ⟨by omega, by omega⟩ (drop_rows (k := 3) (fun _ => rfl) hy)) ?_
      repeat (first | refine zE ?_ | refine zP ?_ | refine zD ?_ | refine zQ ?_ | refine zR ?_ | refine zS ?_ | refine wN ?_ | refine wM ?_ | refine wR ?_ | refine wS ?_ | refine wB ?_ | refine wG ?_ | refine wD ?_ | refine wY ?_ | refine wZ ?_ | refine wK ?_ | refine wT ?_ | refine wX ?_)
      refine zG (step_idx rfl rfl rfl rfl rfl rfl ⟨by omega, by omega⟩ (drop_rows (k := 3) (fun _ => rfl) hx)) ?_
      repeat (first | refine zE ?_ | refine zP ?_ | refine zD ?_ | refine zQ ?_ | refine zR ?_ | refine zS ?_ | refine wN ?_ | refine wM ?_ | refine wR ?_ | refine wS ?_ | refine wB ?_ | refine wG ?_ | refine wD ?_ | refine wY ?_ | refine wZ ?_ | refine wK ?_ | refine wT ?_ | refine wX ?_)
      cases h5 : strEq y.name x.name
      · repeat (first | refine zE ?_ | refine zP ?_ | refine zD ?_ | refine zQ ?_ | refine zR ?_ | refine zS ?_ | refine wN ?_ | refine wM ?_ | refine wR ?_ | refine wS ?_ | refine wB ?_ | refine wG ?_ | refine wD ?_ | refine wY ?_ | refine wZ ?_ | refine wK ?_ | refine wT ?_ | refine wX ?_)
        rw [wrap_succ (by omega)]
        exact ⟨k + 1, _, rfl, rfl, ⟨rfl, hlk, next (by unfold opEq; rw [h5]; rfl)⟩, (by first | omega | (dsimp only; omega))⟩
      repeat (first | refine zE ?_ | refine zP ?_ | refine zD ?_ | refine zQ ?_ | refine zR ?_ | refine zS ?_ | refine wN ?_ | refine wM ?_ | refine wR ?_ | refine wS ?_ | refine wB ?_ | refine wG ?_ | refine wD ?_ | refine wY ?_ | refine wZ ?_ | refine wK ?_ | refine wT ?_ | refine wX ?_)
      refine zG (step_idx rfl rfl rfl rfl rfl rfl ⟨by omega, by omega⟩ (drop_rows (k := 3) (fun _ => rfl) hy)) ?_
      repeat (first | refine zE ?_ | refine zP ?_ | refine zD ?_ | refine zQ ?_ | refine zR ?_ | refine zS ?_ | refine wN ?_ | refine wM ?_ | refine wR ?_ | refine wS ?_ | refine wB ?_ | refine wG ?_ | refine wD ?_ | refine wY ?_ | refine wZ ?_ | refine wK ?_ | refine wT ?_ | refine wX ?_)
      refine zG (step_idx rfl rfl rfl rfl rfl rfl ⟨by omega, by omega⟩ (drop_rows (k := 3) (fun _ => rfl) hx)) ?_
      repeat (first | refine zE ?_ | refine zP ?_ | refine zD ?_ | refine zQ ?_ | refine zR ?_ | refine zS ?_ | refine wN ?_ | refine wM ?_ | refine wR ?_ | refine wS ?_ | refine wB ?_ | refine wG ?_ | refine wD ?_ | refine wY ?_ | refine wZ ?_ | refine wK ?_ | refine wT ?_ | refine wX ?_)
      cases h6 : (y.res == x.res)
      · repeat (first | refine zE ?_ | refine zP ?_ | refine zD ?_ | refine zQ ?_ | refine zR ?_ | refine zS ?_ | refine wN ?_ | refine wM ?_ | refine wR ?_ | refine wS ?_ | refine wB ?_ | refine wG ?_ | refine wD ?_ | refine wY ?_ | refine wZ ?_ | refine wK ?_ | refine wT ?_ | refine wX ?_)
        rw [wrap_succ (by omega)]
        exact ⟨k + 1, _, rfl, rfl, ⟨rfl, hlk, next (by unfold opEq; rw [h5, h6]; rfl)⟩, (by first | omega | (dsimp only; omega))⟩
      repeat (first | refine zE ?_ | refine zP ?_ | refine zD ?_ | refine zQ ?_ | refine zR ?_ | refine zS ?_ | refine wN ?_ | refine wM ?_ | refine wR ?_ | refine wS ?_ | refine wB ?_ | refine wG ?_ | refine wD ?_ | refine wY ?_ | refine wZ ?_ | refine wK ?_ | refine wT ?_ | refine wX ?_)
      refine zG (step_idx rfl rfl rfl rfl rfl rfl ⟨by omega, by omega⟩ (drop_rows (k := 3) (fun _ => rfl) hy)) ?_
      repeat (first | refine zE ?_ | refine zP ?_ | refine zD ?_ | refine zQ ?_ | refine zR ?_ | refine zS ?_ | refine wN ?_ | refine wM ?_ | refine wR ?_ | refine wS ?_ | refine wB ?_ | refine wG ?_ | refine wD ?_ | refine wY ?_ | refine wZ ?_ | refine wK ?_ | refine wT ?_ | refine wX ?_)
      refine zG (step_idx rfl rfl rfl rfl rfl rfl ⟨by omega, by omega⟩ (drop_rows (k := 3) (fun _ => rfl) hx)) ?_
      repeat (first | refine zE ?_ | refine zP ?_ | refine zD ?_ | refine zQ ?_ | refine zR ?_ | refine zS ?_ | refine wN ?_ | refine wM ?_ | refine wR ?_ | refine wS ?_ | refine wB ?_ | refine wG ?_ | refine wD ?_ | refine wY ?_ | refine wZ ?_ | refine wK ?_ | refine wT ?_ | refine wX ?_)
      refine zG (step_call rfl rfl ((sameInts4_fn y.args x.args y.fa x.fa hys.2 hxs.2).cl)) ?_
      repeat (first | refine zE ?_ | refine zP ?_ | refine zD ?_ | refine zQ ?_ | refine zR ?_ | refine zS ?_ | refine wN ?_ | refine wM ?_ | refine wR ?_ | refine wS ?_ | refine wB ?_ | refine wG ?_ | refine wD ?_ | refine wY ?_ | refine wZ ?_ | refine wK ?_ | refine wT ?_ | refine wX ?_)
      cases h7 : decide (y.args = x.args)
      · repeat (first | refine zE ?_ | refine zP ?_ | refine zD ?_ | refine zQ ?_ | refine zR ?_ | refine zS ?_ | refine wN ?_ | refine wM ?_ | refine wR ?_ | refine wS ?_ | refine wB ?_ | refine wG ?_ | refine wD ?_ | refine wY ?_ | refine wZ ?_ | refine wK ?_ | refine wT ?_ | refine wX ?_)
        rw [wrap_succ (by omega)]
        exact ⟨k + 1, _, rfl, rfl, ⟨rfl, hlk, next (by unfold opEq; rw [h5, h6, h7]; rfl)⟩, (by first | omega | (dsimp only; omega))⟩
      · rw [sigB_no fun h => by have := h.onceOp i k x y hlk hx hy; unfold opEq at this; rw [h5, h6, h7] at this; cases this]
        repeat (first | refine zE ?_ | refine zP ?_ | refine zD ?_ | refine zQ ?_ | refine zR ?_ | refine zS ?_ | refine wN ?_ | refine wM ?_ | refine wR ?_ | refine wS ?_ | refine wB ?_ | refine wG ?_ | refine wD ?_ | refine wY ?_ | refine wZ ?_ | refine wK ?_ | refine wT ?_ | refine wX ?_)
        exact ⟨.inr rfl, _, rfl, rfl⟩
    · refine wp_no rfl (decide_eq_false (by omega)) ?_
      have hki : k = i := by omega
      subst hki
      repeat (first | refine zE ?_ | refine zP ?_ | refine zD ?_ | refine zQ ?_ | refine zR ?_ | refine zS ?_ | refine wN ?_ | refine wM ?_ | refine wR ?_ | refine wS ?_ | refine wB ?_ | refine wG ?_ | refine wD ?_ | refine wY ?_ | refine wZ ?_ | refine wK ?_ | refine wT ?_ | refine wX ?_)
      rw [wrap_succ (by omega)]
      exact ⟨k + 1, _, rfl, rfl, ⟨rfl, hlt, below_succ hc1 fun z hz => by rw [hx] at hz; cases hz; exact h3, below_succ hc2 fun q hq z y hz hy => by rw [hx] at hz; cases hz; exact hc3 q hq y hy⟩, (by first | omega | (dsimp only; omega))⟩
  refine wp_no rfl (decide_eq_false (by omega)) ?_
  have hb : SigP s := ⟨hlen, hlen2, fun j x hx => hb1 j (List.getElem?_eq_some_iff.1 hx).1 x hx, fun j k x y hk hx hy => hb2 j (List.getElem?_eq_some_iff.1 hx).1 k hk x y hx hy, fun j x hx => hc1 j (by have := (List.getElem?_eq_some_iff.1 hx).1; omega) x hx, fun j k x y hk hx hy => hc2 j (by have := (List.getElem?_eq_some_iff.1 hx).1; omega) k hk x y hx hy⟩
  rw [sigB_yes hb]
  repeat (first | refine zE ?_ | refine zP ?_ | refine zD ?_ | refine zQ ?_ | refine zR ?_ | refine zS ?_ | refine wN ?_ | refine wM ?_ | refine wR ?_ | refine wS ?_ | refine wB ?_ | refine wG ?_ | refine wD ?_ | refine wY ?_ | refine wZ ?_ | refine wK ?_ | refine wT ?_ | refine wX ?_)
  exact ⟨.inr rfl, _, rfl, rfl⟩
theorem F191 : cfg.F 191 = some Tryz.f191 := rfl
theorem check4_fn (s : S) (hf : s.Fit) : Fn 191 [.agg (sV s)] (.int .i64 (if sigB s then 0 else 40)) := by
  refine Fn.of_wp F191 rfl ?_
  simp only [show Tryz.f191.ntmps = 6 from rfl, List.length_cons, List.length_nil, List.replicate, List.cons_append, List.nil_append]
  repeat (first | refine zE ?_ | refine zP ?_ | refine zD ?_ | refine zQ ?_ | refine zR ?_ | refine zS ?_ | refine wN ?_ | refine wM ?_ | refine wR ?_ | refine wS ?_ | refine wB ?_ | refine wG ?_ | refine wD ?_ | refine wY ?_ | refine wZ ?_ | refine wK ?_ | refine wT ?_ | refine wX ?_)
  refine zF (step_call rfl rfl ((isSig_fn s hf).cl)) ?_
  repeat (first | refine zE ?_ | refine zP ?_ | refine zD ?_ | refine zQ ?_ | refine zR ?_ | refine zS ?_ | refine wN ?_ | refine wM ?_ | refine wR ?_ | refine wS ?_ | refine wB ?_ | refine wG ?_ | refine wD ?_ | refine wY ?_ | refine wZ ?_ | refine wK ?_ | refine wT ?_ | refine wX ?_)
  cases h : sigB s
  · repeat (first | refine zE ?_ | refine zP ?_ | refine zD ?_ | refine zQ ?_ | refine zR ?_ | refine zS ?_ | refine wN ?_ | refine wM ?_ | refine wR ?_ | refine wS ?_ | refine wB ?_ | refine wG ?_ | refine wD ?_ | refine wY ?_ | refine wZ ?_ | refine wK ?_ | refine wT ?_ | refine wX ?_)
    exact ⟨.inr rfl, _, rfl, rfl⟩
  · repeat (first | refine zE ?_ | refine zP ?_ | refine zD ?_ | refine zQ ?_ | refine zR ?_ | refine zS ?_ | refine wN ?_ | refine wM ?_ | refine wR ?_ | refine wS ?_ | refine wB ?_ | refine wG ?_ | refine wD ?_ | refine wY ?_ | refine wZ ?_ | refine wK ?_ | refine wT ?_ | refine wX ?_)
    exact ⟨.inr rfl, _, rfl, rfl⟩
end Go.Av
namespace Go.Av
open Go.Proofs
set_option maxRecDepth 100000
mutual
def cntT : T → Int → Int → Int × Bool
  | .mk k n f l, left, deep => if left - 1 < 0 ∨ deep > 200 then (left - 1, false) else cntL l (left - 1) deep
def cntL : List T → Int → Int → Int × Bool
  | [], left, _ => (left, true)
  | t :: l, left, deep => match cntT t left (deep + 1) with
    | (n, true) => cntL l n deep
    | (n, false) => (n, false)
end
mutual
theorem cntT_in : ∀ (t : T) (left deep n : Int), cntT t left deep = (n, true) → 0 ≤ n ∧ n ≤ left
  | .mk k m f l, left, deep, n, h => by
    rw [cntT] at h
    split at h
    · simp at h
    · rename_i hc
      have := cntL_in l (left - 1) deep n (by omega) h
      omega
theorem cntL_in : ∀ (l : List T) (left deep n : Int), 0 ≤ left → cntL l left deep = (n, true) → 0 ≤ n ∧ n ≤ left
  | [], left, deep, n, h0, h => by simp [cntL] at h; omega
  | t :: l, left, deep, n, h0, h => by
    rw [cntL] at h
    split at h
    · rename_i m hm
      have h1 := cntT_in t left (deep + 1) m hm
      have := cntL_in l m deep n h1.1 h
      omega
    · simp at h
end
theorem F204 : cfg.F 204 = some Tryz.f204 := rfl
set_option maxHeartbeats 4000000 in
theorem counted_fn : ∀ (t : T), t.Fit → ∀ (left deep : Int), 0 ≤ left → left ≤ 2000 → 1 ≤ deep → deep ≤ 201 → Fn 204 [.agg (tV t), .int .i64 left, .int .i64 deep] (.tup [.int .i64 (cntT t left deep).1, .bool (cntT t left deep).2]) := by
  refine T_ind ?_
  intro k n f l ih hfit left deep h0 h1 h2 h3
  rw [T.Fit] at hfit
  have hw : IntKind.i64.wrap (left - 1) = left - 1 := wrap_in (by omega) (by omega)
  rw [tV_mk, cntT]
  refine Fn.of_wp F204 rfl ?_
  simp only [show Tryz.f204.ntmps = 44 from rfl, List.length_cons, List.length_nil, List.replicate, List.cons_append, List.nil_append]
  repeat (first | refine zE ?_ | refine zP ?_ | refine zD ?_ | refine zQ ?_ | refine zR ?_ | refine zS ?_ | refine wN ?_ | refine wM ?_ | refine wR ?_ | refine wS ?_ | refine wB ?_ | refine wG ?_ | refine wD ?_ | refine wY ?_ | refine wZ ?_ | refine wK ?_ | refine wT ?_ | refine wX ?_)
  rw [hw]
  repeat (first | refine zE ?_ | refine zP ?_ | refine zD ?_ | refine zQ ?_ | refine zR ?_ | refine zS ?_ | refine wN ?_ | refine wM ?_ | refine wR ?_ | refine wS ?_ | refine wB ?_ | refine wG ?_ | refine wD ?_ | refine wY ?_ | refine wZ ?_ | refine wK ?_ | refine wT ?_ | refine wX ?_)
  cases h4 : decide (left - 1 < 0)
  case true =>
    rw [if_pos (.inl (of_decide_eq_true h4))]
    repeat (first | refine zE ?_ | refine zP ?_ | refine zD ?_ | refine zQ ?_ | refine zR ?_ | refine zS ?_ | refine wN ?_ | refine wM ?_ | refine wR ?_ | refine wS ?_ | refine wB ?_ | refine wG ?_ | refine wD ?_ | refine wY ?_ | refine wZ ?_ | refine wK ?_ | refine wT ?_ | refine wX ?_)
    exact ⟨.inr rfl, _, rfl, rfl⟩
  repeat (first | refine zE ?_ | refine zP ?_ | refine zD ?_ | refine zQ ?_ | refine zR ?_ | refine zS ?_ | refine wN ?_ | refine wM ?_ | refine wR ?_ | refine wS ?_ | refine wB ?_ | refine wG ?_ | refine wD ?_ | refine wY ?_ | refine wZ ?_ | refine wK ?_ | refine wT ?_ | refine wX ?_)
  cases h5 : decide (deep > 200)
  case true =>
    rw [if_pos (.inr (of_decide_eq_true h5))]
    repeat (first | refine zE ?_ | refine zP ?_ | refine zD ?_ | refine zQ ?_ | refine zR ?_ | refine zS ?_ | refine wN ?_ | refine wM ?_ | refine wR ?_ | refine wS ?_ | refine wB ?_ | refine wG ?_ | refine wD ?_ | refine wY ?_ | refine wZ ?_ | refine wK ?_ | refine wT ?_ | refine wX ?_)
    exact ⟨.inr rfl, _, rfl, rfl⟩
  have h4' := of_decide_eq_false h4
  have h5' := of_decide_eq_false h5
  rw [if_neg (by omega)]
  repeat (first | refine zE ?_ | refine zP ?_ | refine zD ?_ | refine zQ ?_ | refine zR ?_ | refine zS ?_ | refine wN ?_ | refine wM ?_ | refine wR ?_ | refine wS ?_ | refine wB ?_ | refine wG ?_ | refine wD ?_ | refine wY ?_ | refine wZ ?_ | refine wK ?_ | refine wT ?_ | refine wX ?_)
  refine wp_loop2 35 (fun a : Nat × Int => [.agg [.int .i64 k, .int .i64 n, .sl l.length f (rows tV l)], .int .i64 a.2, .int .i64 deep, .bp 0 0, .junk, .junk, .int .i64 0, .bool false, .int .i64 (a.1 : Int)]) (fun a H => H = [.box [.int .i64 k, .int .i64 n, .sl l.length f (rows tV l)]] ∧ a.1 ≤ l.length ∧ cntL (l.drop a.1) a.2 deep = cntL l (left - 1) deep ∧ 0 ≤ a.2 ∧ a.2 ≤ 2000) (fun a => l.length - a.1) (0, left - 1) ⟨_, rfl, rfl, rfl, Nat.zero_le _, rfl, by dsimp only; omega, by dsimp only; omega⟩ ?_
  rintro ⟨i, m⟩ H d u ⟨rfl, hi, hc, hm0, hm1⟩
  dsimp only at hi hc hm0 hm1 ⊢
  (rw [show (List.range 35).map u = [u 0, u 1, u 2, u 3, u 4, u 5, u 6, u 7, u 8, u 9, u 10, u 11, u 12, u 13, u 14, u 15, u 16, u 17, u 18, u 19, u 20, u 21, u 22, u 23, u 24, u 25, u 26, u 27, u 28, u 29, u 30, u 31, u 32, u 33, u 34] from rfl]; simp only [List.cons_append, List.nil_append])
  repeat (first | refine zE ?_ | refine zP ?_ | refine zD ?_ | refine zQ ?_ | refine zR ?_ | refine zS ?_ | refine wN ?_ | refine wM ?_ | refine wR ?_ | refine wS ?_ | refine wB ?_ | refine wG ?_ | refine wD ?_ | refine wY ?_ | refine wZ ?_ | refine wK ?_ | refine wT ?_ | refine wX ?_)
  by_cases hlt : i < l.length
  · refine wp_yes rfl (decide_eq_true (by omega)) ?_
    obtain ⟨x, hx⟩ := get_of hlt
    have hmem := List.mem_of_getElem? hx
    rw [drop_of hx, cntL] at hc
    have hwd : IntKind.i64.wrap (deep + 1) = deep + 1 := wrap_in (by omega) (by omega)
    repeat (first | refine zE ?_ | refine zP ?_ | refine zD ?_ | refine zQ ?_ | refine zR ?_ | refine zS ?_ | refine wN ?_ | refine wM ?_ | refine wR ?_ | refine wS ?_ | refine wB ?_ | refine wG ?_ | refine wD ?_ | refine wY ?_ | refine wZ ?_ | refine wK ?_ | refine wT ?_ | refine wX ?_)
    refine zF (step_idx rfl rfl rfl rfl rfl rfl ⟨by omega, by omega⟩ (drop_rows (k := 3) tV_len hx)) ?_
    refine zF (step_enc rfl rfl rfl (tV_len _) rfl) ?_
    repeat (first | refine zE ?_ | refine zP ?_ | refine zD ?_ | refine zQ ?_ | refine zR ?_ | refine zS ?_ | refine wN ?_ | refine wM ?_ | refine wR ?_ | refine wS ?_ | refine wB ?_ | refine wG ?_ | refine wD ?_ | refine wY ?_ | refine wZ ?_ | refine wK ?_ | refine wT ?_ | refine wX ?_)
    rw [hwd]
    refine zF (step_call rfl rfl ((ih x hmem (hfit.2.at hmem) m (deep + 1) hm0 hm1 (by omega) (by omega)).cl)) ?_
    rcases hr : cntT x m (deep + 1) with ⟨n2, b⟩
    rw [hr] at hc
    cases b
    · simp only at hc
      rw [← hc]
      repeat (first | refine zE ?_ | refine zP ?_ | refine zD ?_ | refine zQ ?_ | refine zR ?_ | refine zS ?_ | refine wN ?_ | refine wM ?_ | refine wR ?_ | refine wS ?_ | refine wB ?_ | refine wG ?_ | refine wD ?_ | refine wY ?_ | refine wZ ?_ | refine wK ?_ | refine wT ?_ | refine wX ?_)
      exact ⟨.inr rfl, _, rfl, rfl⟩
    · have hn2 := cntT_in x m (deep + 1) n2 hr
      simp only at hc
      repeat (first | refine zE ?_ | refine zP ?_ | refine zD ?_ | refine zQ ?_ | refine zR ?_ | refine zS ?_ | refine wN ?_ | refine wM ?_ | refine wR ?_ | refine wS ?_ | refine wB ?_ | refine wG ?_ | refine wD ?_ | refine wY ?_ | refine wZ ?_ | refine wK ?_ | refine wT ?_ | refine wX ?_)
      rw [wrap_succ (by omega)]
      exact ⟨(i + 1, n2), _, rfl, rfl, ⟨rfl, hlt, hc, hn2.1, by dsimp only; omega⟩, (by first | omega | (dsimp only; omega))⟩
  · refine wp_no rfl (decide_eq_false (by omega)) ?_
    have hil : i = l.length := by omega
    subst hil
    rw [List.drop_length, cntL] at hc
    rw [← hc]
    repeat (first | refine zE ?_ | refine zP ?_ | refine zD ?_ | refine zQ ?_ | refine zR ?_ | refine zS ?_ | refine wN ?_ | refine wM ?_ | refine wR ?_ | refine wS ?_ | refine wB ?_ | refine wG ?_ | refine wD ?_ | refine wY ?_ | refine wZ ?_ | refine wK ?_ | refine wT ?_ | refine wX ?_)
    exact ⟨.inr rfl, _, rfl, rfl⟩
end Go.Av
namespace Go.Av
open Go.Proofs
set_option maxRecDepth 100000
mutual
def nodeT : T → Bool
  | .mk k n f l => !(decide (n < 0)) && (!((k != 1) && (k != 2)) && (!((k == 1) && decide ((l.length : Int) > 0)) && (!(decide ((l.length : Int) > 8)) && nodesT l)))
def nodesT : List T → Bool
  | [] => true
  | t :: l => nodeT t && nodesT l
end
theorem nodesT_all : ∀ l : List T, nodesT l = l.all nodeT
  | [] => rfl
  | t :: l => by rw [nodesT, List.all_cons, nodesT_all l]
theorem F205 : cfg.F 205 = some Tryz.f205 := rfl
set_option maxHeartbeats 4000000 in
theorem nodes_fn : ∀ (t : T), t.Fit → Fn 205 [.agg (tV t)] (.bool (nodeT t)) := by
  refine T_ind ?_
  intro k n f l ih hfit
  rw [T.Fit] at hfit
  rw [tV_mk, nodeT, nodesT_all]
  refine Fn.of_wp F205 rfl ?_
  simp only [show Tryz.f205.ntmps = 48 from rfl, List.length_cons, List.length_nil, List.replicate, List.cons_append, List.nil_append]
  repeat (first | refine zE ?_ | refine zP ?_ | refine zD ?_ | refine zQ ?_ | refine zR ?_ | refine zS ?_ | refine wN ?_ | refine wM ?_ | refine wR ?_ | refine wS ?_ | refine wB ?_ | refine wG ?_ | refine wD ?_ | refine wY ?_ | refine wZ ?_ | refine wK ?_ | refine wT ?_ | refine wX ?_)
  cases h1 : decide (n < 0)
  case true =>
    repeat (first | refine zE ?_ | refine zP ?_ | refine zD ?_ | refine zQ ?_ | refine zR ?_ | refine zS ?_ | refine wN ?_ | refine wM ?_ | refine wR ?_ | refine wS ?_ | refine wB ?_ | refine wG ?_ | refine wD ?_ | refine wY ?_ | refine wZ ?_ | refine wK ?_ | refine wT ?_ | refine wX ?_)
    exact ⟨.inr rfl, _, rfl, rfl⟩
  repeat (first | refine zE ?_ | refine zP ?_ | refine zD ?_ | refine zQ ?_ | refine zR ?_ | refine zS ?_ | refine wN ?_ | refine wM ?_ | refine wR ?_ | refine wS ?_ | refine wB ?_ | refine wG ?_ | refine wD ?_ | refine wY ?_ | refine wZ ?_ | refine wK ?_ | refine wT ?_ | refine wX ?_)
  cases h2 : (k != 1)
  · -- a variable
    have h2k : k = 1 := by simpa using h2
    subst h2k
    repeat (first | refine zE ?_ | refine zP ?_ | refine zD ?_ | refine zQ ?_ | refine zR ?_ | refine zS ?_ | refine wN ?_ | refine wM ?_ | refine wR ?_ | refine wS ?_ | refine wB ?_ | refine wG ?_ | refine wD ?_ | refine wY ?_ | refine wZ ?_ | refine wK ?_ | refine wT ?_ | refine wX ?_)
    cases h4 : decide ((l.length : Int) > 0)
    case true =>
      repeat (first | refine zE ?_ | refine zP ?_ | refine zD ?_ | refine zQ ?_ | refine zR ?_ | refine zS ?_ | refine wN ?_ | refine wM ?_ | refine wR ?_ | refine wS ?_ | refine wB ?_ | refine wG ?_ | refine wD ?_ | refine wY ?_ | refine wZ ?_ | refine wK ?_ | refine wT ?_ | refine wX ?_)
      exact ⟨.inr rfl, _, rfl, rfl⟩
    have hl0 : l = [] := by
      have := of_decide_eq_false h4
      exact List.eq_nil_of_length_eq_zero (by omega)
    subst hl0
    repeat (first | refine zE ?_ | refine zP ?_ | refine zD ?_ | refine zQ ?_ | refine zR ?_ | refine zS ?_ | refine wN ?_ | refine wM ?_ | refine wR ?_ | refine wS ?_ | refine wB ?_ | refine wG ?_ | refine wD ?_ | refine wY ?_ | refine wZ ?_ | refine wK ?_ | refine wT ?_ | refine wX ?_)
    refine wp_loop2 44 (fun i : Nat => [.agg [.int .i64 1, .int .i64 n, .sl 0 f []], .bp 0 0, .bool false, .int .i64 (i : Int)]) (fun i H => H = [.box [.int .i64 1, .int .i64 n, .sl 0 f []]] ∧ i = 0) (fun i => 0) 0 ⟨_, rfl, rfl, rfl, rfl⟩ ?_
    rintro i H d u ⟨rfl, rfl⟩
    (rw [show (List.range 44).map u = [u 0, u 1, u 2, u 3, u 4, u 5, u 6, u 7, u 8, u 9, u 10, u 11, u 12, u 13, u 14, u 15, u 16, u 17, u 18, u 19, u 20, u 21, u 22, u 23, u 24, u 25, u 26, u 27, u 28, u 29, u 30, u 31, u 32, u 33, u 34, u 35, u 36, u 37, u 38, u 39, u 40, u 41, u 42, u 43] from rfl]; simp only [List.cons_append, List.nil_append])
    repeat (first | refine zE ?_ | refine zP ?_ | refine zD ?_ | refine zQ ?_ | refine zR ?_ | refine zS ?_ | refine wN ?_ | refine wM ?_ | refine wR ?_ | refine wS ?_ | refine wB ?_ | refine wG ?_ | refine wD ?_ | refine wY ?_ | refine wZ ?_ | refine wK ?_ | refine wT ?_ | refine wX ?_)
    exact ⟨.inr rfl, _, rfl, rfl⟩
  repeat (first | refine zE ?_ | refine zP ?_ | refine zD ?_ | refine zQ ?_ | refine zR ?_ | refine zS ?_ | refine wN ?_ | refine wM ?_ | refine wR ?_ | refine wS ?_ | refine wB ?_ | refine wG ?_ | refine wD ?_ | refine wY ?_ | refine wZ ?_ | refine wK ?_ | refine wT ?_ | refine wX ?_)
  cases h3 : (k != 2)
  case true =>
    repeat (first | refine zE ?_ | refine zP ?_ | refine zD ?_ | refine zQ ?_ | refine zR ?_ | refine zS ?_ | refine wN ?_ | refine wM ?_ | refine wR ?_ | refine wS ?_ | refine wB ?_ | refine wG ?_ | refine wD ?_ | refine wY ?_ | refine wZ ?_ | refine wK ?_ | refine wT ?_ | refine wX ?_)
    exact ⟨.inr rfl, _, rfl, rfl⟩
  have h3k : k = 2 := by simpa using h3
  subst h3k
  repeat (first | refine zE ?_ | refine zP ?_ | refine zD ?_ | refine zQ ?_ | refine zR ?_ | refine zS ?_ | refine wN ?_ | refine wM ?_ | refine wR ?_ | refine wS ?_ | refine wB ?_ | refine wG ?_ | refine wD ?_ | refine wY ?_ | refine wZ ?_ | refine wK ?_ | refine wT ?_ | refine wX ?_)
  cases h5 : decide ((l.length : Int) > 8)
  case true =>
    repeat (first | refine zE ?_ | refine zP ?_ | refine zD ?_ | refine zQ ?_ | refine zR ?_ | refine zS ?_ | refine wN ?_ | refine wM ?_ | refine wR ?_ | refine wS ?_ | refine wB ?_ | refine wG ?_ | refine wD ?_ | refine wY ?_ | refine wZ ?_ | refine wK ?_ | refine wT ?_ | refine wX ?_)
    exact ⟨.inr rfl, _, rfl, rfl⟩
  have h5' := of_decide_eq_false h5
  repeat (first | refine zE ?_ | refine zP ?_ | refine zD ?_ | refine zQ ?_ | refine zR ?_ | refine zS ?_ | refine wN ?_ | refine wM ?_ | refine wR ?_ | refine wS ?_ | refine wB ?_ | refine wG ?_ | refine wD ?_ | refine wY ?_ | refine wZ ?_ | refine wK ?_ | refine wT ?_ | refine wX ?_)
  refine wp_loop2 44 (fun i : Nat => [.agg [.int .i64 2, .int .i64 n, .sl l.length f (rows tV l)], .bp 0 0, .bool false, .int .i64 (i : Int)]) (fun i H => H = [.box [.int .i64 2, .int .i64 n, .sl l.length f (rows tV l)]] ∧ i ≤ l.length ∧ ∀ j, j < i → ∀ x, l[j]? = some x → nodeT x = true) (fun i => l.length - i) 0 ⟨_, rfl, rfl, rfl, Nat.zero_le _, fun j hj => by omega⟩ ?_
  rintro i H d u ⟨rfl, hi, hb⟩
  (rw [show (List.range 44).map u = [u 0, u 1, u 2, u 3, u 4, u 5, u 6, u 7, u 8, u 9, u 10, u 11, u 12, u 13, u 14, u 15, u 16, u 17, u 18, u 19, u 20, u 21, u 22, u 23, u 24, u 25, u 26, u 27, u 28, u 29, u 30, u 31, u 32, u 33, u 34, u 35, u 36, u 37, u 38, u 39, u 40, u 41, u 42, u 43] from rfl]; simp only [List.cons_append, List.nil_append])
  repeat (first | refine zE ?_ | refine zP ?_ | refine zD ?_ | refine zQ ?_ | refine zR ?_ | refine zS ?_ | refine wN ?_ | refine wM ?_ | refine wR ?_ | refine wS ?_ | refine wB ?_ | refine wG ?_ | refine wD ?_ | refine wY ?_ | refine wZ ?_ | refine wK ?_ | refine wT ?_ | refine wX ?_)
  by_cases hlt : i < l.length
  · refine wp_yes rfl (decide_eq_true (by omega)) ?_
    obtain ⟨x, hx⟩ := get_of hlt
    have hmem := List.mem_of_getElem? hx
    repeat (first | refine zE ?_ | refine zP ?_ | refine zD ?_ | refine zQ ?_ | refine zR ?_ | refine zS ?_ | refine wN ?_ | refine wM ?_ | refine wR ?_ | refine wS ?_ | refine wB ?_ | refine wG ?_ | refine wD ?_ | refine wY ?_ | refine wZ ?_ | refine wK ?_ | refine wT ?_ | refine wX ?_)
    refine zF (step_idx rfl rfl rfl rfl rfl rfl ⟨by omega, by omega⟩ (drop_rows (k := 3) tV_len hx)) ?_
    refine zF (step_enc rfl rfl rfl (tV_len _) rfl) ?_
    refine zF (step_call rfl rfl ((ih x hmem (hfit.2.at hmem)).cl)) ?_
    repeat (first | refine zE ?_ | refine zP ?_ | refine zD ?_ | refine zQ ?_ | refine zR ?_ | refine zS ?_ | refine wN ?_ | refine wM ?_ | refine wR ?_ | refine wS ?_ | refine wB ?_ | refine wG ?_ | refine wD ?_ | refine wY ?_ | refine wZ ?_ | refine wK ?_ | refine wT ?_ | refine wX ?_)
    cases h6 : nodeT x
    · rw [all_no hx h6]
      repeat (first | refine zE ?_ | refine zP ?_ | refine zD ?_ | refine zQ ?_ | refine zR ?_ | refine zS ?_ | refine wN ?_ | refine wM ?_ | refine wR ?_ | refine wS ?_ | refine wB ?_ | refine wG ?_ | refine wD ?_ | refine wY ?_ | refine wZ ?_ | refine wK ?_ | refine wT ?_ | refine wX ?_)
      exact ⟨.inr rfl, _, rfl, rfl⟩
    · repeat (first | refine zE ?_ | refine zP ?_ | refine zD ?_ | refine zQ ?_ | refine zR ?_ | refine zS ?_ | refine wN ?_ | refine wM ?_ | refine wR ?_ | refine wS ?_ | refine wB ?_ | refine wG ?_ | refine wD ?_ | refine wY ?_ | refine wZ ?_ | refine wK ?_ | refine wT ?_ | refine wX ?_)
      rw [wrap_succ (by omega)]
      exact ⟨i + 1, _, rfl, rfl, ⟨rfl, hlt, below_succ hb fun y hy => by rw [hx] at hy; cases hy; exact h6⟩, (by first | omega | (dsimp only; omega))⟩
  · refine wp_no rfl (decide_eq_false (by omega)) ?_
    rw [all_yes fun j hj x hx => hb j (by omega) x hx]
    repeat (first | refine zE ?_ | refine zP ?_ | refine zD ?_ | refine zQ ?_ | refine zR ?_ | refine zS ?_ | refine wN ?_ | refine wM ?_ | refine wR ?_ | refine wS ?_ | refine wB ?_ | refine wG ?_ | refine wD ?_ | refine wY ?_ | refine wZ ?_ | refine wK ?_ | refine wT ?_ | refine wX ?_)
    exact ⟨.inr rfl, _, rfl, rfl⟩
def treeB (t : T) : Bool := (cntT t 2000 1).2 && nodeT t
theorem F132 : cfg.F 132 = some Tryz.f132 := rfl
set_option maxHeartbeats 2000000 in
theorem is4_fn (t : T) (hf : t.Fit) : Fn 132 [.agg (tV t)] (.bool (treeB t)) := by
  unfold treeB
  obtain ⟨k, n, f, l⟩ := t
  refine Fn.of_wp F132 rfl ?_
  simp only [show Tryz.f132.ntmps = 15 from rfl, List.length_cons, List.length_nil, List.replicate, List.cons_append, List.nil_append]
  repeat (first | refine zE ?_ | refine zP ?_ | refine zD ?_ | refine zQ ?_ | refine zR ?_ | refine zS ?_ | refine wN ?_ | refine wM ?_ | refine wR ?_ | refine wS ?_ | refine wB ?_ | refine wG ?_ | refine wD ?_ | refine wY ?_ | refine wZ ?_ | refine wK ?_ | refine wT ?_ | refine wX ?_)
  refine zF (step_call rfl rfl ((counted_fn (.mk k n f l) hf 2000 1 (by decide) (by decide) (by decide) (by decide)).cl)) ?_
  repeat (first | refine zE ?_ | refine zP ?_ | refine zD ?_ | refine zQ ?_ | refine zR ?_ | refine zS ?_ | refine wN ?_ | refine wM ?_ | refine wR ?_ | refine wS ?_ | refine wB ?_ | refine wG ?_ | refine wD ?_ | refine wY ?_ | refine wZ ?_ | refine wK ?_ | refine wT ?_ | refine wX ?_)
  cases h : (cntT (.mk k n f l) 2000 1).2
  · repeat (first | refine zE ?_ | refine zP ?_ | refine zD ?_ | refine zQ ?_ | refine zR ?_ | refine zS ?_ | refine wN ?_ | refine wM ?_ | refine wR ?_ | refine wS ?_ | refine wB ?_ | refine wG ?_ | refine wD ?_ | refine wY ?_ | refine wZ ?_ | refine wK ?_ | refine wT ?_ | refine wX ?_)
    exact ⟨.inr rfl, _, rfl, rfl⟩
  · repeat (first | refine zE ?_ | refine zP ?_ | refine zD ?_ | refine zQ ?_ | refine zR ?_ | refine zS ?_ | refine wN ?_ | refine wM ?_ | refine wR ?_ | refine wS ?_ | refine wB ?_ | refine wG ?_ | refine wD ?_ | refine wY ?_ | refine wZ ?_ | refine wK ?_ | refine wT ?_ | refine wX ?_)
    refine zF (step_call rfl rfl ((nodes_fn (.mk k n f l) hf).cl)) ?_
    repeat (first | refine zE ?_ | refine zP ?_ | refine zD ?_ | refine zQ ?_ | refine zR ?_ | refine zS ?_ | refine wN ?_ | refine wM ?_ | refine wR ?_ | refine wS ?_ | refine wB ?_ | refine wG ?_ | refine wD ?_ | refine wY ?_ | refine wZ ?_ | refine wK ?_ | refine wT ?_ | refine wX ?_)
    exact ⟨.inr rfl, _, rfl, rfl⟩
theorem F58 : cfg.F 58 = some Tryz.f58 := rfl
set_option maxHeartbeats 2000000 in
theorem all4_fn (l : List T) (f : Bool) (hl : l.length ≤ 9223372036854775807) (hf : ∀ x, x ∈ l → x.Fit) : Fn 58 [.sl l.length f (rows tV l)] (.bool (l.all treeB)) := by
  refine Fn.of_wp F58 rfl ?_
  simp only [show Tryz.f58.ntmps = 16 from rfl, List.length_cons, List.length_nil, List.replicate, List.cons_append, List.nil_append]
  repeat (first | refine zE ?_ | refine zP ?_ | refine zD ?_ | refine zQ ?_ | refine zR ?_ | refine zS ?_ | refine wN ?_ | refine wM ?_ | refine wR ?_ | refine wS ?_ | refine wB ?_ | refine wG ?_ | refine wD ?_ | refine wY ?_ | refine wZ ?_ | refine wK ?_ | refine wT ?_ | refine wX ?_)
  refine wp_loop2 12 (fun i : Nat => [.sl l.length f (rows tV l), .junk, .bool false, .int .i64 (i : Int)]) (fun i H => H = [] ∧ i ≤ l.length ∧ ∀ j, j < i → ∀ x, l[j]? = some x → treeB x = true) (fun i => l.length - i) 0 ⟨_, rfl, rfl, rfl, Nat.zero_le _, fun j hj => by omega⟩ ?_
  rintro i H d u ⟨rfl, hi, hb⟩
  (rw [show (List.range 12).map u = [u 0, u 1, u 2, u 3, u 4, u 5, u 6, u 7, u 8, u 9, u 10, u 11] from rfl]; simp only [List.cons_append, List.nil_append])
  repeat (first | refine zE ?_ | refine zP ?_ | refine zD ?_ | refine zQ ?_ | refine zR ?_ | refine zS ?_ | refine wN ?_ | refine wM ?_ | refine wR ?_ | refine wS ?_ | refine wB ?_ | refine wG ?_ | refine wD ?_ | refine wY ?_ | refine wZ ?_ | refine wK ?_ | refine wT ?_ | refine wX ?_)
  by_cases hlt : i < l.length
  · refine wp_yes rfl (decide_eq_true (by omega)) ?_
    obtain ⟨x, hx⟩ := get_of hlt
    have hmem := List.mem_of_getElem? hx
    repeat (first | refine zE ?_ | refine zP ?_ | refine zD ?_ | refine zQ ?_ | refine zR ?_ | refine zS ?_ | refine wN ?_ | refine wM ?_ | refine wR ?_ | refine wS ?_ | refine wB ?_ | refine wG ?_ | refine wD ?_ | refine wY ?_ | refine wZ ?_ | refine wK ?_ | refine wT ?_ | refine wX ?_)
    refine zF (step_idx rfl rfl rfl rfl rfl rfl ⟨by omega, by omega⟩ (drop_rows (k := 3) tV_len hx)) ?_
    refine zF (step_enc rfl rfl rfl (tV_len _) rfl) ?_
    refine zF (step_call rfl rfl ((is4_fn x (hf x hmem)).cl)) ?_
    repeat (first | refine zE ?_ | refine zP ?_ | refine zD ?_ | refine zQ ?_ | refine zR ?_ | refine zS ?_ | refine wN ?_ | refine wM ?_ | refine wR ?_ | refine wS ?_ | refine wB ?_ | refine wG ?_ | refine wD ?_ | refine wY ?_ | refine wZ ?_ | refine wK ?_ | refine wT ?_ | refine wX ?_)
    cases h6 : treeB x
    · rw [all_no hx h6]
      repeat (first | refine zE ?_ | refine zP ?_ | refine zD ?_ | refine zQ ?_ | refine zR ?_ | refine zS ?_ | refine wN ?_ | refine wM ?_ | refine wR ?_ | refine wS ?_ | refine wB ?_ | refine wG ?_ | refine wD ?_ | refine wY ?_ | refine wZ ?_ | refine wK ?_ | refine wT ?_ | refine wX ?_)
      exact ⟨.inr rfl, _, rfl, rfl⟩
    · repeat (first | refine zE ?_ | refine zP ?_ | refine zD ?_ | refine zQ ?_ | refine zR ?_ | refine zS ?_ | refine wN ?_ | refine wM ?_ | refine wR ?_ | refine wS ?_ | refine wB ?_ | refine wG ?_ | refine wD ?_ | refine wY ?_ | refine wZ ?_ | refine wK ?_ | refine wT ?_ | refine wX ?_)
      rw [wrap_succ (by omega)]
      exact ⟨i + 1, _, rfl, rfl, ⟨rfl, hlt, below_succ hb fun y hy => by rw [hx] at hy; cases hy; exact h6⟩, (by first | omega | (dsimp only; omega))⟩
  · refine wp_no rfl (decide_eq_false (by omega)) ?_
    rw [all_yes fun j hj x hx => hb j (by omega) x hx]
    repeat (first | refine zE ?_ | refine zP ?_ | refine zD ?_ | refine zQ ?_ | refine zR ?_ | refine zS ?_ | refine wN ?_ | refine wM ?_ | refine wR ?_ | refine wS ?_ | refine wB ?_ | refine wG ?_ | refine wD ?_ | refine wY ?_ | refine wZ ?_ | refine wK ?_ | refine wT ?_ | refine wX ?_)
    exact ⟨.inr rfl, _, rfl, rfl⟩
end Go.Av
