/- Contracts over the evaluator: equal signatures, equal equations. Conditions: none beyond the hypotheses of each theorem. -/
import Derived.Test.YtdjgjnahfekdhaaGreatDoorT3
import Derived.Test.YtdjgjnahfekdhaaGreatDoorS1
set_option linter.unusedSectionVars false
set_option linter.unusedVariables false
set_option linter.unusedSimpArgs false
namespace Go.Av
open Go.Proofs
set_option maxRecDepth 100000
theorem F193 : cfg.F 193 = some Tryz.f193 := rfl
theorem in5_fn (l : List Int) (fl : Bool) (n : Int) (hl : l.length ≤ 9223372036854775807) : Fn 193 [.sl l.length fl (ints l), .int .i64 n] (.bool (l.contains n)) := by
  refine Fn.of_wp F193 rfl ?_
  simp only [show Tryz.f193.ntmps = 18 from rfl, List.length_cons, List.length_nil, List.replicate, List.cons_append, List.nil_append]
  repeat (first | refine zE ?_ | refine zP ?_ | refine zD ?_ | refine zQ ?_ | refine zR ?_ | refine zS ?_ | refine wN ?_ | refine wM ?_ | refine wR ?_ | refine wS ?_ | refine wB ?_ | refine wG ?_ | refine wD ?_ | refine wY ?_ | refine wZ ?_ | refine wK ?_ | refine wT ?_ | refine wX ?_)
  refine wp_loop (fun tm H d => ∃ (i : Nat) (u6 u7 u8 u9 u10 u11 u12 u13 u14 u15 u16 u17 : V), tm = [.sl l.length fl (ints l), .int .i64 n, .junk, .junk, .bool false, .int .i64 i, u6, u7, u8, u9, u10, u11, u12, u13, u14, u15, u16, u17] ∧ H = [] ∧ i ≤ l.length ∧ ∀ j, j < i → l[j]? ≠ some n) (fun tm _ => l.length - cnt tm 5) ⟨0, _, _, _, _, _, _, _, _, _, _, _, _, rfl, rfl, Nat.zero_le _, fun j hj => by omega⟩ ?_
  rintro tm H d ⟨i, u6, u7, u8, u9, u10, u11, u12, u13, u14, u15, u16, u17, rfl, rfl, hi, hb⟩
  repeat (first | refine zE ?_ | refine zP ?_ | refine zD ?_ | refine zQ ?_ | refine zR ?_ | refine zS ?_ | refine wN ?_ | refine wM ?_ | refine wR ?_ | refine wS ?_ | refine wB ?_ | refine wG ?_ | refine wD ?_ | refine wY ?_ | refine wZ ?_ | refine wK ?_ | refine wT ?_ | refine wX ?_)
  by_cases hlt : i < l.length
  · refine wp_yes rfl (decide_eq_true (by omega)) ?_
    obtain ⟨x, hx⟩ := get_of hlt
    repeat (first | refine zE ?_ | refine zP ?_ | refine zD ?_ | refine zQ ?_ | refine zR ?_ | refine zS ?_ | refine wN ?_ | refine wM ?_ | refine wR ?_ | refine wS ?_ | refine wB ?_ | refine wG ?_ | refine wD ?_ | refine wY ?_ | refine wZ ?_ | refine wK ?_ | refine wT ?_ | refine wX ?_)
    refine zF (step_idx rfl rfl rfl rfl rfl rfl ⟨by omega, by omega⟩ (drop_rows (k := 1) (fun _ => rfl) hx)) ?_
    repeat (first | refine zE ?_ | refine zP ?_ | refine zD ?_ | refine zQ ?_ | refine zR ?_ | refine zS ?_ | refine wN ?_ | refine wM ?_ | refine wR ?_ | refine wS ?_ | refine wB ?_ | refine wG ?_ | refine wD ?_ | refine wY ?_ | refine wZ ?_ | refine wK ?_ | refine wT ?_ | refine wX ?_)
    by_cases hxn : x = n
    · subst hxn
      rw [contains_yes hx]
      refine wp_yes rfl (by simp) ?_
      repeat (first | refine zE ?_ | refine zP ?_ | refine zD ?_ | refine zQ ?_ | refine zR ?_ | refine zS ?_ | refine wN ?_ | refine wM ?_ | refine wR ?_ | refine wS ?_ | refine wB ?_ | refine wG ?_ | refine wD ?_ | refine wY ?_ | refine wZ ?_ | refine wK ?_ | refine wT ?_ | refine wX ?_)
      exact ⟨.inr rfl, _, rfl, rfl⟩
    · refine wp_no rfl (by simpa using hxn) ?_
      repeat (first | refine zE ?_ | refine zP ?_ | refine zD ?_ | refine zQ ?_ | refine zR ?_ | refine zS ?_ | refine wN ?_ | refine wM ?_ | refine wR ?_ | refine wS ?_ | refine wB ?_ | refine wG ?_ | refine wD ?_ | refine wY ?_ | refine wZ ?_ | refine wK ?_ | refine wT ?_ | refine wX ?_)
      rw [wrap_succ (by omega)]
      exact ⟨⟨i + 1, _, _, _, _, _, _, _, _, _, _, _, _, rfl, rfl, hlt, below_succ hb (by rw [hx]; simpa using hxn)⟩, (by simp only [cnt, List.getElem?_cons_succ, List.getElem?_cons_zero, Int.toNat_natCast]; omega)⟩
  · refine wp_no rfl (decide_eq_false (by omega)) ?_
    rw [contains_no fun j hj => hb j (by omega)]
    repeat (first | refine zE ?_ | refine zP ?_ | refine zD ?_ | refine zQ ?_ | refine zR ?_ | refine zS ?_ | refine wN ?_ | refine wM ?_ | refine wR ?_ | refine wS ?_ | refine wB ?_ | refine wG ?_ | refine wD ?_ | refine wY ?_ | refine wZ ?_ | refine wK ?_ | refine wT ?_ | refine wX ?_)
    exact ⟨.inr rfl, _, rfl, rfl⟩
theorem F91 : cfg.F 91 = some Tryz.f91 := rfl
set_option maxHeartbeats 1000000 in
theorem sameInts5_fn (a b : List Int) (f1 f2 : Bool) (ha : a.length ≤ 9223372036854775807) (hb : b.length ≤ 9223372036854775807) : Fn 91 [.sl a.length f1 (ints a), .sl b.length f2 (ints b)] (.bool (decide (a = b))) := by
  refine Fn.of_wp F91 rfl ?_
  simp only [show Tryz.f91.ntmps = 26 from rfl, List.length_cons, List.length_nil, List.replicate, List.cons_append, List.nil_append]
  repeat (first | refine zE ?_ | refine zP ?_ | refine zD ?_ | refine zQ ?_ | refine zR ?_ | refine zS ?_ | refine wN ?_ | refine wM ?_ | refine wR ?_ | refine wS ?_ | refine wB ?_ | refine wG ?_ | refine wD ?_ | refine wY ?_ | refine wZ ?_ | refine wK ?_ | refine wT ?_ | refine wX ?_)
  by_cases hl : a.length = b.length
  · refine wp_no rfl (by simp [hl]) ?_
    repeat (first | refine zE ?_ | refine zP ?_ | refine zD ?_ | refine zQ ?_ | refine zR ?_ | refine zS ?_ | refine wN ?_ | refine wM ?_ | refine wR ?_ | refine wS ?_ | refine wB ?_ | refine wG ?_ | refine wD ?_ | refine wY ?_ | refine wZ ?_ | refine wK ?_ | refine wT ?_ | refine wX ?_)
    refine wp_loop (fun tm H d => ∃ (i : Nat) (u11 u12 u13 u14 u15 u16 u17 u18 u19 u20 u21 u22 u23 u24 u25 : V), tm = [.sl a.length f1 (ints a), .sl b.length f2 (ints b), .junk, .junk, .bool false, .int .i64 i, .sl a.length f1 (ints a), .int .i64 a.length, .sl b.length f2 (ints b), .int .i64 b.length, .bool ((a.length : Int) != (b.length : Int)), u11, u12, u13, u14, u15, u16, u17, u18, u19, u20, u21, u22, u23, u24, u25] ∧ H = [] ∧ i ≤ a.length ∧ ∀ j, j < i → a[j]? = b[j]?) (fun tm _ => a.length - cnt tm 5) ⟨0, _, _, _, _, _, _, _, _, _, _, _, _, _, _, _, rfl, rfl, Nat.zero_le _, fun j hj => by omega⟩ ?_
    rintro tm H d ⟨i, u11, u12, u13, u14, u15, u16, u17, u18, u19, u20, u21, u22, u23, u24, u25, rfl, rfl, hi, hb⟩
    repeat (first | refine zE ?_ | refine zP ?_ | refine zD ?_ | refine zQ ?_ | refine zR ?_ | refine zS ?_ | refine wN ?_ | refine wM ?_ | refine wR ?_ | refine wS ?_ | refine wB ?_ | refine wG ?_ | refine wD ?_ | refine wY ?_ | refine wZ ?_ | refine wK ?_ | refine wT ?_ | refine wX ?_)
    by_cases hlt : i < a.length
    · refine wp_yes rfl (decide_eq_true (by omega)) ?_
      obtain ⟨x, hx⟩ := get_of hlt
      obtain ⟨y, hy⟩ := get_of (show i < b.length by omega)
      repeat (first | refine zE ?_ | refine zP ?_ | refine zD ?_ | refine zQ ?_ | refine zR ?_ | refine zS ?_ | refine wN ?_ | refine wM ?_ | refine wR ?_ | refine wS ?_ | refine wB ?_ | refine wG ?_ | refine wD ?_ | refine wY ?_ | refine wZ ?_ | refine wK ?_ | refine wT ?_ | refine wX ?_)
      refine zG (step_idx rfl rfl rfl rfl rfl rfl ⟨by omega, by omega⟩ (drop_rows (k := 1) (fun _ => rfl) hx)) ?_
      repeat (first | refine zE ?_ | refine zP ?_ | refine zD ?_ | refine zQ ?_ | refine zR ?_ | refine zS ?_ | refine wN ?_ | refine wM ?_ | refine wR ?_ | refine wS ?_ | refine wB ?_ | refine wG ?_ | refine wD ?_ | refine wY ?_ | refine wZ ?_ | refine wK ?_ | refine wT ?_ | refine wX ?_)
      refine zG (step_idx rfl rfl rfl rfl rfl rfl ⟨by omega, by omega⟩ (drop_rows (k := 1) (fun _ => rfl) hy)) ?_
      repeat (first | refine zE ?_ | refine zP ?_ | refine zD ?_ | refine zQ ?_ | refine zR ?_ | refine zS ?_ | refine wN ?_ | refine wM ?_ | refine wR ?_ | refine wS ?_ | refine wB ?_ | refine wG ?_ | refine wD ?_ | refine wY ?_ | refine wZ ?_ | refine wK ?_ | refine wT ?_ | refine wX ?_)
      by_cases hxy : x = y
      · refine wp_no rfl (by simpa using hxy) ?_
        repeat (first | refine zE ?_ | refine zP ?_ | refine zD ?_ | refine zQ ?_ | refine zR ?_ | refine zS ?_ | refine wN ?_ | refine wM ?_ | refine wR ?_ | refine wS ?_ | refine wB ?_ | refine wG ?_ | refine wD ?_ | refine wY ?_ | refine wZ ?_ | refine wK ?_ | refine wT ?_ | refine wX ?_)
        rw [wrap_succ (by omega)]
        exact ⟨⟨i + 1, _, _, _, _, _, _, _, _, _, _, _, _, _, _, _, rfl, rfl, hlt, below_succ hb (by rw [hx, hy, hxy])⟩, (by simp only [cnt, List.getElem?_cons_succ, List.getElem?_cons_zero, Int.toNat_natCast]; omega)⟩
      · rw [show decide (a = b) = false from decide_eq_false fun e => hxy (by subst e; rw [hx] at hy; exact Option.some.inj hy)]
        refine wp_yes rfl (by simpa using hxy) ?_
        repeat (first | refine zE ?_ | refine zP ?_ | refine zD ?_ | refine zQ ?_ | refine zR ?_ | refine zS ?_ | refine wN ?_ | refine wM ?_ | refine wR ?_ | refine wS ?_ | refine wB ?_ | refine wG ?_ | refine wD ?_ | refine wY ?_ | refine wZ ?_ | refine wK ?_ | refine wT ?_ | refine wX ?_)
        exact ⟨.inr rfl, _, rfl, rfl⟩
    · refine wp_no rfl (decide_eq_false (by omega)) ?_
      rw [show decide (a = b) = true from decide_eq_true (list_eq_of hl fun j hj => hb j (by omega))]
      repeat (first | refine zE ?_ | refine zP ?_ | refine zD ?_ | refine zQ ?_ | refine zR ?_ | refine zS ?_ | refine wN ?_ | refine wM ?_ | refine wR ?_ | refine wS ?_ | refine wB ?_ | refine wG ?_ | refine wD ?_ | refine wY ?_ | refine wZ ?_ | refine wK ?_ | refine wT ?_ | refine wX ?_)
      exact ⟨.inr rfl, _, rfl, rfl⟩
  · rw [show decide (a = b) = false from decide_eq_false fun e => hl (by rw [e])]
    refine wp_yes rfl (by simp; omega) ?_
    repeat (first | refine zE ?_ | refine zP ?_ | refine zD ?_ | refine zQ ?_ | refine zR ?_ | refine zS ?_ | refine wN ?_ | refine wM ?_ | refine wR ?_ | refine wS ?_ | refine wB ?_ | refine wG ?_ | refine wD ?_ | refine wY ?_ | refine wZ ?_ | refine wK ?_ | refine wT ?_ | refine wX ?_)
    exact ⟨.inr rfl, _, rfl, rfl⟩
theorem F114 : cfg.F 114 = some Tryz.f114 := rfl
theorem isSig5_fn (s : S) (hf : s.Fit) : Fn 114 [.agg (sV s)] (.bool (sigB s)) := by
  refine Fn.of_wp F114 rfl ?_
  simp only [show Tryz.f114.ntmps = 6 from rfl, List.length_cons, List.length_nil, List.replicate, List.cons_append, List.nil_append]
  repeat (first | refine zE ?_ | refine zP ?_ | refine zD ?_ | refine zQ ?_ | refine zR ?_ | refine zS ?_ | refine wN ?_ | refine wM ?_ | refine wR ?_ | refine wS ?_ | refine wB ?_ | refine wG ?_ | refine wD ?_ | refine wY ?_ | refine wZ ?_ | refine wK ?_ | refine wT ?_ | refine wX ?_)
  refine zF (step_call rfl rfl ((check4_fn s hf).cl)) ?_
  repeat (first | refine zE ?_ | refine zP ?_ | refine zD ?_ | refine zQ ?_ | refine zR ?_ | refine zS ?_ | refine wN ?_ | refine wM ?_ | refine wR ?_ | refine wS ?_ | refine wB ?_ | refine wG ?_ | refine wD ?_ | refine wY ?_ | refine wZ ?_ | refine wK ?_ | refine wT ?_ | refine wX ?_)
  refine ⟨.inr rfl, _, rfl, ?_⟩
  cases sigB s <;> rfl
theorem F239 : cfg.F 239 = some Tryz.f239 := rfl
set_option maxHeartbeats 1000000 in
theorem sortOf5_fn (s : S) (vars : List Int) (fv : Bool) (hs : s.Fit) (hv : vars.length ≤ 9223372036854775807) (t : T) (hf : t.Fit) : Fn 239 [.agg (sV s), .sl vars.length fv (ints vars), .agg (tV t)] (.tup [.int .i64 (sortE s vars t).1, .bool ((sortE s vars t).2 == 0)]) := by
  obtain ⟨k, n, f, l⟩ := t
  refine Fn.of_wp F239 rfl ?_
  simp only [show Tryz.f239.ntmps = 20 from rfl, List.length_cons, List.length_nil, List.replicate, List.cons_append, List.nil_append]
  repeat (first | refine zE ?_ | refine zP ?_ | refine zD ?_ | refine zQ ?_ | refine zR ?_ | refine zS ?_ | refine wN ?_ | refine wM ?_ | refine wR ?_ | refine wS ?_ | refine wB ?_ | refine wG ?_ | refine wD ?_ | refine wY ?_ | refine wZ ?_ | refine wK ?_ | refine wT ?_ | refine wX ?_)
  refine zF (step_call rfl rfl ((sort4_fn s vars fv hs hv (.mk k n f l) hf).cl)) ?_
  repeat (first | refine zE ?_ | refine zP ?_ | refine zD ?_ | refine zQ ?_ | refine zR ?_ | refine zS ?_ | refine wN ?_ | refine wM ?_ | refine wR ?_ | refine wS ?_ | refine wB ?_ | refine wG ?_ | refine wD ?_ | refine wY ?_ | refine wZ ?_ | refine wK ?_ | refine wT ?_ | refine wX ?_)
  exact ⟨.inr rfl, _, rfl, rfl⟩
noncomputable def alikeB (s : S) (vars : List Int) (a b : T) : Bool := ((sortE s vars a).2 == 0) && (((sortE s vars b).2 == 0) && ((sortE s vars a).1 == (sortE s vars b).1))
theorem F192 : cfg.F 192 = some Tryz.f192 := rfl
set_option maxHeartbeats 2000000 in
theorem alike_fn (s : S) (vars : List Int) (fv : Bool) (hs : s.Fit) (hv : vars.length ≤ 9223372036854775807) (a b : T) (ha : a.Fit) (hb : b.Fit) : Fn 192 [.agg (sV s), .sl vars.length fv (ints vars), .agg (tV a), .agg (tV b)] (.bool (alikeB s vars a b)) := by
  unfold alikeB
  obtain ⟨k, n, f, l⟩ := a
  obtain ⟨k2, n2, f2, l2⟩ := b
  refine Fn.of_wp F192 rfl ?_
  simp only [show Tryz.f192.ntmps = 36 from rfl, List.length_cons, List.length_nil, List.replicate, List.cons_append, List.nil_append]
  repeat (first | refine zE ?_ | refine zP ?_ | refine zD ?_ | refine zQ ?_ | refine zR ?_ | refine zS ?_ | refine wN ?_ | refine wM ?_ | refine wR ?_ | refine wS ?_ | refine wB ?_ | refine wG ?_ | refine wD ?_ | refine wY ?_ | refine wZ ?_ | refine wK ?_ | refine wT ?_ | refine wX ?_)
  refine zF (step_call rfl rfl ((sortOf5_fn s vars fv hs hv (.mk k n f l) ha).cl)) ?_
  repeat (first | refine zE ?_ | refine zP ?_ | refine zD ?_ | refine zQ ?_ | refine zR ?_ | refine zS ?_ | refine wN ?_ | refine wM ?_ | refine wR ?_ | refine wS ?_ | refine wB ?_ | refine wG ?_ | refine wD ?_ | refine wY ?_ | refine wZ ?_ | refine wK ?_ | refine wT ?_ | refine wX ?_)
  refine zF (step_call rfl rfl ((sortOf5_fn s vars fv hs hv (.mk k2 n2 f2 l2) hb).cl)) ?_
  repeat (first | refine zE ?_ | refine zP ?_ | refine zD ?_ | refine zQ ?_ | refine zR ?_ | refine zS ?_ | refine wN ?_ | refine wM ?_ | refine wR ?_ | refine wS ?_ | refine wB ?_ | refine wG ?_ | refine wD ?_ | refine wY ?_ | refine wZ ?_ | refine wK ?_ | refine wT ?_ | refine wX ?_)
  cases h1 : ((sortE s vars (.mk k n f l)).2 == 0)
  · repeat (first | refine zE ?_ | refine zP ?_ | refine zD ?_ | refine zQ ?_ | refine zR ?_ | refine zS ?_ | refine wN ?_ | refine wM ?_ | refine wR ?_ | refine wS ?_ | refine wB ?_ | refine wG ?_ | refine wD ?_ | refine wY ?_ | refine wZ ?_ | refine wK ?_ | refine wT ?_ | refine wX ?_)
    exact ⟨.inr rfl, _, rfl, rfl⟩
  repeat (first | refine zE ?_ | refine zP ?_ | refine zD ?_ | refine zQ ?_ | refine zR ?_ | refine zS ?_ | refine wN ?_ | refine wM ?_ | refine wR ?_ | refine wS ?_ | refine wB ?_ | refine wG ?_ | refine wD ?_ | refine wY ?_ | refine wZ ?_ | refine wK ?_ | refine wT ?_ | refine wX ?_)
  cases h2 : ((sortE s vars (.mk k2 n2 f2 l2)).2 == 0)
  · repeat (first | refine zE ?_ | refine zP ?_ | refine zD ?_ | refine zQ ?_ | refine zR ?_ | refine zS ?_ | refine wN ?_ | refine wM ?_ | refine wR ?_ | refine wS ?_ | refine wB ?_ | refine wG ?_ | refine wD ?_ | refine wY ?_ | refine wZ ?_ | refine wK ?_ | refine wT ?_ | refine wX ?_)
    exact ⟨.inr rfl, _, rfl, rfl⟩
  repeat (first | refine zE ?_ | refine zP ?_ | refine zD ?_ | refine zQ ?_ | refine zR ?_ | refine zS ?_ | refine wN ?_ | refine wM ?_ | refine wR ?_ | refine wS ?_ | refine wB ?_ | refine wG ?_ | refine wD ?_ | refine wY ?_ | refine wZ ?_ | refine wK ?_ | refine wT ?_ | refine wX ?_)
  exact ⟨.inr rfl, _, rfl, rfl⟩
def opSame (a b : O) : Bool := strEq a.name b.name && (decide (a.args = b.args) && (a.res == b.res))
theorem F148 : cfg.F 148 = some Tryz.f148 := rfl
set_option maxHeartbeats 1000000 in
theorem sameOp_fn (a b : O) (ha : a.args.length ≤ 9223372036854775807) (hb : b.args.length ≤ 9223372036854775807) : Fn 148 [.agg (oV a), .agg (oV b)] (.bool (opSame a b)) := by
  unfold opSame
  refine Fn.of_wp F148 rfl ?_
  simp only [show Tryz.f148.ntmps = 24 from rfl, List.length_cons, List.length_nil, List.replicate, List.cons_append, List.nil_append]
  repeat (first | refine zE ?_ | refine zP ?_ | refine zD ?_ | refine zQ ?_ | refine zR ?_ | refine zS ?_ | refine wN ?_ | refine wM ?_ | refine wR ?_ | refine wS ?_ | refine wB ?_ | refine wG ?_ | refine wD ?_ | refine wY ?_ | refine wZ ?_ | refine wK ?_ | refine wT ?_ | refine wX ?_)
  cases h1 : strEq a.name b.name
  · repeat (first | refine zE ?_ | refine zP ?_ | refine zD ?_ | refine zQ ?_ | refine zR ?_ | refine zS ?_ | refine wN ?_ | refine wM ?_ | refine wR ?_ | refine wS ?_ | refine wB ?_ | refine wG ?_ | refine wD ?_ | refine wY ?_ | refine wZ ?_ | refine wK ?_ | refine wT ?_ | refine wX ?_)
    exact ⟨.inr rfl, _, rfl, rfl⟩
  repeat (first | refine zE ?_ | refine zP ?_ | refine zD ?_ | refine zQ ?_ | refine zR ?_ | refine zS ?_ | refine wN ?_ | refine wM ?_ | refine wR ?_ | refine wS ?_ | refine wB ?_ | refine wG ?_ | refine wD ?_ | refine wY ?_ | refine wZ ?_ | refine wK ?_ | refine wT ?_ | refine wX ?_)
  refine zF (step_call rfl rfl ((sameInts5_fn a.args b.args a.fa b.fa ha hb).cl)) ?_
  repeat (first | refine zE ?_ | refine zP ?_ | refine zD ?_ | refine zQ ?_ | refine zR ?_ | refine zS ?_ | refine wN ?_ | refine wM ?_ | refine wR ?_ | refine wS ?_ | refine wB ?_ | refine wG ?_ | refine wD ?_ | refine wY ?_ | refine wZ ?_ | refine wK ?_ | refine wT ?_ | refine wX ?_)
  cases h2 : decide (a.args = b.args)
  · repeat (first | refine zE ?_ | refine zP ?_ | refine zD ?_ | refine zQ ?_ | refine zR ?_ | refine zS ?_ | refine wN ?_ | refine wM ?_ | refine wR ?_ | refine wS ?_ | refine wB ?_ | refine wG ?_ | refine wD ?_ | refine wY ?_ | refine wZ ?_ | refine wK ?_ | refine wT ?_ | refine wX ?_)
    exact ⟨.inr rfl, _, rfl, rfl⟩
  repeat (first | refine zE ?_ | refine zP ?_ | refine zD ?_ | refine zQ ?_ | refine zR ?_ | refine zS ?_ | refine wN ?_ | refine wM ?_ | refine wR ?_ | refine wS ?_ | refine wB ?_ | refine wG ?_ | refine wD ?_ | refine wY ?_ | refine wZ ?_ | refine wK ?_ | refine wT ?_ | refine wX ?_)
  exact ⟨.inr rfl, _, rfl, rfl⟩
def eqL {α : Type} (eq : α → α → Bool) : List α → List α → Bool
  | [], _ => true
  | _ :: _, [] => false
  | x :: l, y :: m => eq x y && eqL eq l m
def sigSame (a b : S) : Bool := ((a.sorts.length : Int) == (b.sorts.length : Int)) && (((a.ops.length : Int) == (b.ops.length : Int)) && (eqL strEq a.sorts b.sorts && eqL opSame a.ops b.ops))
theorem F73 : cfg.F 73 = some Tryz.f73 := rfl
set_option maxHeartbeats 8000000 in
theorem sameSig_fn (a b : S) (ha : a.Fit) (hb : b.Fit) : Fn 73 [.agg (sV a), .agg (sV b)] (.bool (sigSame a b)) := by
  unfold sigSame
  have := ha.sorts
  have := ha.ops
  refine Fn.of_wp F73 rfl ?_
  simp only [show Tryz.f73.ntmps = 62 from rfl, List.length_cons, List.length_nil, List.replicate, List.cons_append, List.nil_append]
  repeat (first | refine zE ?_ | refine zP ?_ | refine zD ?_ | refine zQ ?_ | refine zR ?_ | refine zS ?_ | refine wN ?_ | refine wM ?_ | refine wR ?_ | refine wS ?_ | refine wB ?_ | refine wG ?_ | refine wD ?_ | refine wY ?_ | refine wZ ?_ | refine wK ?_ | refine wT ?_ | refine wX ?_)
  cases h1 : ((a.sorts.length : Int) == (b.sorts.length : Int))
  · have h1' : ((a.sorts.length : Int) != (b.sorts.length : Int)) = true := by rw [bne, h1]; rfl
    rw [h1']
    repeat (first | refine zE ?_ | refine zP ?_ | refine zD ?_ | refine zQ ?_ | refine zR ?_ | refine zS ?_ | refine wN ?_ | refine wM ?_ | refine wR ?_ | refine wS ?_ | refine wB ?_ | refine wG ?_ | refine wD ?_ | refine wY ?_ | refine wZ ?_ | refine wK ?_ | refine wT ?_ | refine wX ?_)
    exact ⟨.inr rfl, _, rfl, rfl⟩
  have h1' : ((a.sorts.length : Int) != (b.sorts.length : Int)) = false := by rw [bne, h1]; rfl
  have hl1 : a.sorts.length = b.sorts.length := by simp at h1; omega
  rw [h1']
  repeat (first | refine zE ?_ | refine zP ?_ | refine zD ?_ | refine zQ ?_ | refine zR ?_ | refine zS ?_ | refine wN ?_ | refine wM ?_ | refine wR ?_ | refine wS ?_ | refine wB ?_ | refine wG ?_ | refine wD ?_ | refine wY ?_ | refine wZ ?_ | refine wK ?_ | refine wT ?_ | refine wX ?_)
  cases h2 : ((a.ops.length : Int) == (b.ops.length : Int))
  · have h2' : ((a.ops.length : Int) != (b.ops.length : Int)) = true := by rw [bne, h2]; rfl
    rw [h2']
    repeat (first | refine zE ?_ | refine zP ?_ | refine zD ?_ | refine zQ ?_ | refine zR ?_ | refine zS ?_ | refine wN ?_ | refine wM ?_ | refine wR ?_ | refine wS ?_ | refine wB ?_ | refine wG ?_ | refine wD ?_ | refine wY ?_ | refine wZ ?_ | refine wK ?_ | refine wT ?_ | refine wX ?_)
    exact ⟨.inr rfl, _, rfl, rfl⟩
  have h2' : ((a.ops.length : Int) != (b.ops.length : Int)) = false := by rw [bne, h2]; rfl
  have hl2 : a.ops.length = b.ops.length := by simp at h2; omega
  rw [h2']
  repeat (first | refine zE ?_ | refine zP ?_ | refine zD ?_ | refine zQ ?_ | refine zR ?_ | refine zS ?_ | refine wN ?_ | refine wM ?_ | refine wR ?_ | refine wS ?_ | refine wB ?_ | refine wG ?_ | refine wD ?_ | refine wY ?_ | refine wZ ?_ | refine wK ?_ | refine wT ?_ | refine wX ?_)
  refine wp_loop2 56 (fun i : Nat => [.agg (sV a), .agg (sV b), .bp 0 0, .bp 1 0, .bool false, .int .i64 (i : Int)]) (fun i H => H = [.box (sV a), .box (sV b)] ∧ i ≤ a.sorts.length ∧ eqL strEq (a.sorts.drop i) (b.sorts.drop i) = eqL strEq a.sorts b.sorts) (fun i => a.sorts.length - i) 0 ⟨_, rfl, rfl, rfl, Nat.zero_le _, rfl⟩ ?_
  rintro i H d u ⟨rfl, hi, hc⟩
  (rw [show (List.range 56).map u = [u 0, u 1, u 2, u 3, u 4, u 5, u 6, u 7, u 8, u 9, u 10, u 11, u 12, u 13, u 14, u 15, u 16, u 17, u 18, u 19, u 20, u 21, u 22, u 23, u 24, u 25, u 26, u 27, u 28, u 29, u 30, u 31, u 32, u 33, u 34, u 35, u 36, u 37, u 38, u 39, u 40, u 41, u 42, u 43, u 44, u 45, u 46, u 47, u 48, u 49, u 50, u 51, u 52, u 53, u 54, u 55] from rfl]; simp only [List.cons_append, List.nil_append])
  repeat (first | refine zE ?_ | refine zP ?_ | refine zD ?_ | refine zQ ?_ | refine zR ?_ | refine zS ?_ | refine wN ?_ | refine wM ?_ | refine wR ?_ | refine wS ?_ | refine wB ?_ | refine wG ?_ | refine wD ?_ | refine wY ?_ | refine wZ ?_ | refine wK ?_ | refine wT ?_ | refine wX ?_)
  by_cases hlt : i < a.sorts.length
  · refine wp_yes rfl (decide_eq_true (by omega)) ?_
    obtain ⟨x, hx⟩ := get_of hlt
    obtain ⟨y, hy⟩ := get_of (show i < b.sorts.length by omega)
    rw [drop_of hx, drop_of hy, eqL] at hc
    repeat (first | refine zE ?_ | refine zP ?_ | refine zD ?_ | refine zQ ?_ | refine zR ?_ | refine zS ?_ | refine wN ?_ | refine wM ?_ | refine wR ?_ | refine wS ?_ | refine wB ?_ | refine wG ?_ | refine wD ?_ | refine wY ?_ | refine wZ ?_ | refine wK ?_ | refine wT ?_ | refine wX ?_)
    refine zG (step_idx rfl rfl rfl rfl rfl rfl ⟨by omega, by omega⟩ (drop_rows (k := 1) (fun _ => rfl) hx)) ?_
    repeat (first | refine zE ?_ | refine zP ?_ | refine zD ?_ | refine zQ ?_ | refine zR ?_ | refine zS ?_ | refine wN ?_ | refine wM ?_ | refine wR ?_ | refine wS ?_ | refine wB ?_ | refine wG ?_ | refine wD ?_ | refine wY ?_ | refine wZ ?_ | refine wK ?_ | refine wT ?_ | refine wX ?_)
    refine zG (step_idx rfl rfl rfl rfl rfl rfl ⟨by omega, by omega⟩ (drop_rows (k := 1) (fun _ => rfl) hy)) ?_
    repeat (first | refine zE ?_ | refine zP ?_ | refine zD ?_ | refine zQ ?_ | refine zR ?_ | refine zS ?_ | refine wN ?_ | refine wM ?_ | refine wR ?_ | refine wS ?_ | refine wB ?_ | refine wG ?_ | refine wD ?_ | refine wY ?_ | refine wZ ?_ | refine wK ?_ | refine wT ?_ | refine wX ?_)
    cases h5 : strEq x y
    · rw [h5, Bool.false_and] at hc
      rw [← hc]
      repeat (first | refine zE ?_ | refine zP ?_ | refine zD ?_ | refine zQ ?_ | refine zR ?_ | refine zS ?_ | refine wN ?_ | refine wM ?_ | refine wR ?_ | refine wS ?_ | refine wB ?_ | refine wG ?_ | refine wD ?_ | refine wY ?_ | refine wZ ?_ | refine wK ?_ | refine wT ?_ | refine wX ?_)
      exact ⟨.inr rfl, _, rfl, rfl⟩
    rw [h5, Bool.true_and] at hc
    repeat (first | refine zE ?_ | refine zP ?_ | refine zD ?_ | refine zQ ?_ | refine zR ?_ | refine zS ?_ | refine wN ?_ | refine wM ?_ | refine wR ?_ | refine wS ?_ | refine wB ?_ | refine wG ?_ | refine wD ?_ | refine wY ?_ | refine wZ ?_ | refine wK ?_ | refine wT ?_ | refine wX ?_)
    rw [wrap_succ (by omega)]
    exact ⟨i + 1, _, rfl, rfl, ⟨rfl, hlt, hc⟩, (by first | omega | (dsimp only; omega))⟩
  refine wp_no rfl (decide_eq_false (by omega)) ?_
  have hil : i = a.sorts.length := by omega
  subst hil
  rw [List.drop_length, eqL] at hc
  rw [← hc]
  repeat (first | refine zE ?_ | refine zP ?_ | refine zD ?_ | refine zQ ?_ | refine zR ?_ | refine zS ?_ | refine wN ?_ | refine wM ?_ | refine wR ?_ | refine wS ?_ | refine wB ?_ | refine wG ?_ | refine wD ?_ | refine wY ?_ | refine wZ ?_ | refine wK ?_ | refine wT ?_ | refine wX ?_)
  refine wp_loop2 55 (fun i : Nat => [.agg (sV a), .agg (sV b), .bp 0 0, .bp 1 0, .bool false, .int .i64 (a.sorts.length : Int), .int .i64 (i : Int)]) (fun i H => H = [.box (sV a), .box (sV b)] ∧ i ≤ a.ops.length ∧ eqL opSame (a.ops.drop i) (b.ops.drop i) = eqL opSame a.ops b.ops) (fun i => a.ops.length - i) 0 ⟨_, rfl, rfl, rfl, Nat.zero_le _, rfl⟩ ?_
  rintro i H d v ⟨rfl, hi, hc⟩
  (rw [show (List.range 55).map v = [v 0, v 1, v 2, v 3, v 4, v 5, v 6, v 7, v 8, v 9, v 10, v 11, v 12, v 13, v 14, v 15, v 16, v 17, v 18, v 19, v 20, v 21, v 22, v 23, v 24, v 25, v 26, v 27, v 28, v 29, v 30, v 31, v 32, v 33, v 34, v 35, v 36, v 37, v 38, v 39, v 40, v 41, v 42, v 43, v 44, v 45, v 46, v 47, v 48, v 49, v 50, v 51, v 52, v 53, v 54] from rfl]; simp only [List.cons_append, List.nil_append])
  repeat (first | refine zE ?_ | refine zP ?_ | refine zD ?_ | refine zQ ?_ | refine zR ?_ | refine zS ?_ | refine wN ?_ | refine wM ?_ | refine wR ?_ | refine wS ?_ | refine wB ?_ | refine wG ?_ | refine wD ?_ | refine wY ?_ | refine wZ ?_ | refine wK ?_ | refine wT ?_ | refine wX ?_)
  by_cases hlt : i < a.ops.length
  · refine wp_yes rfl (decide_eq_true (by omega)) ?_
    obtain ⟨x, hx⟩ := get_of hlt
    obtain ⟨y, hy⟩ := get_of (show i < b.ops.length by omega)
    rw [drop_of hx, drop_of hy, eqL] at hc
    repeat (first | refine zE ?_ | refine zP ?_ | refine zD ?_ | refine zQ ?_ | refine zR ?_ | refine zS ?_ | refine wN ?_ | refine wM ?_ | refine wR ?_ | refine wS ?_ | refine wB ?_ | refine wG ?_ | refine wD ?_ | refine wY ?_ | refine wZ ?_ | refine wK ?_ | refine wT ?_ | refine wX ?_)
    refine zG (step_idx rfl rfl rfl rfl rfl rfl ⟨by omega, by omega⟩ (drop_rows (k := 3) (fun _ => rfl) hx)) ?_
    repeat (first | refine zE ?_ | refine zP ?_ | refine zD ?_ | refine zQ ?_ | refine zR ?_ | refine zS ?_ | refine wN ?_ | refine wM ?_ | refine wR ?_ | refine wS ?_ | refine wB ?_ | refine wG ?_ | refine wD ?_ | refine wY ?_ | refine wZ ?_ | refine wK ?_ | refine wT ?_ | refine wX ?_)
    refine zG (step_idx rfl rfl rfl rfl rfl rfl ⟨by omega, by omega⟩ (drop_rows (k := 3) (fun _ => rfl) hy)) ?_
    repeat (first | refine zE ?_ | refine zP ?_ | refine zD ?_ | refine zQ ?_ | refine zR ?_ | refine zS ?_ | refine wN ?_ | refine wM ?_ | refine wR ?_ | refine wS ?_ | refine wB ?_ | refine wG ?_ | refine wD ?_ | refine wY ?_ | refine wZ ?_ | refine wK ?_ | refine wT ?_ | refine wX ?_)
    refine zG (step_call rfl rfl ((sameOp_fn x y (ha.op i x hx).2 (hb.op i y hy).2).cl)) ?_
    repeat (first | refine zE ?_ | refine zP ?_ | refine zD ?_ | refine zQ ?_ | refine zR ?_ | refine zS ?_ | refine wN ?_ | refine wM ?_ | refine wR ?_ | refine wS ?_ | refine wB ?_ | refine wG ?_ | refine wD ?_ | refine wY ?_ | refine wZ ?_ | refine wK ?_ | refine wT ?_ | refine wX ?_)
    cases h5 : opSame x y
    · rw [h5, Bool.false_and] at hc
      rw [← hc]
      repeat (first | refine zE ?_ | refine zP ?_ | refine zD ?_ | refine zQ ?_ | refine zR ?_ | refine zS ?_ | refine wN ?_ | refine wM ?_ | refine wR ?_ | refine wS ?_ | refine wB ?_ | refine wG ?_ | refine wD ?_ | refine wY ?_ | refine wZ ?_ | refine wK ?_ | refine wT ?_ | refine wX ?_)
      exact ⟨.inr rfl, _, rfl, rfl⟩
    rw [h5, Bool.true_and] at hc
    repeat (first | refine zE ?_ | refine zP ?_ | refine zD ?_ | refine zQ ?_ | refine zR ?_ | refine zS ?_ | refine wN ?_ | refine wM ?_ | refine wR ?_ | refine wS ?_ | refine wB ?_ | refine wG ?_ | refine wD ?_ | refine wY ?_ | refine wZ ?_ | refine wK ?_ | refine wT ?_ | refine wX ?_)
    rw [wrap_succ (by omega)]
    exact ⟨i + 1, _, rfl, rfl, ⟨rfl, hlt, hc⟩, (by first | omega | (dsimp only; omega))⟩
  refine wp_no rfl (decide_eq_false (by omega)) ?_
  have hil : i = a.ops.length := by omega
  subst hil
  rw [List.drop_length, eqL] at hc
  rw [← hc]
  repeat (first | refine zE ?_ | refine zP ?_ | refine zD ?_ | refine zQ ?_ | refine zR ?_ | refine zS ?_ | refine wN ?_ | refine wM ?_ | refine wR ?_ | refine wS ?_ | refine wB ?_ | refine wG ?_ | refine wD ?_ | refine wY ?_ | refine wZ ?_ | refine wK ?_ | refine wT ?_ | refine wX ?_)
  exact ⟨.inr rfl, _, rfl, rfl⟩
end Go.Av
namespace Go.Av
open Go.Proofs
set_option maxRecDepth 100000
def cSame (c d : C2) : Bool := sameT c.a d.a && sameT c.b d.b
def eqnSame (a b : Eq2) : Bool := decide (a.vars = b.vars) && (((a.conds.length : Int) == (b.conds.length : Int)) && (sameT a.a b.a && (sameT a.b b.b && eqL cSame a.conds b.conds)))
structure Eq2.Fit (e : Eq2) : Prop where
  vars : e.vars.length ≤ 9223372036854775807
  conds : e.conds.length ≤ 9223372036854775807
  a : e.a.Fit
  b : e.b.Fit
  cond : ∀ (j : Nat) c, e.conds[j]? = some c → c.a.Fit ∧ c.b.Fit
theorem F42 : cfg.F 42 = some Tryz.f42 := rfl
set_option maxHeartbeats 8000000 in
theorem sameEqn_fn (a b : Eq2) (ha : a.Fit) (hb : b.Fit) : Fn 42 [.agg (eV a), .agg (eV b)] (.bool (eqnSame a b)) := by
  obtain ⟨av, afv, ac, afc, ⟨k1, n1, f1, l1⟩, ⟨k2, n2, f2, l2⟩⟩ := a
  obtain ⟨bv, bfv, bc, bfc, ⟨k3, n3, f3, l3⟩, ⟨k4, n4, f4, l4⟩⟩ := b
  unfold eqnSame
  dsimp only
  have hc1 := ha.conds
  dsimp only at hc1
  refine Fn.of_wp F42 rfl ?_
  simp only [show Tryz.f42.ntmps = 74 from rfl, List.length_cons, List.length_nil, List.replicate, List.cons_append, List.nil_append]
  repeat (first | refine zE ?_ | refine zP ?_ | refine zD ?_ | refine zQ ?_ | refine zR ?_ | refine zS ?_ | refine wN ?_ | refine wM ?_ | refine wR ?_ | refine wS ?_ | refine wB ?_ | refine wG ?_ | refine wD ?_ | refine wY ?_ | refine wZ ?_ | refine wK ?_ | refine wT ?_ | refine wX ?_)
  refine zF (step_call rfl rfl ((sameInts5_fn av bv afv bfv ha.vars hb.vars).cl)) ?_
  repeat (first | refine zE ?_ | refine zP ?_ | refine zD ?_ | refine zQ ?_ | refine zR ?_ | refine zS ?_ | refine wN ?_ | refine wM ?_ | refine wR ?_ | refine wS ?_ | refine wB ?_ | refine wG ?_ | refine wD ?_ | refine wY ?_ | refine wZ ?_ | refine wK ?_ | refine wT ?_ | refine wX ?_)
  cases h1 : decide (av = bv)
  · repeat (first | refine zE ?_ | refine zP ?_ | refine zD ?_ | refine zQ ?_ | refine zR ?_ | refine zS ?_ | refine wN ?_ | refine wM ?_ | refine wR ?_ | refine wS ?_ | refine wB ?_ | refine wG ?_ | refine wD ?_ | refine wY ?_ | refine wZ ?_ | refine wK ?_ | refine wT ?_ | refine wX ?_)
    exact ⟨.inr rfl, _, rfl, rfl⟩
  repeat (first | refine zE ?_ | refine zP ?_ | refine zD ?_ | refine zQ ?_ | refine zR ?_ | refine zS ?_ | refine wN ?_ | refine wM ?_ | refine wR ?_ | refine wS ?_ | refine wB ?_ | refine wG ?_ | refine wD ?_ | refine wY ?_ | refine wZ ?_ | refine wK ?_ | refine wT ?_ | refine wX ?_)
  cases h2 : ((ac.length : Int) == (bc.length : Int))
  · have h2' : ((ac.length : Int) != (bc.length : Int)) = true := by rw [bne, h2]; rfl
    rw [h2']
    repeat (first | refine zE ?_ | refine zP ?_ | refine zD ?_ | refine zQ ?_ | refine zR ?_ | refine zS ?_ | refine wN ?_ | refine wM ?_ | refine wR ?_ | refine wS ?_ | refine wB ?_ | refine wG ?_ | refine wD ?_ | refine wY ?_ | refine wZ ?_ | refine wK ?_ | refine wT ?_ | refine wX ?_)
    exact ⟨.inr rfl, _, rfl, rfl⟩
  have h2' : ((ac.length : Int) != (bc.length : Int)) = false := by rw [bne, h2]; rfl
  have hl : ac.length = bc.length := by simp at h2; omega
  rw [h2']
  repeat (first | refine zE ?_ | refine zP ?_ | refine zD ?_ | refine zQ ?_ | refine zR ?_ | refine zS ?_ | refine wN ?_ | refine wM ?_ | refine wR ?_ | refine wS ?_ | refine wB ?_ | refine wG ?_ | refine wD ?_ | refine wY ?_ | refine wZ ?_ | refine wK ?_ | refine wT ?_ | refine wX ?_)
  refine zF (step_call rfl rfl ((same4_fn (.mk k1 n1 f1 l1) ha.a (.mk k3 n3 f3 l3) hb.a).cl)) ?_
  repeat (first | refine zE ?_ | refine zP ?_ | refine zD ?_ | refine zQ ?_ | refine zR ?_ | refine zS ?_ | refine wN ?_ | refine wM ?_ | refine wR ?_ | refine wS ?_ | refine wB ?_ | refine wG ?_ | refine wD ?_ | refine wY ?_ | refine wZ ?_ | refine wK ?_ | refine wT ?_ | refine wX ?_)
  cases h3 : sameT (.mk k1 n1 f1 l1) (.mk k3 n3 f3 l3)
  · repeat (first | refine zE ?_ | refine zP ?_ | refine zD ?_ | refine zQ ?_ | refine zR ?_ | refine zS ?_ | refine wN ?_ | refine wM ?_ | refine wR ?_ | refine wS ?_ | refine wB ?_ | refine wG ?_ | refine wD ?_ | refine wY ?_ | refine wZ ?_ | refine wK ?_ | refine wT ?_ | refine wX ?_)
    exact ⟨.inr rfl, _, rfl, rfl⟩
  repeat (first | refine zE ?_ | refine zP ?_ | refine zD ?_ | refine zQ ?_ | refine zR ?_ | refine zS ?_ | refine wN ?_ | refine wM ?_ | refine wR ?_ | refine wS ?_ | refine wB ?_ | refine wG ?_ | refine wD ?_ | refine wY ?_ | refine wZ ?_ | refine wK ?_ | refine wT ?_ | refine wX ?_)
  refine zF (step_call rfl rfl ((same4_fn (.mk k2 n2 f2 l2) ha.b (.mk k4 n4 f4 l4) hb.b).cl)) ?_
  repeat (first | refine zE ?_ | refine zP ?_ | refine zD ?_ | refine zQ ?_ | refine zR ?_ | refine zS ?_ | refine wN ?_ | refine wM ?_ | refine wR ?_ | refine wS ?_ | refine wB ?_ | refine wG ?_ | refine wD ?_ | refine wY ?_ | refine wZ ?_ | refine wK ?_ | refine wT ?_ | refine wX ?_)
  cases h4 : sameT (.mk k2 n2 f2 l2) (.mk k4 n4 f4 l4)
  · repeat (first | refine zE ?_ | refine zP ?_ | refine zD ?_ | refine zQ ?_ | refine zR ?_ | refine zS ?_ | refine wN ?_ | refine wM ?_ | refine wR ?_ | refine wS ?_ | refine wB ?_ | refine wG ?_ | refine wD ?_ | refine wY ?_ | refine wZ ?_ | refine wK ?_ | refine wT ?_ | refine wX ?_)
    exact ⟨.inr rfl, _, rfl, rfl⟩
  repeat (first | refine zE ?_ | refine zP ?_ | refine zD ?_ | refine zQ ?_ | refine zR ?_ | refine zS ?_ | refine wN ?_ | refine wM ?_ | refine wR ?_ | refine wS ?_ | refine wB ?_ | refine wG ?_ | refine wD ?_ | refine wY ?_ | refine wZ ?_ | refine wK ?_ | refine wT ?_ | refine wX ?_)
  generalize hA : eV ⟨av, afv, ac, afc, .mk k1 n1 f1 l1, .mk k2 n2 f2 l2⟩ = A
  generalize hB : eV ⟨bv, bfv, bc, bfc, .mk k3 n3 f3 l3, .mk k4 n4 f4 l4⟩ = B
  subst hA hB
  refine wp_loop2 68 (fun i : Nat => [.agg (eV ⟨av, afv, ac, afc, .mk k1 n1 f1 l1, .mk k2 n2 f2 l2⟩), .agg (eV ⟨bv, bfv, bc, bfc, .mk k3 n3 f3 l3, .mk k4 n4 f4 l4⟩), .bp 0 0, .bp 1 0, .bool false, .int .i64 (i : Int)]) (fun i H => H = [.box (eV ⟨av, afv, ac, afc, .mk k1 n1 f1 l1, .mk k2 n2 f2 l2⟩), .box (eV ⟨bv, bfv, bc, bfc, .mk k3 n3 f3 l3, .mk k4 n4 f4 l4⟩)] ∧ i ≤ ac.length ∧ eqL cSame (ac.drop i) (bc.drop i) = eqL cSame ac bc) (fun i => ac.length - i) 0 ⟨_, rfl, rfl, rfl, Nat.zero_le _, rfl⟩ ?_
  rintro i H d u ⟨rfl, hi, hc⟩
  (rw [show (List.range 68).map u = [u 0, u 1, u 2, u 3, u 4, u 5, u 6, u 7, u 8, u 9, u 10, u 11, u 12, u 13, u 14, u 15, u 16, u 17, u 18, u 19, u 20, u 21, u 22, u 23, u 24, u 25, u 26, u 27, u 28, u 29, u 30, u 31, u 32, u 33, u 34, u 35, u 36, u 37, u 38, u 39, u 40, u 41, u 42, u 43, u 44, u 45, u 46, u 47, u 48, u 49, u 50, u 51, u 52, u 53, u 54, u 55, u 56, u 57, u 58, u 59, u 60, u 61, u 62, u 63, u 64, u 65, u 66, u 67] from rfl]; simp only [List.cons_append, List.nil_append])
  repeat (first | refine zE ?_ | refine zP ?_ | refine zD ?_ | refine zQ ?_ | refine zR ?_ | refine zS ?_ | refine wN ?_ | refine wM ?_ | refine wR ?_ | refine wS ?_ | refine wB ?_ | refine wG ?_ | refine wD ?_ | refine wY ?_ | refine wZ ?_ | refine wK ?_ | refine wT ?_ | refine wX ?_)
  by_cases hlt : i < ac.length
  · refine wp_yes rfl (decide_eq_true (by omega)) ?_
    obtain ⟨x, hx⟩ := get_of hlt
    obtain ⟨y, hy⟩ := get_of (show i < bc.length by omega)
    have hxf := ha.cond i x hx
    have hyf := hb.cond i y hy
    rw [drop_of hx, drop_of hy, eqL, cSame] at hc
    repeat (first | refine zE ?_ | refine zP ?_ | refine zD ?_ | refine zQ ?_ | refine zR ?_ | refine zS ?_ | refine wN ?_ | refine wM ?_ | refine wR ?_ | refine wS ?_ | refine wB ?_ | refine wG ?_ | refine wD ?_ | refine wY ?_ | refine wZ ?_ | refine wK ?_ | refine wT ?_ | refine wX ?_)
    refine zG (step_idx rfl rfl rfl rfl rfl rfl ⟨by omega, by omega⟩ (drop_conds hx)) ?_
    repeat (first | refine zE ?_ | refine zP ?_ | refine zD ?_ | refine zQ ?_ | refine zR ?_ | refine zS ?_ | refine wN ?_ | refine wM ?_ | refine wR ?_ | refine wS ?_ | refine wB ?_ | refine wG ?_ | refine wD ?_ | refine wY ?_ | refine wZ ?_ | refine wK ?_ | refine wT ?_ | refine wX ?_)
    refine zG (step_enc2 rfl rfl rfl (tV_len x.a) rfl rfl) ?_
    repeat (first | refine zE ?_ | refine zP ?_ | refine zD ?_ | refine zQ ?_ | refine zR ?_ | refine zS ?_ | refine wN ?_ | refine wM ?_ | refine wR ?_ | refine wS ?_ | refine wB ?_ | refine wG ?_ | refine wD ?_ | refine wY ?_ | refine wZ ?_ | refine wK ?_ | refine wT ?_ | refine wX ?_)
    refine zG (step_idx rfl rfl rfl rfl rfl rfl ⟨by omega, by omega⟩ (drop_conds hy)) ?_
    repeat (first | refine zE ?_ | refine zP ?_ | refine zD ?_ | refine zQ ?_ | refine zR ?_ | refine zS ?_ | refine wN ?_ | refine wM ?_ | refine wR ?_ | refine wS ?_ | refine wB ?_ | refine wG ?_ | refine wD ?_ | refine wY ?_ | refine wZ ?_ | refine wK ?_ | refine wT ?_ | refine wX ?_)
    refine zG (step_enc2 rfl rfl rfl (tV_len y.a) rfl rfl) ?_
    refine zG (step_call rfl rfl ((same4_fn x.a hxf.1 y.a hyf.1).cl)) ?_
    repeat (first | refine zE ?_ | refine zP ?_ | refine zD ?_ | refine zQ ?_ | refine zR ?_ | refine zS ?_ | refine wN ?_ | refine wM ?_ | refine wR ?_ | refine wS ?_ | refine wB ?_ | refine wG ?_ | refine wD ?_ | refine wY ?_ | refine wZ ?_ | refine wK ?_ | refine wT ?_ | refine wX ?_)
    cases h5 : sameT x.a y.a
    · rw [h5, Bool.false_and, Bool.false_and] at hc
      rw [← hc]
      repeat (first | refine zE ?_ | refine zP ?_ | refine zD ?_ | refine zQ ?_ | refine zR ?_ | refine zS ?_ | refine wN ?_ | refine wM ?_ | refine wR ?_ | refine wS ?_ | refine wB ?_ | refine wG ?_ | refine wD ?_ | refine wY ?_ | refine wZ ?_ | refine wK ?_ | refine wT ?_ | refine wX ?_)
      exact ⟨.inr rfl, _, rfl, rfl⟩
    rw [h5, Bool.true_and] at hc
    repeat (first | refine zE ?_ | refine zP ?_ | refine zD ?_ | refine zQ ?_ | refine zR ?_ | refine zS ?_ | refine wN ?_ | refine wM ?_ | refine wR ?_ | refine wS ?_ | refine wB ?_ | refine wG ?_ | refine wD ?_ | refine wY ?_ | refine wZ ?_ | refine wK ?_ | refine wT ?_ | refine wX ?_)
    refine zG (step_idx rfl rfl rfl rfl rfl rfl ⟨by omega, by omega⟩ (drop_conds hx)) ?_
    repeat (first | refine zE ?_ | refine zP ?_ | refine zD ?_ | refine zQ ?_ | refine zR ?_ | refine zS ?_ | refine wN ?_ | refine wM ?_ | refine wR ?_ | refine wS ?_ | refine wB ?_ | refine wG ?_ | refine wD ?_ | refine wY ?_ | refine wZ ?_ | refine wK ?_ | refine wT ?_ | refine wX ?_)
    refine zG (step_enc2 rfl rfl rfl (tV_len x.b) rfl (drop_tV _ _)) ?_
    repeat (first | refine zE ?_ | refine zP ?_ | refine zD ?_ | refine zQ ?_ | refine zR ?_ | refine zS ?_ | refine wN ?_ | refine wM ?_ | refine wR ?_ | refine wS ?_ | refine wB ?_ | refine wG ?_ | refine wD ?_ | refine wY ?_ | refine wZ ?_ | refine wK ?_ | refine wT ?_ | refine wX ?_)
    refine zG (step_idx rfl rfl rfl rfl rfl rfl ⟨by omega, by omega⟩ (drop_conds hy)) ?_
    repeat (first | refine zE ?_ | refine zP ?_ | refine zD ?_ | refine zQ ?_ | refine zR ?_ | refine zS ?_ | refine wN ?_ | refine wM ?_ | refine wR ?_ | refine wS ?_ | refine wB ?_ | refine wG ?_ | refine wD ?_ | refine wY ?_ | refine wZ ?_ | refine wK ?_ | refine wT ?_ | refine wX ?_)
    refine zG (step_enc2 rfl rfl rfl (tV_len y.b) rfl (drop_tV _ _)) ?_
    refine zG (step_call rfl rfl ((same4_fn x.b hxf.2 y.b hyf.2).cl)) ?_
    repeat (first | refine zE ?_ | refine zP ?_ | refine zD ?_ | refine zQ ?_ | refine zR ?_ | refine zS ?_ | refine wN ?_ | refine wM ?_ | refine wR ?_ | refine wS ?_ | refine wB ?_ | refine wG ?_ | refine wD ?_ | refine wY ?_ | refine wZ ?_ | refine wK ?_ | refine wT ?_ | refine wX ?_)
    cases h6 : sameT x.b y.b
    · rw [h6, Bool.false_and] at hc
      rw [← hc]
      repeat (first | refine zE ?_ | refine zP ?_ | refine zD ?_ | refine zQ ?_ | refine zR ?_ | refine zS ?_ | refine wN ?_ | refine wM ?_ | refine wR ?_ | refine wS ?_ | refine wB ?_ | refine wG ?_ | refine wD ?_ | refine wY ?_ | refine wZ ?_ | refine wK ?_ | refine wT ?_ | refine wX ?_)
      exact ⟨.inr rfl, _, rfl, rfl⟩
    rw [h6, Bool.true_and] at hc
    repeat (first | refine zE ?_ | refine zP ?_ | refine zD ?_ | refine zQ ?_ | refine zR ?_ | refine zS ?_ | refine wN ?_ | refine wM ?_ | refine wR ?_ | refine wS ?_ | refine wB ?_ | refine wG ?_ | refine wD ?_ | refine wY ?_ | refine wZ ?_ | refine wK ?_ | refine wT ?_ | refine wX ?_)
    rw [wrap_succ (by omega)]
    exact ⟨i + 1, _, rfl, rfl, ⟨rfl, hlt, hc⟩, (by first | omega | (dsimp only; omega))⟩
  refine wp_no rfl (decide_eq_false (by omega)) ?_
  have hil : i = ac.length := by omega
  subst hil
  rw [List.drop_length, eqL] at hc
  rw [← hc]
  repeat (first | refine zE ?_ | refine zP ?_ | refine zD ?_ | refine zQ ?_ | refine zR ?_ | refine zS ?_ | refine wN ?_ | refine wM ?_ | refine wR ?_ | refine wS ?_ | refine wB ?_ | refine wG ?_ | refine wD ?_ | refine wY ?_ | refine wZ ?_ | refine wK ?_ | refine wT ?_ | refine wX ?_)
  exact ⟨.inr rfl, _, rfl, rfl⟩
end Go.Av
