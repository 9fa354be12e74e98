/- Contracts over the evaluator: comparisons of the program. Conditions: none beyond the hypotheses of each theorem. -/
import Derived.Test.YtdjgjnahfekdhaaGreatDoorV1
set_option linter.unusedSectionVars false
set_option linter.unusedVariables false
set_option linter.unusedSimpArgs false
namespace Go.Av
open Go.Proofs
set_option maxRecDepth 100000
theorem sameL_eqL : ∀ (l m : List T), sameL l m = eqL sameT l m
  | [], _ => by rw [sameL, eqL]
  | _ :: _, [] => by rw [sameL, eqL]
  | t :: l, u :: m => by rw [sameL, eqL, sameL_eqL l m]
theorem eqL_ints : ∀ (l m : List Int), (((l.length : Int) == (m.length : Int)) && eqL (fun x y => x == y) l m) = decide (l = m)
  | [], [] => rfl
  | [], y :: m => by simp; omega
  | x :: l, [] => by simp; omega
  | x :: l, y :: m => by
    have ih := eqL_ints l m
    rw [eqL]
    by_cases h : l = m
    · subst h
      rw [decide_eq_true rfl, Bool.and_eq_true] at ih
      rw [ih.2]
      simp
      by_cases hx : x = y <;> simp [hx]
    · rw [decide_eq_false h] at ih
      rw [decide_eq_false (fun e => h (List.cons.inj e).2)]
      rw [show ((((x :: l).length : Int) == ((y :: m).length : Int)) : Bool) = ((l.length : Int) == (m.length : Int)) by simp only [List.length_cons]; rw [Bool.eq_iff_iff]; simp]
      rw [Bool.and_left_comm, ih, Bool.and_false]
theorem F195 : cfg.F 195 = some Tryz.f195 := rfl
set_option maxHeartbeats 4000000 in
theorem sameP_fn : ∀ (a : T), a.Fit → ∀ (b : T), b.Fit → Fn 195 [.agg (tV a), .agg (tV b)] (.bool (sameT a b)) := by
  refine T_ind ?_
  rintro k n f l ih hfit ⟨k2, n2, f2, l2⟩ hfit2
  rw [T.Fit] at hfit hfit2
  rw [tV_mk, tV_mk, sameT]
  refine Fn.of_wp F195 rfl ?_
  simp only [show Tryz.f195.ntmps = 24 from rfl, List.length_cons, List.length_nil, List.replicate, List.cons_append, List.nil_append]
  repeat (first | refine zE ?_ | refine zP ?_ | refine zD ?_ | refine zQ ?_ | refine zR ?_ | refine zS ?_ | refine wN ?_ | refine wM ?_ | refine wR ?_ | refine wS ?_ | refine wB ?_ | refine wG ?_ | refine wD ?_ | refine wY ?_ | refine wZ ?_ | refine wK ?_ | refine wT ?_ | refine wX ?_)
  cases h1 : (k == k2)
  case false =>
    repeat (first | refine zE ?_ | refine zP ?_ | refine zD ?_ | refine zQ ?_ | refine zR ?_ | refine zS ?_ | refine wN ?_ | refine wM ?_ | refine wR ?_ | refine wS ?_ | refine wB ?_ | refine wG ?_ | refine wD ?_ | refine wY ?_ | refine wZ ?_ | refine wK ?_ | refine wT ?_ | refine wX ?_)
    exact ⟨.inr rfl, _, rfl, rfl⟩
  repeat (first | refine zE ?_ | refine zP ?_ | refine zD ?_ | refine zQ ?_ | refine zR ?_ | refine zS ?_ | refine wN ?_ | refine wM ?_ | refine wR ?_ | refine wS ?_ | refine wB ?_ | refine wG ?_ | refine wD ?_ | refine wY ?_ | refine wZ ?_ | refine wK ?_ | refine wT ?_ | refine wX ?_)
  cases h2 : (n == n2)
  case false =>
    repeat (first | refine zE ?_ | refine zP ?_ | refine zD ?_ | refine zQ ?_ | refine zR ?_ | refine zS ?_ | refine wN ?_ | refine wM ?_ | refine wR ?_ | refine wS ?_ | refine wB ?_ | refine wG ?_ | refine wD ?_ | refine wY ?_ | refine wZ ?_ | refine wK ?_ | refine wT ?_ | refine wX ?_)
    exact ⟨.inr rfl, _, rfl, rfl⟩
  repeat (first | refine zE ?_ | refine zP ?_ | refine zD ?_ | refine zQ ?_ | refine zR ?_ | refine zS ?_ | refine wN ?_ | refine wM ?_ | refine wR ?_ | refine wS ?_ | refine wB ?_ | refine wG ?_ | refine wD ?_ | refine wY ?_ | refine wZ ?_ | refine wK ?_ | refine wT ?_ | refine wX ?_)
  refine zF (step_call rfl rfl ((eqFT_fn l l2 f f2 195 sameT hfit.1 rfl rfl (by decide) rfl fun x hx y hy => ih x hx (hfit.2.at hx) y (hfit2.2.at hy)).cl)) ?_
  rw [← sameL_eqL]
  repeat (first | refine zE ?_ | refine zP ?_ | refine zD ?_ | refine zQ ?_ | refine zR ?_ | refine zS ?_ | refine wN ?_ | refine wM ?_ | refine wR ?_ | refine wS ?_ | refine wB ?_ | refine wG ?_ | refine wD ?_ | refine wY ?_ | refine wZ ?_ | refine wK ?_ | refine wT ?_ | refine wX ?_)
  exact ⟨.inr rfl, _, rfl, rfl⟩
theorem F197 : cfg.F 197 = some Tryz.f197 := rfl
theorem sameC_fn (c d : C2) (hc : c.a.Fit ∧ c.b.Fit) (hd : d.a.Fit ∧ d.b.Fit) : Fn 197 [.agg (cV c), .agg (cV d)] (.bool (cSame c d)) := by
  obtain ⟨⟨k1, n1, f1, l1⟩, ⟨k2, n2, f2, l2⟩⟩ := c
  obtain ⟨⟨k3, n3, f3, l3⟩, ⟨k4, n4, f4, l4⟩⟩ := d
  unfold cSame
  dsimp only at hc hd ⊢
  refine Fn.of_wp F197 rfl ?_
  simp only [show Tryz.f197.ntmps = 17 from rfl, List.length_cons, List.length_nil, List.replicate, List.cons_append, List.nil_append]
  repeat (first | refine zE ?_ | refine zP ?_ | refine zD ?_ | refine zQ ?_ | refine zR ?_ | refine zS ?_ | refine wN ?_ | refine wM ?_ | refine wR ?_ | refine wS ?_ | refine wB ?_ | refine wG ?_ | refine wD ?_ | refine wY ?_ | refine wZ ?_ | refine wK ?_ | refine wT ?_ | refine wX ?_)
  refine zF (step_call rfl rfl ((sameP_fn (.mk k1 n1 f1 l1) hc.1 (.mk k3 n3 f3 l3) hd.1).cl)) ?_
  cases h1 : sameT (.mk k1 n1 f1 l1) (.mk k3 n3 f3 l3)
  case false =>
    repeat (first | refine zE ?_ | refine zP ?_ | refine zD ?_ | refine zQ ?_ | refine zR ?_ | refine zS ?_ | refine wN ?_ | refine wM ?_ | refine wR ?_ | refine wS ?_ | refine wB ?_ | refine wG ?_ | refine wD ?_ | refine wY ?_ | refine wZ ?_ | refine wK ?_ | refine wT ?_ | refine wX ?_)
    exact ⟨.inr rfl, _, rfl, rfl⟩
  repeat (first | refine zE ?_ | refine zP ?_ | refine zD ?_ | refine zQ ?_ | refine zR ?_ | refine zS ?_ | refine wN ?_ | refine wM ?_ | refine wR ?_ | refine wS ?_ | refine wB ?_ | refine wG ?_ | refine wD ?_ | refine wY ?_ | refine wZ ?_ | refine wK ?_ | refine wT ?_ | refine wX ?_)
  refine zF (step_call rfl rfl ((sameP_fn (.mk k2 n2 f2 l2) hc.2 (.mk k4 n4 f4 l4) hd.2).cl)) ?_
  repeat (first | refine zE ?_ | refine zP ?_ | refine zD ?_ | refine zQ ?_ | refine zR ?_ | refine zS ?_ | refine wN ?_ | refine wM ?_ | refine wR ?_ | refine wS ?_ | refine wB ?_ | refine wG ?_ | refine wD ?_ | refine wY ?_ | refine wZ ?_ | refine wK ?_ | refine wT ?_ | refine wX ?_)
  exact ⟨.inr rfl, _, rfl, rfl⟩
theorem eqnSame_alt (a b : Eq2) : eqnSame a b = (decide (a.vars = b.vars) && (sameT a.a b.a && (sameT a.b b.b && (((a.conds.length : Int) == (b.conds.length : Int)) && eqL cSame a.conds b.conds)))) := by
  unfold eqnSame
  cases decide (a.vars = b.vars) <;> cases sameT a.a b.a <;> cases sameT a.b b.b <;> simp
theorem F120 : cfg.F 120 = some Tryz.f120 := rfl
set_option maxHeartbeats 4000000 in
theorem sameEqnP_fn (a b : Eq2) (ha : a.Fit) (hb : b.Fit) : Fn 120 [.agg (eV a), .agg (eV b)] (.bool (eqnSame a b)) := by
  rw [eqnSame_alt]
  obtain ⟨av, afv, ac, afc, ⟨k1, n1, f1, l1⟩, ⟨k2, n2, f2, l2⟩⟩ := a
  obtain ⟨bv, bfv, bc, bfc, ⟨k3, n3, f3, l3⟩, ⟨k4, n4, f4, l4⟩⟩ := b
  have hv1 := ha.vars
  have hc1 := ha.conds
  have haf := ha.a
  have hbf := ha.b
  have hcf := ha.cond
  have haf2 := hb.a
  have hbf2 := hb.b
  have hcf2 := hb.cond
  dsimp only at hv1 hc1 haf hbf hcf haf2 hbf2 hcf2 ⊢
  refine Fn.of_wp F120 rfl ?_
  simp only [show Tryz.f120.ntmps = 31 from rfl, List.length_cons, List.length_nil, List.replicate, List.cons_append, List.nil_append]
  repeat (first | refine zE ?_ | refine zP ?_ | refine zD ?_ | refine zQ ?_ | refine zR ?_ | refine zS ?_ | refine wN ?_ | refine wM ?_ | refine wR ?_ | refine wS ?_ | refine wB ?_ | refine wG ?_ | refine wD ?_ | refine wY ?_ | refine wZ ?_ | refine wK ?_ | refine wT ?_ | refine wX ?_)
  refine zF (step_call rfl rfl ((equalI_fn av bv afv bfv hv1).cl)) ?_
  rw [eqL_ints]
  cases h1 : decide (av = bv)
  case false =>
    repeat (first | refine zE ?_ | refine zP ?_ | refine zD ?_ | refine zQ ?_ | refine zR ?_ | refine zS ?_ | refine wN ?_ | refine wM ?_ | refine wR ?_ | refine wS ?_ | refine wB ?_ | refine wG ?_ | refine wD ?_ | refine wY ?_ | refine wZ ?_ | refine wK ?_ | refine wT ?_ | refine wX ?_)
    exact ⟨.inr rfl, _, rfl, rfl⟩
  repeat (first | refine zE ?_ | refine zP ?_ | refine zD ?_ | refine zQ ?_ | refine zR ?_ | refine zS ?_ | refine wN ?_ | refine wM ?_ | refine wR ?_ | refine wS ?_ | refine wB ?_ | refine wG ?_ | refine wD ?_ | refine wY ?_ | refine wZ ?_ | refine wK ?_ | refine wT ?_ | refine wX ?_)
  refine zF (step_call rfl rfl ((sameP_fn (.mk k1 n1 f1 l1) haf (.mk k3 n3 f3 l3) haf2).cl)) ?_
  cases h2 : sameT (.mk k1 n1 f1 l1) (.mk k3 n3 f3 l3)
  case false =>
    repeat (first | refine zE ?_ | refine zP ?_ | refine zD ?_ | refine zQ ?_ | refine zR ?_ | refine zS ?_ | refine wN ?_ | refine wM ?_ | refine wR ?_ | refine wS ?_ | refine wB ?_ | refine wG ?_ | refine wD ?_ | refine wY ?_ | refine wZ ?_ | refine wK ?_ | refine wT ?_ | refine wX ?_)
    exact ⟨.inr rfl, _, rfl, rfl⟩
  repeat (first | refine zE ?_ | refine zP ?_ | refine zD ?_ | refine zQ ?_ | refine zR ?_ | refine zS ?_ | refine wN ?_ | refine wM ?_ | refine wR ?_ | refine wS ?_ | refine wB ?_ | refine wG ?_ | refine wD ?_ | refine wY ?_ | refine wZ ?_ | refine wK ?_ | refine wT ?_ | refine wX ?_)
  refine zF (step_call rfl rfl ((sameP_fn (.mk k2 n2 f2 l2) hbf (.mk k4 n4 f4 l4) hbf2).cl)) ?_
  cases h3 : sameT (.mk k2 n2 f2 l2) (.mk k4 n4 f4 l4)
  case false =>
    repeat (first | refine zE ?_ | refine zP ?_ | refine zD ?_ | refine zQ ?_ | refine zR ?_ | refine zS ?_ | refine wN ?_ | refine wM ?_ | refine wR ?_ | refine wS ?_ | refine wB ?_ | refine wG ?_ | refine wD ?_ | refine wY ?_ | refine wZ ?_ | refine wK ?_ | refine wT ?_ | refine wX ?_)
    exact ⟨.inr rfl, _, rfl, rfl⟩
  repeat (first | refine zE ?_ | refine zP ?_ | refine zD ?_ | refine zQ ?_ | refine zR ?_ | refine zS ?_ | refine wN ?_ | refine wM ?_ | refine wR ?_ | refine wS ?_ | refine wB ?_ | refine wG ?_ | refine wD ?_ | refine wY ?_ | refine wZ ?_ | refine wK ?_ | refine wT ?_ | refine wX ?_)
  refine run_next rfl (step_call rfl rfl ((eqFC_fn ac bc afc bfc 197 cSame hc1 rfl rfl (by decide) rfl fun x hx y hy => by
    obtain ⟨j, hj⟩ := List.getElem?_of_mem hx
    obtain ⟨q, hq⟩ := List.getElem?_of_mem hy
    exact sameC_fn x y (hcf j x hj) (hcf2 q y hq)).cl)) (by dsimp only [putTm, List.set]) ?_
  repeat (first | refine zE ?_ | refine zP ?_ | refine zD ?_ | refine zQ ?_ | refine zR ?_ | refine zS ?_ | refine wN ?_ | refine wM ?_ | refine wR ?_ | refine wS ?_ | refine wB ?_ | refine wG ?_ | refine wD ?_ | refine wY ?_ | refine wZ ?_ | refine wK ?_ | refine wT ?_ | refine wX ?_)
  exact ⟨.inr rfl, _, rfl, rfl⟩
theorem F117 : cfg.F 117 = some Tryz.f117 := rfl
theorem sameOP_fn (a b : O) (ha : a.args.length ≤ 9223372036854775807) : Fn 117 [.agg (oV a), .agg (oV b)] (.bool (opSame a b)) := by
  unfold opSame
  refine Fn.of_wp F117 rfl ?_
  simp only [show Tryz.f117.ntmps = 24 from rfl, List.length_cons, List.length_nil, List.replicate, List.cons_append, List.nil_append]
  repeat (first | refine zE ?_ | refine zP ?_ | refine zD ?_ | refine zQ ?_ | refine zR ?_ | refine zS ?_ | refine wN ?_ | refine wM ?_ | refine wR ?_ | refine wS ?_ | refine wB ?_ | refine wG ?_ | refine wD ?_ | refine wY ?_ | refine wZ ?_ | refine wK ?_ | refine wT ?_ | refine wX ?_)
  cases h1 : strEq a.name b.name
  case false =>
    repeat (first | refine zE ?_ | refine zP ?_ | refine zD ?_ | refine zQ ?_ | refine zR ?_ | refine zS ?_ | refine wN ?_ | refine wM ?_ | refine wR ?_ | refine wS ?_ | refine wB ?_ | refine wG ?_ | refine wD ?_ | refine wY ?_ | refine wZ ?_ | refine wK ?_ | refine wT ?_ | refine wX ?_)
    exact ⟨.inr rfl, _, rfl, rfl⟩
  repeat (first | refine zE ?_ | refine zP ?_ | refine zD ?_ | refine zQ ?_ | refine zR ?_ | refine zS ?_ | refine wN ?_ | refine wM ?_ | refine wR ?_ | refine wS ?_ | refine wB ?_ | refine wG ?_ | refine wD ?_ | refine wY ?_ | refine wZ ?_ | refine wK ?_ | refine wT ?_ | refine wX ?_)
  refine zF (step_call rfl rfl ((equalI_fn a.args b.args a.fa b.fa ha).cl)) ?_
  rw [eqL_ints]
  cases h2 : decide (a.args = b.args)
  case false =>
    repeat (first | refine zE ?_ | refine zP ?_ | refine zD ?_ | refine zQ ?_ | refine zR ?_ | refine zS ?_ | refine wN ?_ | refine wM ?_ | refine wR ?_ | refine wS ?_ | refine wB ?_ | refine wG ?_ | refine wD ?_ | refine wY ?_ | refine wZ ?_ | refine wK ?_ | refine wT ?_ | refine wX ?_)
    exact ⟨.inr rfl, _, rfl, rfl⟩
  repeat (first | refine zE ?_ | refine zP ?_ | refine zD ?_ | refine zQ ?_ | refine zR ?_ | refine zS ?_ | refine wN ?_ | refine wM ?_ | refine wR ?_ | refine wS ?_ | refine wB ?_ | refine wG ?_ | refine wD ?_ | refine wY ?_ | refine wZ ?_ | refine wK ?_ | refine wT ?_ | refine wX ?_)
  exact ⟨.inr rfl, _, rfl, rfl⟩
theorem tySame_alt (a b : Ty) : tySame a b = ((((a.sig.sorts.length : Int) == (b.sig.sorts.length : Int)) && eqL strEq a.sig.sorts b.sig.sorts) && ((((a.sig.ops.length : Int) == (b.sig.ops.length : Int)) && eqL opSame a.sig.ops b.sig.ops) && (((a.eqns.length : Int) == (b.eqns.length : Int)) && eqL eqnSame a.eqns b.eqns))) := by
  unfold tySame sigSame
  cases ((a.sig.sorts.length : Int) == (b.sig.sorts.length : Int)) <;> cases ((a.sig.ops.length : Int) == (b.sig.ops.length : Int)) <;> cases eqL strEq a.sig.sorts b.sig.sorts <;> simp
theorem F41 : cfg.F 41 = some Tryz.f41 := rfl
set_option maxHeartbeats 4000000 in
theorem sameTP_fn (a b : Ty) (ha : a.Fit) (hb : b.Fit) : Fn 41 [.agg (yV a), .agg (yV b)] (.bool (tySame a b)) := by
  rw [tySame_alt]
  have hl := ha.eqns
  have hs := ha.sig.sorts
  have ho := ha.sig.ops
  refine Fn.of_wp F41 rfl ?_
  simp only [show Tryz.f41.ntmps = 30 from rfl, List.length_cons, List.length_nil, List.replicate, List.cons_append, List.nil_append]
  repeat (first | refine zE ?_ | refine zP ?_ | refine zD ?_ | refine zQ ?_ | refine zR ?_ | refine zS ?_ | refine wN ?_ | refine wM ?_ | refine wR ?_ | refine wS ?_ | refine wB ?_ | refine wG ?_ | refine wD ?_ | refine wY ?_ | refine wZ ?_ | refine wK ?_ | refine wT ?_ | refine wX ?_)
  refine zF (step_call rfl rfl ((equalS_fn a.sig.sorts b.sig.sorts a.sig.fs b.sig.fs hs).cl)) ?_
  cases h1 : (((a.sig.sorts.length : Int) == (b.sig.sorts.length : Int)) && eqL strEq a.sig.sorts b.sig.sorts)
  case false =>
    repeat (first | refine zE ?_ | refine zP ?_ | refine zD ?_ | refine zQ ?_ | refine zR ?_ | refine zS ?_ | refine wN ?_ | refine wM ?_ | refine wR ?_ | refine wS ?_ | refine wB ?_ | refine wG ?_ | refine wD ?_ | refine wY ?_ | refine wZ ?_ | refine wK ?_ | refine wT ?_ | refine wX ?_)
    exact ⟨.inr rfl, _, rfl, rfl⟩
  repeat (first | refine zE ?_ | refine zP ?_ | refine zD ?_ | refine zQ ?_ | refine zR ?_ | refine zS ?_ | refine wN ?_ | refine wM ?_ | refine wR ?_ | refine wS ?_ | refine wB ?_ | refine wG ?_ | refine wD ?_ | refine wY ?_ | refine wZ ?_ | refine wK ?_ | refine wT ?_ | refine wX ?_)
  refine run_next rfl (step_call rfl rfl ((eqFO_fn a.sig.ops b.sig.ops a.sig.fo b.sig.fo 117 opSame ho rfl rfl (by decide) rfl fun x hx y hy => by
    obtain ⟨j, hj⟩ := List.getElem?_of_mem hx
    exact sameOP_fn x y (ha.sig.op j x hj).2).cl)) (by dsimp only [putTm, List.set]) ?_
  cases h2 : (((a.sig.ops.length : Int) == (b.sig.ops.length : Int)) && eqL opSame a.sig.ops b.sig.ops)
  case false =>
    repeat (first | refine zE ?_ | refine zP ?_ | refine zD ?_ | refine zQ ?_ | refine zR ?_ | refine zS ?_ | refine wN ?_ | refine wM ?_ | refine wR ?_ | refine wS ?_ | refine wB ?_ | refine wG ?_ | refine wD ?_ | refine wY ?_ | refine wZ ?_ | refine wK ?_ | refine wT ?_ | refine wX ?_)
    exact ⟨.inr rfl, _, rfl, rfl⟩
  repeat (first | refine zE ?_ | refine zP ?_ | refine zD ?_ | refine zQ ?_ | refine zR ?_ | refine zS ?_ | refine wN ?_ | refine wM ?_ | refine wR ?_ | refine wS ?_ | refine wB ?_ | refine wG ?_ | refine wD ?_ | refine wY ?_ | refine wZ ?_ | refine wK ?_ | refine wT ?_ | refine wX ?_)
  refine run_next rfl (step_call rfl rfl ((eqFE_fn a.eqns b.eqns a.fe b.fe 120 eqnSame hl rfl rfl (by decide) rfl fun x hx y hy => by
    obtain ⟨j, hj⟩ := List.getElem?_of_mem hx
    obtain ⟨q, hq⟩ := List.getElem?_of_mem hy
    exact sameEqnP_fn x y (ha.eqn j x hj) (hb.eqn q y hq)).cl)) (by dsimp only [putTm, List.set]) ?_
  repeat (first | refine zE ?_ | refine zP ?_ | refine zD ?_ | refine zQ ?_ | refine zR ?_ | refine zS ?_ | refine wN ?_ | refine wM ?_ | refine wR ?_ | refine wS ?_ | refine wB ?_ | refine wG ?_ | refine wD ?_ | refine wY ?_ | refine wZ ?_ | refine wK ?_ | refine wT ?_ | refine wX ?_)
  exact ⟨.inr rfl, _, rfl, rfl⟩
end Go.Av
