/- Contracts over the evaluator: types, terms renumbered. Conditions: none beyond the hypotheses of each theorem. -/
import Derived.Test.YtdjgjnahfekdhaaGreatDoorT5
set_option linter.unusedSectionVars false
set_option linter.unusedVariables false
set_option linter.unusedSimpArgs false
namespace Go.Av
open Go.Proofs
set_option maxRecDepth 100000
structure Ty.Fit (t : Ty) : Prop where
  sig : t.sig.Fit
  eqns : t.eqns.length ≤ 9223372036854775807
  eqn : ∀ (j : Nat) e, t.eqns[j]? = some e → e.Fit
noncomputable def typeB (t : Ty) : Bool := sigB t.sig && (!(decide ((t.eqns.length : Int) > 400)) && t.eqns.all (eqnB t.sig))
theorem F51 : cfg.F 51 = some Tryz.f51 := rfl
set_option maxHeartbeats 4000000 in
theorem is5_fn (t : Ty) (ht : t.Fit) : Fn 51 [.agg (yV t)] (.bool (typeB t)) := by
  unfold typeB
  have hl := ht.eqns
  refine Fn.of_wp F51 rfl ?_
  simp only [show Tryz.f51.ntmps = 34 from rfl, List.length_cons, List.length_nil, List.replicate, List.cons_append, List.nil_append]
  repeat (first | refine zE ?_ | refine zP ?_ | refine zD ?_ | refine zQ ?_ | refine zR ?_ | refine zS ?_ | refine wN ?_ | refine wM ?_ | refine wR ?_ | refine wS ?_ | refine wB ?_ | refine wG ?_ | refine wD ?_ | refine wY ?_ | refine wZ ?_ | refine wK ?_ | refine wT ?_ | refine wX ?_)
  refine zF (step_call rfl rfl ((isSig5_fn t.sig ht.sig).cl)) ?_
  repeat (first | refine zE ?_ | refine zP ?_ | refine zD ?_ | refine zQ ?_ | refine zR ?_ | refine zS ?_ | refine wN ?_ | refine wM ?_ | refine wR ?_ | refine wS ?_ | refine wB ?_ | refine wG ?_ | refine wD ?_ | refine wY ?_ | refine wZ ?_ | refine wK ?_ | refine wT ?_ | refine wX ?_)
  cases h1 : sigB t.sig
  · repeat (first | refine zE ?_ | refine zP ?_ | refine zD ?_ | refine zQ ?_ | refine zR ?_ | refine zS ?_ | refine wN ?_ | refine wM ?_ | refine wR ?_ | refine wS ?_ | refine wB ?_ | refine wG ?_ | refine wD ?_ | refine wY ?_ | refine wZ ?_ | refine wK ?_ | refine wT ?_ | refine wX ?_)
    exact ⟨.inr rfl, _, rfl, rfl⟩
  repeat (first | refine zE ?_ | refine zP ?_ | refine zD ?_ | refine zQ ?_ | refine zR ?_ | refine zS ?_ | refine wN ?_ | refine wM ?_ | refine wR ?_ | refine wS ?_ | refine wB ?_ | refine wG ?_ | refine wD ?_ | refine wY ?_ | refine wZ ?_ | refine wK ?_ | refine wT ?_ | refine wX ?_)
  cases h2 : decide ((t.eqns.length : Int) > 400)
  case true =>
    repeat (first | refine zE ?_ | refine zP ?_ | refine zD ?_ | refine zQ ?_ | refine zR ?_ | refine zS ?_ | refine wN ?_ | refine wM ?_ | refine wR ?_ | refine wS ?_ | refine wB ?_ | refine wG ?_ | refine wD ?_ | refine wY ?_ | refine wZ ?_ | refine wK ?_ | refine wT ?_ | refine wX ?_)
    exact ⟨.inr rfl, _, rfl, rfl⟩
  repeat (first | refine zE ?_ | refine zP ?_ | refine zD ?_ | refine zQ ?_ | refine zR ?_ | refine zS ?_ | refine wN ?_ | refine wM ?_ | refine wR ?_ | refine wS ?_ | refine wB ?_ | refine wG ?_ | refine wD ?_ | refine wY ?_ | refine wZ ?_ | refine wK ?_ | refine wT ?_ | refine wX ?_)
  refine wp_loop2 29 (fun i : Nat => [.agg (yV t), .bp 0 0, .bool false, .bool true, .int .i64 (i : Int)]) (fun i H => H = [.box (yV t)] ∧ i ≤ t.eqns.length ∧ ∀ j, j < i → ∀ x, t.eqns[j]? = some x → eqnB t.sig x = true) (fun i => t.eqns.length - i) 0 ⟨_, rfl, rfl, rfl, Nat.zero_le _, fun j hj => by omega⟩ ?_
  rintro i H d u ⟨rfl, hi, hb⟩
  (rw [show (List.range 29).map u = [u 0, u 1, u 2, u 3, u 4, u 5, u 6, u 7, u 8, u 9, u 10, u 11, u 12, u 13, u 14, u 15, u 16, u 17, u 18, u 19, u 20, u 21, u 22, u 23, u 24, u 25, u 26, u 27, u 28] from rfl]; simp only [List.cons_append, List.nil_append])
  repeat (first | refine zE ?_ | refine zP ?_ | refine zD ?_ | refine zQ ?_ | refine zR ?_ | refine zS ?_ | refine wN ?_ | refine wM ?_ | refine wR ?_ | refine wS ?_ | refine wB ?_ | refine wG ?_ | refine wD ?_ | refine wY ?_ | refine wZ ?_ | refine wK ?_ | refine wT ?_ | refine wX ?_)
  by_cases hlt : i < t.eqns.length
  · refine wp_yes rfl (decide_eq_true (by omega)) ?_
    obtain ⟨x, hx⟩ := get_of hlt
    repeat (first | refine zE ?_ | refine zP ?_ | refine zD ?_ | refine zQ ?_ | refine zR ?_ | refine zS ?_ | refine wN ?_ | refine wM ?_ | refine wR ?_ | refine wS ?_ | refine wB ?_ | refine wG ?_ | refine wD ?_ | refine wY ?_ | refine wZ ?_ | refine wK ?_ | refine wT ?_ | refine wX ?_)
    refine zG (step_idx rfl rfl rfl rfl rfl rfl ⟨by omega, by omega⟩ (drop_rows (k := 8) eV_len hx)) ?_
    refine zG (step_enc rfl rfl rfl (eV_len _) rfl) ?_
    refine zG (step_call rfl rfl ((isEqn_fn t.sig x ht.sig (ht.eqn i x hx)).cl)) ?_
    repeat (first | refine zE ?_ | refine zP ?_ | refine zD ?_ | refine zQ ?_ | refine zR ?_ | refine zS ?_ | refine wN ?_ | refine wM ?_ | refine wR ?_ | refine wS ?_ | refine wB ?_ | refine wG ?_ | refine wD ?_ | refine wY ?_ | refine wZ ?_ | refine wK ?_ | refine wT ?_ | refine wX ?_)
    cases h3 : eqnB t.sig x
    · rw [all_no hx h3]
      repeat (first | refine zE ?_ | refine zP ?_ | refine zD ?_ | refine zQ ?_ | refine zR ?_ | refine zS ?_ | refine wN ?_ | refine wM ?_ | refine wR ?_ | refine wS ?_ | refine wB ?_ | refine wG ?_ | refine wD ?_ | refine wY ?_ | refine wZ ?_ | refine wK ?_ | refine wT ?_ | refine wX ?_)
      exact ⟨.inr rfl, _, rfl, rfl⟩
    repeat (first | refine zE ?_ | refine zP ?_ | refine zD ?_ | refine zQ ?_ | refine zR ?_ | refine zS ?_ | refine wN ?_ | refine wM ?_ | refine wR ?_ | refine wS ?_ | refine wB ?_ | refine wG ?_ | refine wD ?_ | refine wY ?_ | refine wZ ?_ | refine wK ?_ | refine wT ?_ | refine wX ?_)
    rw [wrap_succ (by omega)]
    exact ⟨i + 1, _, rfl, rfl, ⟨rfl, hlt, below_succ hb fun y hy => by rw [hx] at hy; cases hy; exact h3⟩, (by first | omega | (dsimp only; omega))⟩
  refine wp_no rfl (decide_eq_false (by omega)) ?_
  rw [all_yes fun j hj x hx => hb j (by omega) x hx]
  repeat (first | refine zE ?_ | refine zP ?_ | refine zD ?_ | refine zQ ?_ | refine zR ?_ | refine zS ?_ | refine wN ?_ | refine wM ?_ | refine wR ?_ | refine wS ?_ | refine wB ?_ | refine wG ?_ | refine wD ?_ | refine wY ?_ | refine wZ ?_ | refine wK ?_ | refine wT ?_ | refine wX ?_)
  exact ⟨.inr rfl, _, rfl, rfl⟩
theorem F40 : cfg.F 40 = some Tryz.f40 := rfl
set_option maxHeartbeats 4000000 in
theorem check5_fn (t : Ty) (ht : t.Fit) : Fn 40 [.agg (yV t)] (.int .i64 (if typeB t then 0 else 5)) := by
  refine Fn.of_wp F40 rfl ?_
  simp only [show Tryz.f40.ntmps = 8 from rfl, List.length_cons, List.length_nil, List.replicate, List.cons_append, List.nil_append]
  repeat (first | refine zE ?_ | refine zP ?_ | refine zD ?_ | refine zQ ?_ | refine zR ?_ | refine zS ?_ | refine wN ?_ | refine wM ?_ | refine wR ?_ | refine wS ?_ | refine wB ?_ | refine wG ?_ | refine wD ?_ | refine wY ?_ | refine wZ ?_ | refine wK ?_ | refine wT ?_ | refine wX ?_)
  refine zF (step_call rfl rfl ((is5_fn t ht).cl)) ?_
  repeat (first | refine zE ?_ | refine zP ?_ | refine zD ?_ | refine zQ ?_ | refine zR ?_ | refine zS ?_ | refine wN ?_ | refine wM ?_ | refine wR ?_ | refine wS ?_ | refine wB ?_ | refine wG ?_ | refine wD ?_ | refine wY ?_ | refine wZ ?_ | refine wK ?_ | refine wT ?_ | refine wX ?_)
  cases h1 : typeB t
  · repeat (first | refine zE ?_ | refine zP ?_ | refine zD ?_ | refine zQ ?_ | refine zR ?_ | refine zS ?_ | refine wN ?_ | refine wM ?_ | refine wR ?_ | refine wS ?_ | refine wB ?_ | refine wG ?_ | refine wD ?_ | refine wY ?_ | refine wZ ?_ | refine wK ?_ | refine wT ?_ | refine wX ?_)
    exact ⟨.inr rfl, _, rfl, rfl⟩
  repeat (first | refine zE ?_ | refine zP ?_ | refine zD ?_ | refine zQ ?_ | refine zR ?_ | refine zS ?_ | refine wN ?_ | refine wM ?_ | refine wR ?_ | refine wS ?_ | refine wB ?_ | refine wG ?_ | refine wD ?_ | refine wY ?_ | refine wZ ?_ | refine wK ?_ | refine wT ?_ | refine wX ?_)
  exact ⟨.inr rfl, _, rfl, rfl⟩
def tySame (a b : Ty) : Bool := sigSame a.sig b.sig && (((a.eqns.length : Int) == (b.eqns.length : Int)) && eqL eqnSame a.eqns b.eqns)
theorem F33 : cfg.F 33 = some Tryz.f33 := rfl
set_option maxHeartbeats 4000000 in
theorem same5_fn (a b : Ty) (ha : a.Fit) (hb : b.Fit) : Fn 33 [.agg (yV a), .agg (yV b)] (.bool (tySame a b)) := by
  unfold tySame
  have hl := ha.eqns
  refine Fn.of_wp F33 rfl ?_
  simp only [show Tryz.f33.ntmps = 44 from rfl, List.length_cons, List.length_nil, List.replicate, List.cons_append, List.nil_append]
  repeat (first | refine zE ?_ | refine zP ?_ | refine zD ?_ | refine zQ ?_ | refine zR ?_ | refine zS ?_ | refine wN ?_ | refine wM ?_ | refine wR ?_ | refine wS ?_ | refine wB ?_ | refine wG ?_ | refine wD ?_ | refine wY ?_ | refine wZ ?_ | refine wK ?_ | refine wT ?_ | refine wX ?_)
  refine zF (step_call rfl rfl ((sameSig_fn a.sig b.sig ha.sig hb.sig).cl)) ?_
  repeat (first | refine zE ?_ | refine zP ?_ | refine zD ?_ | refine zQ ?_ | refine zR ?_ | refine zS ?_ | refine wN ?_ | refine wM ?_ | refine wR ?_ | refine wS ?_ | refine wB ?_ | refine wG ?_ | refine wD ?_ | refine wY ?_ | refine wZ ?_ | refine wK ?_ | refine wT ?_ | refine wX ?_)
  cases h1 : sigSame a.sig b.sig
  · repeat (first | refine zE ?_ | refine zP ?_ | refine zD ?_ | refine zQ ?_ | refine zR ?_ | refine zS ?_ | refine wN ?_ | refine wM ?_ | refine wR ?_ | refine wS ?_ | refine wB ?_ | refine wG ?_ | refine wD ?_ | refine wY ?_ | refine wZ ?_ | refine wK ?_ | refine wT ?_ | refine wX ?_)
    exact ⟨.inr rfl, _, rfl, rfl⟩
  repeat (first | refine zE ?_ | refine zP ?_ | refine zD ?_ | refine zQ ?_ | refine zR ?_ | refine zS ?_ | refine wN ?_ | refine wM ?_ | refine wR ?_ | refine wS ?_ | refine wB ?_ | refine wG ?_ | refine wD ?_ | refine wY ?_ | refine wZ ?_ | refine wK ?_ | refine wT ?_ | refine wX ?_)
  cases h2 : ((a.eqns.length : Int) == (b.eqns.length : Int))
  · have h2' : ((a.eqns.length : Int) != (b.eqns.length : Int)) = true := by rw [bne, h2]; rfl
    rw [h2']
    repeat (first | refine zE ?_ | refine zP ?_ | refine zD ?_ | refine zQ ?_ | refine zR ?_ | refine zS ?_ | refine wN ?_ | refine wM ?_ | refine wR ?_ | refine wS ?_ | refine wB ?_ | refine wG ?_ | refine wD ?_ | refine wY ?_ | refine wZ ?_ | refine wK ?_ | refine wT ?_ | refine wX ?_)
    exact ⟨.inr rfl, _, rfl, rfl⟩
  have h2' : ((a.eqns.length : Int) != (b.eqns.length : Int)) = false := by rw [bne, h2]; rfl
  have hll : a.eqns.length = b.eqns.length := by simp at h2; omega
  rw [h2']
  repeat (first | refine zE ?_ | refine zP ?_ | refine zD ?_ | refine zQ ?_ | refine zR ?_ | refine zS ?_ | refine wN ?_ | refine wM ?_ | refine wR ?_ | refine wS ?_ | refine wB ?_ | refine wG ?_ | refine wD ?_ | refine wY ?_ | refine wZ ?_ | refine wK ?_ | refine wT ?_ | refine wX ?_)
  refine wp_loop2 37 (fun i : Nat => [.agg (yV a), .agg (yV b), .bp 0 0, .bp 1 0, .bool false, .bool true, .int .i64 (i : Int)]) (fun i H => H = [.box (yV a), .box (yV b)] ∧ i ≤ a.eqns.length ∧ eqL eqnSame (a.eqns.drop i) (b.eqns.drop i) = eqL eqnSame a.eqns b.eqns) (fun i => a.eqns.length - i) 0 ⟨_, rfl, rfl, rfl, Nat.zero_le _, rfl⟩ ?_
  rintro i H d u ⟨rfl, hi, hc⟩
  (rw [show (List.range 37).map u = [u 0, u 1, u 2, u 3, u 4, u 5, u 6, u 7, u 8, u 9, u 10, u 11, u 12, u 13, u 14, u 15, u 16, u 17, u 18, u 19, u 20, u 21, u 22, u 23, u 24, u 25, u 26, u 27, u 28, u 29, u 30, u 31, u 32, u 33, u 34, u 35, u 36] from rfl]; simp only [List.cons_append, List.nil_append])
  repeat (first | refine zE ?_ | refine zP ?_ | refine zD ?_ | refine zQ ?_ | refine zR ?_ | refine zS ?_ | refine wN ?_ | refine wM ?_ | refine wR ?_ | refine wS ?_ | refine wB ?_ | refine wG ?_ | refine wD ?_ | refine wY ?_ | refine wZ ?_ | refine wK ?_ | refine wT ?_ | refine wX ?_)
  by_cases hlt : i < a.eqns.length
  · refine wp_yes rfl (decide_eq_true (by omega)) ?_
    obtain ⟨x, hx⟩ := get_of hlt
    obtain ⟨y, hy⟩ := get_of (show i < b.eqns.length by omega)
    rw [drop_of hx, drop_of hy, eqL] at hc
    repeat (first | refine zE ?_ | refine zP ?_ | refine zD ?_ | refine zQ ?_ | refine zR ?_ | refine zS ?_ | refine wN ?_ | refine wM ?_ | refine wR ?_ | refine wS ?_ | refine wB ?_ | refine wG ?_ | refine wD ?_ | refine wY ?_ | refine wZ ?_ | refine wK ?_ | refine wT ?_ | refine wX ?_)
    refine zG (step_idx rfl rfl rfl rfl rfl rfl ⟨by omega, by omega⟩ (drop_rows (k := 8) eV_len hx)) ?_
    refine zG (step_enc rfl rfl rfl (eV_len _) rfl) ?_
    repeat (first | refine zE ?_ | refine zP ?_ | refine zD ?_ | refine zQ ?_ | refine zR ?_ | refine zS ?_ | refine wN ?_ | refine wM ?_ | refine wR ?_ | refine wS ?_ | refine wB ?_ | refine wG ?_ | refine wD ?_ | refine wY ?_ | refine wZ ?_ | refine wK ?_ | refine wT ?_ | refine wX ?_)
    refine zG (step_idx rfl rfl rfl rfl rfl rfl ⟨by omega, by omega⟩ (drop_rows (k := 8) eV_len hy)) ?_
    refine zG (step_enc rfl rfl rfl (eV_len _) rfl) ?_
    refine zG (step_call rfl rfl ((sameEqn_fn x y (ha.eqn i x hx) (hb.eqn i y hy)).cl)) ?_
    repeat (first | refine zE ?_ | refine zP ?_ | refine zD ?_ | refine zQ ?_ | refine zR ?_ | refine zS ?_ | refine wN ?_ | refine wM ?_ | refine wR ?_ | refine wS ?_ | refine wB ?_ | refine wG ?_ | refine wD ?_ | refine wY ?_ | refine wZ ?_ | refine wK ?_ | refine wT ?_ | refine wX ?_)
    cases h3 : eqnSame x y
    · rw [h3, Bool.false_and] at hc
      rw [← hc]
      repeat (first | refine zE ?_ | refine zP ?_ | refine zD ?_ | refine zQ ?_ | refine zR ?_ | refine zS ?_ | refine wN ?_ | refine wM ?_ | refine wR ?_ | refine wS ?_ | refine wB ?_ | refine wG ?_ | refine wD ?_ | refine wY ?_ | refine wZ ?_ | refine wK ?_ | refine wT ?_ | refine wX ?_)
      exact ⟨.inr rfl, _, rfl, rfl⟩
    rw [h3, Bool.true_and] at hc
    repeat (first | refine zE ?_ | refine zP ?_ | refine zD ?_ | refine zQ ?_ | refine zR ?_ | refine zS ?_ | refine wN ?_ | refine wM ?_ | refine wR ?_ | refine wS ?_ | refine wB ?_ | refine wG ?_ | refine wD ?_ | refine wY ?_ | refine wZ ?_ | refine wK ?_ | refine wT ?_ | refine wX ?_)
    rw [wrap_succ (by omega)]
    exact ⟨i + 1, _, rfl, rfl, ⟨rfl, hlt, hc⟩, (by first | omega | (dsimp only; omega))⟩
  refine wp_no rfl (decide_eq_false (by omega)) ?_
  have hil : i = a.eqns.length := by omega
  subst hil
  rw [List.drop_length, eqL] at hc
  rw [← hc]
  repeat (first | refine zE ?_ | refine zP ?_ | refine zD ?_ | refine zQ ?_ | refine zR ?_ | refine zS ?_ | refine wN ?_ | refine wM ?_ | refine wR ?_ | refine wS ?_ | refine wB ?_ | refine wG ?_ | refine wD ?_ | refine wY ?_ | refine wZ ?_ | refine wK ?_ | refine wT ?_ | refine wX ?_)
  exact ⟨.inr rfl, _, rfl, rfl⟩
end Go.Av
namespace Go.Av
open Go.Proofs
set_option maxRecDepth 100000
mutual
def renT (vs : List Int) : T → T
  | .mk k n f l => if k = 1 then (if vs.contains n then .mk 1 (vs.idxOf n : Nat) true [] else .mk k n f l) else .mk k n (renL vs l).isEmpty (renL vs l)
def renL (vs : List Int) : List T → List T
  | [] => []
  | t :: l => renT vs t :: renL vs l
end
theorem renL_map (vs : List Int) : ∀ l : List T, renL vs l = l.map (renT vs)
  | [] => rfl
  | t :: l => by rw [renL, List.map_cons, renL_map vs l]
theorem map_take {α β : Type} (g : α → β) {l : List α} {i : Nat} {x : α} (h : l[i]? = some x) : (l.take (i + 1)).map g = (l.take i).map g ++ [g x] := by
  rw [List.take_add_one, h, List.map_append]; rfl
theorem idx_first {vs : List Int} {n : Int} : ∀ {i : Nat}, vs[i]? = some n → (∀ j, j < i → vs[j]? ≠ some n) → vs.idxOf n = i := by
  intro i hi hn
  have hm := List.mem_of_getElem? hi
  have h1 : vs.idxOf n < vs.length := List.idxOf_lt_length_iff.2 hm
  have h2 : vs[vs.idxOf n]? = some n := by rw [List.getElem?_eq_getElem h1, List.getElem_idxOf h1]
  rcases Nat.lt_trichotomy (vs.idxOf n) i with h | h | h
  · exact absurd h2 (hn _ h)
  · exact h
  · have h3 : vs.findIdx (· == n) ≤ i := by
      have hl := (List.getElem?_eq_some_iff.1 hi).1
      have he := (List.getElem?_eq_some_iff.1 hi).2
      apply Nat.le_of_not_lt
      intro hc
      have := List.not_of_lt_findIdx (p := (· == n)) (xs := vs) hc
      simp [he] at this
    have : vs.idxOf n = vs.findIdx (· == n) := rfl
    omega
theorem slOf_mk (k n : Int) (l : List T) : V.agg [.int .i64 k, .int .i64 n, slOf tV l] = .agg (tV (.mk k n l.isEmpty l)) := by rw [tV_mk]; rfl
theorem F194 : cfg.F 194 = some Tryz.f194 := rfl
set_option maxHeartbeats 8000000 in
theorem renum_fn (vs : List Int) (fv : Bool) (hv : vs.length ≤ 1000000) : ∀ (t : T), t.Fit → nodeT t = true → Fn 194 [.agg (tV t), .sl vs.length fv (ints vs)] (.agg (tV (renT vs t))) := by
  refine T_ind ?_
  intro k n f l ih hfit hnode
  rw [T.Fit] at hfit
  obtain ⟨hn0, hk, hk1, hl8, hch⟩ := nodeT_mk hnode
  rw [tV_mk, renT]
  refine Fn.of_wp F194 rfl ?_
  simp only [show Tryz.f194.ntmps = 52 from rfl, List.length_cons, List.length_nil, List.replicate, List.cons_append, List.nil_append]
  repeat (first | refine zE ?_ | refine zP ?_ | refine zD ?_ | refine zQ ?_ | refine zR ?_ | refine zS ?_ | refine wN ?_ | refine wM ?_ | refine wR ?_ | refine wS ?_ | refine wB ?_ | refine wG ?_ | refine wD ?_ | refine wY ?_ | refine wZ ?_ | refine wK ?_ | refine wT ?_ | refine wX ?_)
  cases h1 : (k == 1)
  case true =>
    have hk' : k = 1 := by simpa using h1
    rw [if_pos hk']
    repeat (first | refine zE ?_ | refine zP ?_ | refine zD ?_ | refine zQ ?_ | refine zR ?_ | refine zS ?_ | refine wN ?_ | refine wM ?_ | refine wR ?_ | refine wS ?_ | refine wB ?_ | refine wG ?_ | refine wD ?_ | refine wY ?_ | refine wZ ?_ | refine wK ?_ | refine wT ?_ | refine wX ?_)
    refine wp_loop2 46 (fun i : Nat => [.agg [.int .i64 k, .int .i64 n, .sl l.length f (rows tV l)], .sl vs.length fv (ints vs), .bp 0 0, .junk, .bp 1 0, .int .i64 (i : Int)]) (fun i H => H = [.box [.int .i64 k, .int .i64 n, .sl l.length f (rows tV l)], .box [.int .i64 0, .int .i64 0, .sl 0 true []]] ∧ i ≤ vs.length ∧ ∀ j, j < i → vs[j]? ≠ some n) (fun i => vs.length - i) 0 ⟨_, rfl, rfl, rfl, Nat.zero_le _, fun j hj => by omega⟩ ?_
    rintro i H d u ⟨rfl, hi, hb⟩
    (rw [show (List.range 46).map u = [u 0, u 1, u 2, u 3, u 4, u 5, u 6, u 7, u 8, u 9, u 10, u 11, u 12, u 13, u 14, u 15, u 16, u 17, u 18, u 19, u 20, u 21, u 22, u 23, u 24, u 25, u 26, u 27, u 28, u 29, u 30, u 31, u 32, u 33, u 34, u 35, u 36, u 37, u 38, u 39, u 40, u 41, u 42, u 43, u 44, u 45] from rfl]; simp only [List.cons_append, List.nil_append])
    repeat (first | refine zE ?_ | refine zP ?_ | refine zD ?_ | refine zQ ?_ | refine zR ?_ | refine zS ?_ | refine wN ?_ | refine wM ?_ | refine wR ?_ | refine wS ?_ | refine wB ?_ | refine wG ?_ | refine wD ?_ | refine wY ?_ | refine wZ ?_ | refine wK ?_ | refine wT ?_ | refine wX ?_)
    by_cases hlt : i < vs.length
    · refine wp_yes rfl (decide_eq_true (by omega)) ?_
      obtain ⟨x, hx⟩ := get_of hlt
      repeat (first | refine zE ?_ | refine zP ?_ | refine zD ?_ | refine zQ ?_ | refine zR ?_ | refine zS ?_ | refine wN ?_ | refine wM ?_ | refine wR ?_ | refine wS ?_ | refine wB ?_ | refine wG ?_ | refine wD ?_ | refine wY ?_ | refine wZ ?_ | refine wK ?_ | refine wT ?_ | refine wX ?_)
      refine zG (step_idx rfl rfl rfl rfl rfl rfl ⟨by omega, by omega⟩ (drop_rows (k := 1) (fun _ => rfl) hx)) ?_
      repeat (first | refine zE ?_ | refine zP ?_ | refine zD ?_ | refine zQ ?_ | refine zR ?_ | refine zS ?_ | refine wN ?_ | refine wM ?_ | refine wR ?_ | refine wS ?_ | refine wB ?_ | refine wG ?_ | refine wD ?_ | refine wY ?_ | refine wZ ?_ | refine wK ?_ | refine wT ?_ | refine wX ?_)
      cases h2 : (x == n)
      · repeat (first | refine zE ?_ | refine zP ?_ | refine zD ?_ | refine zQ ?_ | refine zR ?_ | refine zS ?_ | refine wN ?_ | refine wM ?_ | refine wR ?_ | refine wS ?_ | refine wB ?_ | refine wG ?_ | refine wD ?_ | refine wY ?_ | refine wZ ?_ | refine wK ?_ | refine wT ?_ | refine wX ?_)
        rw [wrap_succ (by omega)]
        exact ⟨i + 1, _, rfl, rfl, ⟨rfl, hlt, below_succ hb fun e => by rw [hx] at e; cases e; simp at h2⟩, (by first | omega | (dsimp only; omega))⟩
      have hxn : x = n := by simpa using h2
      subst hxn
      repeat (first | refine zE ?_ | refine zP ?_ | refine zD ?_ | refine zQ ?_ | refine zR ?_ | refine zS ?_ | refine wN ?_ | refine wM ?_ | refine wR ?_ | refine wS ?_ | refine wB ?_ | refine wG ?_ | refine wD ?_ | refine wY ?_ | refine wZ ?_ | refine wK ?_ | refine wT ?_ | refine wX ?_)
      rw [contains_yes hx, if_pos rfl, idx_first hx hb, tV_mk]
      exact ⟨.inr rfl, .agg [.int .i64 1, .int .i64 (i : Int), .sl 0 true []], rfl, strip_flat (by simp [V.flat, V.flats])⟩
    refine wp_no rfl (decide_eq_false (by omega)) ?_
    repeat (first | refine zE ?_ | refine zP ?_ | refine zD ?_ | refine zQ ?_ | refine zR ?_ | refine zS ?_ | refine wN ?_ | refine wM ?_ | refine wR ?_ | refine wS ?_ | refine wB ?_ | refine wG ?_ | refine wD ?_ | refine wY ?_ | refine wZ ?_ | refine wK ?_ | refine wT ?_ | refine wX ?_)
    rw [contains_no fun j hj => hb j (by omega), if_neg (by simp), tV_mk]
    exact ⟨.inr rfl, .agg [.int .i64 k, .int .i64 n, .sl l.length f (rows tV l)], rfl, strip_flat (by simp [V.flat, V.flats, flats_rows flat_tV])⟩
  have hk' : ¬ k = 1 := by simpa using h1
  rw [if_neg hk', renL_map]
  repeat (first | refine zE ?_ | refine zP ?_ | refine zD ?_ | refine zQ ?_ | refine zR ?_ | refine zS ?_ | refine wN ?_ | refine wM ?_ | refine wR ?_ | refine wS ?_ | refine wB ?_ | refine wG ?_ | refine wD ?_ | refine wY ?_ | refine wZ ?_ | refine wK ?_ | refine wT ?_ | refine wX ?_)
  refine wp_loop3 44 (fun i : Nat => [.agg [.int .i64 k, .int .i64 n, .sl l.length f (rows tV l)], .sl vs.length fv (ints vs), .bp 0 0, .junk, .bp 1 0, .junk, .bp 2 0, .int .i64 (i : Int)]) (fun i H d => i ≤ l.length ∧ H[0]? = some (.box [.int .i64 k, .int .i64 n, .sl l.length f (rows tV l)]) ∧ H[1]? = some (.box [.int .i64 0, .int .i64 0, .sl 0 true []]) ∧ ∃ v, H[2]? = some (.box [.int .i64 k, .int .i64 n, v]) ∧ Rep tV 3 H 0 ((l.take i).map (renT vs)) v) (fun i => l.length - i) 0 ⟨_, rfl, rfl, Nat.zero_le _, rfl, rfl, _, rfl, Rep.nil⟩ ?_
  rintro i H d u ⟨hi, hb0, hb1, v, hb2, hrep⟩
  (rw [show (List.range 44).map u = [u 0, u 1, u 2, u 3, u 4, u 5, u 6, u 7, u 8, u 9, u 10, u 11, u 12, u 13, u 14, u 15, u 16, u 17, u 18, u 19, u 20, u 21, u 22, u 23, u 24, u 25, u 26, u 27, u 28, u 29, u 30, u 31, u 32, u 33, u 34, u 35, u 36, u 37, u 38, u 39, u 40, u 41, u 42, u 43] from rfl]; simp only [List.cons_append, List.nil_append])
  repeat (first | refine zL hb0 ?_ | refine zM hb0 ?_ | refine zO hb0 ?_ | refine zE ?_ | refine zP ?_ | refine zD ?_ | refine zQ ?_ | refine zR ?_ | refine zS ?_ | refine wN ?_ | refine wM ?_ | refine wR ?_ | refine wS ?_ | refine wB ?_ | refine wG ?_ | refine wD ?_ | refine wY ?_ | refine wZ ?_ | refine wK ?_ | refine wT ?_ | refine wX ?_)
  by_cases hlt : i < l.length
  · refine wp_yes rfl (decide_eq_true (by omega)) ?_
    obtain ⟨x, hx⟩ := get_of hlt
    have hmem := List.mem_of_getElem? hx
    repeat (first | refine zL hb0 ?_ | refine zM hb0 ?_ | refine zO hb0 ?_ | refine zL hb2 ?_ | refine zM hb2 ?_ | refine zO hb2 ?_ | refine zE ?_ | refine zP ?_ | refine zD ?_ | refine zQ ?_ | refine zR ?_ | refine zS ?_ | refine wN ?_ | refine wM ?_ | refine wR ?_ | refine wS ?_ | refine wB ?_ | refine wG ?_ | refine wE ?_ | refine wY ?_ | refine wZ ?_ | refine wK ?_ | refine wT ?_ | refine wX ?_)
    refine zH (step_idx rfl rfl rfl rfl rfl rfl ⟨by omega, by omega⟩ (drop_rows (k := 3) tV_len hx)) ?_
    refine zH (step_enc rfl rfl rfl (tV_len _) rfl) ?_
    repeat (first | refine zL hb0 ?_ | refine zM hb0 ?_ | refine zO hb0 ?_ | refine zE ?_ | refine zP ?_ | refine zD ?_ | refine zQ ?_ | refine zR ?_ | refine zS ?_ | refine wN ?_ | refine wM ?_ | refine wR ?_ | refine wS ?_ | refine wB ?_ | refine wG ?_ | refine wE ?_ | refine wY ?_ | refine wZ ?_ | refine wK ?_ | refine wT ?_ | refine wX ?_)
    refine zH (step_call rfl rfl ((ih x hmem (hfit.2.at hmem) (hch x hmem)).cl)) ?_
    obtain ⟨D, v', H', c, hD, hr, ha⟩ := append_rep (fid := 194) (dst := 49) (tt := 60) tV_len (by decide) tV_one rfl rfl rfl rfl (by decide) rfl hrep [renT vs x] (by simp) (by simp; omega) (Nat.zero_le _) true 1 rfl
    have hmt := map_take (renT vs) hx
    generalize renT vs x = y at *
    obtain ⟨k3, n3, f3, l3⟩ := y
    repeat (first | refine zL hb0 ?_ | refine zM hb0 ?_ | refine zO hb0 ?_ | refine zE ?_ | refine zP ?_ | refine zD ?_ | refine zQ ?_ | refine zR ?_ | refine zS ?_ | refine wN ?_ | refine wM ?_ | refine wR ?_ | refine wS ?_ | refine wB ?_ | refine wG ?_ | refine wE ?_ | refine wY ?_ | refine wZ ?_ | refine wK ?_ | refine wT ?_ | refine wX ?_)
    refine zH (step_append rfl rfl rfl rfl hD (hr _ rfl)) ?_
    repeat (first | refine zL hb0 ?_ | refine zM hb0 ?_ | refine zO hb0 ?_ | refine zE ?_ | refine zP ?_ | refine zD ?_ | refine zQ ?_ | refine zR ?_ | refine zS ?_ | refine wN ?_ | refine wM ?_ | refine wR ?_ | refine wS ?_ | refine wB ?_ | refine wG ?_ | refine wE ?_ | refine wY ?_ | refine wZ ?_ | refine wK ?_ | refine wT ?_ | refine wX ?_)
    have hb2' : H'[2]? = some (.box [.int .i64 k, .int .i64 n, v]) := by rw [ha.same 2 (get_lt hb2) (hrep.apart hb2)]; exact hb2
    refine runR_store rfl rfl rfl rfl rfl ha.rep.solid (by rw [ha.rep.cells]; rfl) hb2' (by rw [ha.rep.cells]; rfl) (by dsimp only [putTm, List.set]) ?_
    intro H2 hl2 hs2 ho2
    repeat (first | refine zL hb0 ?_ | refine zM hb0 ?_ | refine zO hb0 ?_ | refine zE ?_ | refine zP ?_ | refine zD ?_ | refine zQ ?_ | refine zR ?_ | refine zS ?_ | refine wN ?_ | refine wM ?_ | refine wR ?_ | refine wS ?_ | refine wB ?_ | refine wG ?_ | refine wE ?_ | refine wY ?_ | refine wZ ?_ | refine wK ?_ | refine wT ?_ | refine wX ?_)
    rw [wrap_succ (by omega)]
    refine ⟨i + 1, _, rfl, rfl, ⟨hlt, ?_, ?_, v', hs2, ?_⟩, (by first | omega | (dsimp only; omega))⟩
    · rw [ho2 0 (by decide), ha.same 0 (get_lt hb0) (hrep.apart hb0)]; exact hb0
    · rw [ho2 1 (by decide), ha.same 1 (get_lt hb1) (hrep.apart hb1)]; exact hb1
    · rw [hmt]
      exact ha.rep.heap fun j hj => ho2 j (by rintro rfl; exact ha.rep.apart hb2' hj)
  refine wp_no rfl (decide_eq_false (by omega)) ?_
  have hil : i = l.length := by omega
  subst hil
  rw [List.take_length] at hrep
  repeat (first | refine zL hb2 ?_ | refine zM hb2 ?_ | refine zO hb2 ?_ | refine zE ?_ | refine zP ?_ | refine zD ?_ | refine zQ ?_ | refine zR ?_ | refine zS ?_ | refine wN ?_ | refine wM ?_ | refine wR ?_ | refine wS ?_ | refine wB ?_ | refine wG ?_ | refine wD ?_ | refine wY ?_ | refine wZ ?_ | refine wK ?_ | refine wT ?_ | refine wX ?_)
  refine run_store (v := .agg [.int .i64 k, .int .i64 n, v]) rfl rfl rfl rfl rfl (by show (true && (true && (v.one && true))) = true; rw [hrep.one]; rfl) rfl hb1 (cs' := [.int .i64 k, .int .i64 n, v]) rfl (by dsimp only [putTm, List.set]) ?_
  intro H2 hl2 hs2 ho2
  repeat (first | refine zE ?_ | refine zP ?_ | refine zD ?_ | refine zQ ?_ | refine zR ?_ | refine zS ?_ | refine wN ?_ | refine wM ?_ | refine wR ?_ | refine wS ?_ | refine wB ?_ | refine wG ?_ | refine wD ?_ | refine wY ?_ | refine wZ ?_ | refine wK ?_ | refine wT ?_ | refine wX ?_)
  refine ⟨.inr rfl, .agg [.int .i64 k, .int .i64 n, v], results_cell rfl rfl rfl hs2 rfl, ?_⟩
  rw [← slOf_mk]
  have hrep2 : Rep tV 3 H2 0 (l.map (renT vs)) v := hrep.heap fun j hj => ho2 j (by rintro rfl; exact hrep.apart hb1 hj)
  exact strip_agg (strips_cons rfl (strips_cons rfl (strips_cons (hrep2.strips tV_len flat_tV) rfl)))
end Go.Av
