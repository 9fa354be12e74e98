/- Contracts over the evaluator: comparisons of lists. Conditions: none beyond the hypotheses of each theorem. -/
import Derived.Test.YtdjgjnahfekdhaaGreatDoorU1
import Derived.Test.YtdjgjnahfekdhaaGreatDoorT6
import Derived.Test.YtdjgjnahfekdhaaGreatDoorT7
set_option linter.unusedSectionVars false
set_option linter.unusedVariables false
set_option linter.unusedSimpArgs false
namespace Go.Av
open Go.Proofs
set_option maxRecDepth 100000
theorem splice_full {cs new : List V} (h : cs.length = new.length) : splice cs 0 new = some new := by
  unfold splice
  rw [if_pos (by omega)]
  simp [h]
theorem part_full {i : TI} {cs : List V} (h1 : i.agg = true) (h2 : i.size = cs.length) : part i cs 0 = some (.agg cs) := by
  unfold part
  rw [if_pos (by omega), h1, h2]
  simp
theorem oV_len' (o : O) : (oV o).length = 3 := rfl
theorem oV_one' (o : O) : (oV o).all V.one = true := rfl
theorem F240 : cfg.F 240 = some Tryz.f240 := rfl
set_option maxHeartbeats 4000000 in
theorem eqFT_fn (l m : List T) (f g : Bool) (p : FuncId) (pr : T → T → Bool) (hl : l.length ≤ 9223372036854775807) (hprim : cfg.prim p = none) (hbody : ((cfg.F p).bind (·.body)).isSome = true) (hg : p ≠ 102) (hk : cfg.keep p = false)
    (hp : ∀ x, x ∈ l → ∀ y, y ∈ m → Fn p [.agg (tV x), .agg (tV y)] (.bool (pr x y))) : Fn 240 [.sl l.length f (rows tV l), .sl m.length g (rows tV m), .fn p []] (.bool (((l.length : Int) == (m.length : Int)) && eqL pr l m)) := by
  refine Fn.of_wp F240 rfl ?_
  simp only [show Tryz.f240.ntmps = 32 from rfl, List.length_cons, List.length_nil, List.replicate, List.cons_append, List.nil_append]
  repeat (first | refine zE ?_ | refine zP ?_ | refine zD ?_ | refine zQ ?_ | refine zR ?_ | refine zS ?_ | refine wN ?_ | refine wM ?_ | refine wR ?_ | refine wS ?_ | refine wB ?_ | refine wG ?_ | refine wD ?_ | refine wY ?_ | refine wZ ?_ | refine wK ?_ | refine wT ?_ | refine wX ?_)
  cases h1 : ((l.length : Int) == (m.length : Int))
  · have h1' : ((l.length : Int) != (m.length : Int)) = true := by rw [bne, h1]; rfl
    rw [h1']
    repeat (first | refine zE ?_ | refine zP ?_ | refine zD ?_ | refine zQ ?_ | refine zR ?_ | refine zS ?_ | refine wN ?_ | refine wM ?_ | refine wR ?_ | refine wS ?_ | refine wB ?_ | refine wG ?_ | refine wD ?_ | refine wY ?_ | refine wZ ?_ | refine wK ?_ | refine wT ?_ | refine wX ?_)
    exact ⟨.inr rfl, _, rfl, rfl⟩
  have h1' : ((l.length : Int) != (m.length : Int)) = false := by rw [bne, h1]; rfl
  have hlen : l.length = m.length := by have : (l.length : Int) = m.length := by simpa using h1
                                        omega
  rw [h1', Bool.true_and]
  repeat (first | refine zE ?_ | refine zP ?_ | refine zD ?_ | refine zQ ?_ | refine zR ?_ | refine zS ?_ | refine wN ?_ | refine wM ?_ | refine wR ?_ | refine wS ?_ | refine wB ?_ | refine wG ?_ | refine wD ?_ | refine wY ?_ | refine wZ ?_ | refine wK ?_ | refine wT ?_ | refine wX ?_)
  refine wp_loop3 14 (fun a : Nat × V × V × V => [.sl l.length f (rows tV l), .sl m.length g (rows tV m), .fn p [], .junk, .junk, .junk, .bool false, a.2.1, a.2.2.1, a.2.2.2, .sl l.length f (rows tV l), .int .i64 (l.length : Int), .sl m.length g (rows tV m), .int .i64 (m.length : Int), .bool false, .sl l.length f (rows tV l), .int .i64 (l.length : Int), .int .i64 (a.1 : Int)])
    (fun a H d => a.1 ≤ l.length ∧ eqL pr (l.drop a.1) (m.drop a.1) = eqL pr l m) (fun a => l.length - a.1) (0, .junk, .junk, .junk) ⟨_, rfl, rfl, Nat.zero_le _, rfl⟩ ?_
  rintro ⟨i, v7, v8, v9⟩ H d u ⟨hi, hc⟩
  dsimp only at hi hc ⊢
  (rw [show (List.range 14).map u = [u 0, u 1, u 2, u 3, u 4, u 5, u 6, u 7, u 8, u 9, u 10, u 11, u 12, u 13] from rfl]; simp only [List.cons_append, List.nil_append])
  repeat (first | refine zE ?_ | refine zP ?_ | refine zD ?_ | refine zQ ?_ | refine zR ?_ | refine zS ?_ | refine wN ?_ | refine wM ?_ | refine wR ?_ | refine wS ?_ | refine wB ?_ | refine wG ?_ | refine wD ?_ | refine wY ?_ | refine wZ ?_ | refine wK ?_ | refine wT ?_ | refine wX ?_)
  by_cases hlt : i < l.length
  · refine wp_yes rfl (decide_eq_true (by omega)) ?_
    obtain ⟨x, hx⟩ := get_of hlt
    obtain ⟨y, hy⟩ := get_of (show i < m.length by omega)
    have hmx := List.mem_of_getElem? hx
    have hmy := List.mem_of_getElem? hy
    rw [drop_of hx, drop_of hy, eqL] at hc
    repeat (first | refine zE ?_ | refine zP ?_ | refine zD ?_ | refine zQ ?_ | refine zR ?_ | refine zS ?_ | refine wN ?_ | refine wM ?_ | refine wR ?_ | refine wS ?_ | refine wB ?_ | refine wG ?_ | refine wD ?_ | refine wY ?_ | refine wZ ?_ | refine wK ?_ | refine wT ?_ | refine wX ?_)
    refine zF (step_idx rfl rfl rfl rfl rfl rfl ⟨by omega, by omega⟩ (drop_rows (k := 3) tV_len hx)) ?_
    refine zF (step_enc rfl rfl rfl (tV_len _) rfl) ?_
    refine run_new rfl rfl (fun m => (by dsimp only [putTm, List.set])) ?_
    intro m8 H4 hm8 hl4 hb4 hold4
    repeat (first | refine zE ?_ | refine zP ?_ | refine zD ?_ | refine zQ ?_ | refine zR ?_ | refine zS ?_ | refine wN ?_ | refine wM ?_ | refine wR ?_ | refine wS ?_ | refine wB ?_ | refine wG ?_ | refine wD ?_ | refine wY ?_ | refine wZ ?_ | refine wK ?_ | refine wT ?_ | refine wX ?_)
    refine run_store (v := .agg (tV x)) rfl rfl rfl rfl rfl (tV_one x) (tV_len x) hb4 (cs' := tV x) (splice_full (tV_len x).symm) (by dsimp only [putTm, List.set]) ?_
    intro H5 hl5 hb5 ho5
    repeat (first | refine zE ?_ | refine zP ?_ | refine zD ?_ | refine zQ ?_ | refine zR ?_ | refine zS ?_ | refine wN ?_ | refine wM ?_ | refine wR ?_ | refine wS ?_ | refine wB ?_ | refine wG ?_ | refine wD ?_ | refine wY ?_ | refine wZ ?_ | refine wK ?_ | refine wT ?_ | refine wX ?_)
    refine zF (step_idx rfl rfl rfl rfl rfl rfl ⟨by omega, by omega⟩ (drop_rows (k := 3) tV_len hy)) ?_
    refine zF (step_enc rfl rfl rfl (tV_len _) rfl) ?_
    refine run_new rfl rfl (fun m => (by dsimp only [putTm, List.set])) ?_
    intro m9 H6 hm9 hl6 hb6 hold6
    refine run_store (v := .agg (tV y)) rfl rfl rfl rfl rfl (tV_one y) (tV_len y) hb6 (cs' := tV y) (splice_full (tV_len y).symm) (by dsimp only [putTm, List.set]) ?_
    intro H7 hl7 hb7 ho7
    have hb57 : H7[m8]? = some (.box (tV x)) := by rw [ho7 m8 (by omega), hold6 m8 (by omega)]; exact hb5
    repeat (first | refine zE ?_ | refine zP ?_ | refine zD ?_ | refine zQ ?_ | refine zR ?_ | refine zS ?_ | refine wN ?_ | refine wM ?_ | refine wR ?_ | refine wS ?_ | refine wB ?_ | refine wG ?_ | refine wD ?_ | refine wY ?_ | refine wZ ?_ | refine wK ?_ | refine wT ?_ | refine wX ?_)
    refine zF (step_load (v := .agg (tV x)) rfl rfl rfl hb57 (part_full rfl (tV_len x).symm)) ?_
    refine zF (step_load (v := .agg (tV y)) rfl rfl rfl hb7 (part_full rfl (tV_len y).symm)) ?_
    refine zF (step_call (ev_callv rfl rfl rfl rfl hprim hbody) rfl ((hp x hmx y hmy).call hg hk (by simp [V.flats, V.flat, flat_tV, flat_sV, flat_ints, flat_oV, flat_eV, flat_yV, flat_cV, flat_strs, flats_rows flat_tV, flats_rows flat_cV, flats_rows flat_oV, flats_rows flat_eV, flats_rows flat_yV]) _)) ?_
    repeat (first | refine zE ?_ | refine zP ?_ | refine zD ?_ | refine zQ ?_ | refine zR ?_ | refine zS ?_ | refine wN ?_ | refine wM ?_ | refine wR ?_ | refine wS ?_ | refine wB ?_ | refine wG ?_ | refine wD ?_ | refine wY ?_ | refine wZ ?_ | refine wK ?_ | refine wT ?_ | refine wX ?_)
    cases h2 : pr x y
    · rw [h2, Bool.false_and] at hc
      rw [← hc]
      repeat (first | refine zE ?_ | refine zP ?_ | refine zD ?_ | refine zQ ?_ | refine zR ?_ | refine zS ?_ | refine wN ?_ | refine wM ?_ | refine wR ?_ | refine wS ?_ | refine wB ?_ | refine wG ?_ | refine wD ?_ | refine wY ?_ | refine wZ ?_ | refine wK ?_ | refine wT ?_ | refine wX ?_)
      exact ⟨.inr rfl, _, rfl, rfl⟩
    rw [h2, Bool.true_and] at hc
    repeat (first | refine zE ?_ | refine zP ?_ | refine zD ?_ | refine zQ ?_ | refine zR ?_ | refine zS ?_ | refine wN ?_ | refine wM ?_ | refine wR ?_ | refine wS ?_ | refine wB ?_ | refine wG ?_ | refine wD ?_ | refine wY ?_ | refine wZ ?_ | refine wK ?_ | refine wT ?_ | refine wX ?_)
    rw [wrap_succ (by omega)]
    exact ⟨(i + 1, .int .i64 (i : Int), .bp m8 0, .bp m9 0), _, rfl, rfl, ⟨hlt, hc⟩, (by first | omega | (dsimp only; omega))⟩
  · refine wp_no rfl (decide_eq_false (by omega)) ?_
    have hil : i = l.length := by omega
    subst hil
    rw [List.drop_length, eqL] at hc
    rw [← hc]
    repeat (first | refine zE ?_ | refine zP ?_ | refine zD ?_ | refine zQ ?_ | refine zR ?_ | refine zS ?_ | refine wN ?_ | refine wM ?_ | refine wR ?_ | refine wS ?_ | refine wB ?_ | refine wG ?_ | refine wD ?_ | refine wY ?_ | refine wZ ?_ | refine wK ?_ | refine wT ?_ | refine wX ?_)
    exact ⟨.inr rfl, _, rfl, rfl⟩
theorem F119 : cfg.F 119 = some Tryz.f119 := rfl
set_option maxHeartbeats 4000000 in
theorem eqFO_fn (l m : List O) (f g : Bool) (p : FuncId) (pr : O → O → Bool) (hl : l.length ≤ 9223372036854775807) (hprim : cfg.prim p = none) (hbody : ((cfg.F p).bind (·.body)).isSome = true) (hg : p ≠ 102) (hk : cfg.keep p = false)
    (hp : ∀ x, x ∈ l → ∀ y, y ∈ m → Fn p [.agg (oV x), .agg (oV y)] (.bool (pr x y))) : Fn 119 [.sl l.length f (rows oV l), .sl m.length g (rows oV m), .fn p []] (.bool (((l.length : Int) == (m.length : Int)) && eqL pr l m)) := by
  refine Fn.of_wp F119 rfl ?_
  simp only [show Tryz.f119.ntmps = 32 from rfl, List.length_cons, List.length_nil, List.replicate, List.cons_append, List.nil_append]
  repeat (first | refine zE ?_ | refine zP ?_ | refine zD ?_ | refine zQ ?_ | refine zR ?_ | refine zS ?_ | refine wN ?_ | refine wM ?_ | refine wR ?_ | refine wS ?_ | refine wB ?_ | refine wG ?_ | refine wD ?_ | refine wY ?_ | refine wZ ?_ | refine wK ?_ | refine wT ?_ | refine wX ?_)
  cases h1 : ((l.length : Int) == (m.length : Int))
  · have h1' : ((l.length : Int) != (m.length : Int)) = true := by rw [bne, h1]; rfl
    rw [h1']
    repeat (first | refine zE ?_ | refine zP ?_ | refine zD ?_ | refine zQ ?_ | refine zR ?_ | refine zS ?_ | refine wN ?_ | refine wM ?_ | refine wR ?_ | refine wS ?_ | refine wB ?_ | refine wG ?_ | refine wD ?_ | refine wY ?_ | refine wZ ?_ | refine wK ?_ | refine wT ?_ | refine wX ?_)
    exact ⟨.inr rfl, _, rfl, rfl⟩
  have h1' : ((l.length : Int) != (m.length : Int)) = false := by rw [bne, h1]; rfl
  have hlen : l.length = m.length := by have : (l.length : Int) = m.length := by simpa using h1
                                        omega
  rw [h1', Bool.true_and]
  repeat (first | refine zE ?_ | refine zP ?_ | refine zD ?_ | refine zQ ?_ | refine zR ?_ | refine zS ?_ | refine wN ?_ | refine wM ?_ | refine wR ?_ | refine wS ?_ | refine wB ?_ | refine wG ?_ | refine wD ?_ | refine wY ?_ | refine wZ ?_ | refine wK ?_ | refine wT ?_ | refine wX ?_)
  refine wp_loop3 14 (fun a : Nat × V × V × V => [.sl l.length f (rows oV l), .sl m.length g (rows oV m), .fn p [], .junk, .junk, .junk, .bool false, a.2.1, a.2.2.1, a.2.2.2, .sl l.length f (rows oV l), .int .i64 (l.length : Int), .sl m.length g (rows oV m), .int .i64 (m.length : Int), .bool false, .sl l.length f (rows oV l), .int .i64 (l.length : Int), .int .i64 (a.1 : Int)])
    (fun a H d => a.1 ≤ l.length ∧ eqL pr (l.drop a.1) (m.drop a.1) = eqL pr l m) (fun a => l.length - a.1) (0, .junk, .junk, .junk) ⟨_, rfl, rfl, Nat.zero_le _, rfl⟩ ?_
  rintro ⟨i, v7, v8, v9⟩ H d u ⟨hi, hc⟩
  dsimp only at hi hc ⊢
  (rw [show (List.range 14).map u = [u 0, u 1, u 2, u 3, u 4, u 5, u 6, u 7, u 8, u 9, u 10, u 11, u 12, u 13] from rfl]; simp only [List.cons_append, List.nil_append])
  repeat (first | refine zE ?_ | refine zP ?_ | refine zD ?_ | refine zQ ?_ | refine zR ?_ | refine zS ?_ | refine wN ?_ | refine wM ?_ | refine wR ?_ | refine wS ?_ | refine wB ?_ | refine wG ?_ | refine wD ?_ | refine wY ?_ | refine wZ ?_ | refine wK ?_ | refine wT ?_ | refine wX ?_)
  by_cases hlt : i < l.length
  · refine wp_yes rfl (decide_eq_true (by omega)) ?_
    obtain ⟨x, hx⟩ := get_of hlt
    obtain ⟨y, hy⟩ := get_of (show i < m.length by omega)
    have hmx := List.mem_of_getElem? hx
    have hmy := List.mem_of_getElem? hy
    rw [drop_of hx, drop_of hy, eqL] at hc
    repeat (first | refine zE ?_ | refine zP ?_ | refine zD ?_ | refine zQ ?_ | refine zR ?_ | refine zS ?_ | refine wN ?_ | refine wM ?_ | refine wR ?_ | refine wS ?_ | refine wB ?_ | refine wG ?_ | refine wD ?_ | refine wY ?_ | refine wZ ?_ | refine wK ?_ | refine wT ?_ | refine wX ?_)
    refine zF (step_idx rfl rfl rfl rfl rfl rfl ⟨by omega, by omega⟩ (drop_rows (k := 3) oV_len' hx)) ?_
    refine zF (step_enc rfl rfl rfl (oV_len' _) rfl) ?_
    refine run_new rfl rfl (fun m => (by dsimp only [putTm, List.set])) ?_
    intro m8 H4 hm8 hl4 hb4 hold4
    repeat (first | refine zE ?_ | refine zP ?_ | refine zD ?_ | refine zQ ?_ | refine zR ?_ | refine zS ?_ | refine wN ?_ | refine wM ?_ | refine wR ?_ | refine wS ?_ | refine wB ?_ | refine wG ?_ | refine wD ?_ | refine wY ?_ | refine wZ ?_ | refine wK ?_ | refine wT ?_ | refine wX ?_)
    refine run_store (v := .agg (oV x)) rfl rfl rfl rfl rfl (oV_one' x) (oV_len' x) hb4 (cs' := oV x) (splice_full (oV_len' x).symm) (by dsimp only [putTm, List.set]) ?_
    intro H5 hl5 hb5 ho5
    repeat (first | refine zE ?_ | refine zP ?_ | refine zD ?_ | refine zQ ?_ | refine zR ?_ | refine zS ?_ | refine wN ?_ | refine wM ?_ | refine wR ?_ | refine wS ?_ | refine wB ?_ | refine wG ?_ | refine wD ?_ | refine wY ?_ | refine wZ ?_ | refine wK ?_ | refine wT ?_ | refine wX ?_)
    refine zF (step_idx rfl rfl rfl rfl rfl rfl ⟨by omega, by omega⟩ (drop_rows (k := 3) oV_len' hy)) ?_
    refine zF (step_enc rfl rfl rfl (oV_len' _) rfl) ?_
    refine run_new rfl rfl (fun m => (by dsimp only [putTm, List.set])) ?_
    intro m9 H6 hm9 hl6 hb6 hold6
    refine run_store (v := .agg (oV y)) rfl rfl rfl rfl rfl (oV_one' y) (oV_len' y) hb6 (cs' := oV y) (splice_full (oV_len' y).symm) (by dsimp only [putTm, List.set]) ?_
    intro H7 hl7 hb7 ho7
    have hb57 : H7[m8]? = some (.box (oV x)) := by rw [ho7 m8 (by omega), hold6 m8 (by omega)]; exact hb5
    repeat (first | refine zE ?_ | refine zP ?_ | refine zD ?_ | refine zQ ?_ | refine zR ?_ | refine zS ?_ | refine wN ?_ | refine wM ?_ | refine wR ?_ | refine wS ?_ | refine wB ?_ | refine wG ?_ | refine wD ?_ | refine wY ?_ | refine wZ ?_ | refine wK ?_ | refine wT ?_ | refine wX ?_)
    refine zF (step_load (v := .agg (oV x)) rfl rfl rfl hb57 (part_full rfl (oV_len' x).symm)) ?_
    refine zF (step_load (v := .agg (oV y)) rfl rfl rfl hb7 (part_full rfl (oV_len' y).symm)) ?_
    refine zF (step_call (ev_callv rfl rfl rfl rfl hprim hbody) rfl ((hp x hmx y hmy).call hg hk (by simp [V.flats, V.flat, flat_tV, flat_sV, flat_ints, flat_oV, flat_eV, flat_yV, flat_cV, flat_strs, flats_rows flat_tV, flats_rows flat_cV, flats_rows flat_oV, flats_rows flat_eV, flats_rows flat_yV]) _)) ?_
    repeat (first | refine zE ?_ | refine zP ?_ | refine zD ?_ | refine zQ ?_ | refine zR ?_ | refine zS ?_ | refine wN ?_ | refine wM ?_ | refine wR ?_ | refine wS ?_ | refine wB ?_ | refine wG ?_ | refine wD ?_ | refine wY ?_ | refine wZ ?_ | refine wK ?_ | refine wT ?_ | refine wX ?_)
    cases h2 : pr x y
    · rw [h2, Bool.false_and] at hc
      rw [← hc]
      repeat (first | refine zE ?_ | refine zP ?_ | refine zD ?_ | refine zQ ?_ | refine zR ?_ | refine zS ?_ | refine wN ?_ | refine wM ?_ | refine wR ?_ | refine wS ?_ | refine wB ?_ | refine wG ?_ | refine wD ?_ | refine wY ?_ | refine wZ ?_ | refine wK ?_ | refine wT ?_ | refine wX ?_)
      exact ⟨.inr rfl, _, rfl, rfl⟩
    rw [h2, Bool.true_and] at hc
    repeat (first | refine zE ?_ | refine zP ?_ | refine zD ?_ | refine zQ ?_ | refine zR ?_ | refine zS ?_ | refine wN ?_ | refine wM ?_ | refine wR ?_ | refine wS ?_ | refine wB ?_ | refine wG ?_ | refine wD ?_ | refine wY ?_ | refine wZ ?_ | refine wK ?_ | refine wT ?_ | refine wX ?_)
    rw [wrap_succ (by omega)]
    exact ⟨(i + 1, .int .i64 (i : Int), .bp m8 0, .bp m9 0), _, rfl, rfl, ⟨hlt, hc⟩, (by first | omega | (dsimp only; omega))⟩
  · refine wp_no rfl (decide_eq_false (by omega)) ?_
    have hil : i = l.length := by omega
    subst hil
    rw [List.drop_length, eqL] at hc
    rw [← hc]
    repeat (first | refine zE ?_ | refine zP ?_ | refine zD ?_ | refine zQ ?_ | refine zR ?_ | refine zS ?_ | refine wN ?_ | refine wM ?_ | refine wR ?_ | refine wS ?_ | refine wB ?_ | refine wG ?_ | refine wD ?_ | refine wY ?_ | refine wZ ?_ | refine wK ?_ | refine wT ?_ | refine wX ?_)
    exact ⟨.inr rfl, _, rfl, rfl⟩
theorem F196 : cfg.F 196 = some Tryz.f196 := rfl
set_option maxHeartbeats 4000000 in
theorem eqFC_fn (l m : List C2) (f g : Bool) (p : FuncId) (pr : C2 → C2 → Bool) (hl : l.length ≤ 9223372036854775807) (hprim : cfg.prim p = none) (hbody : ((cfg.F p).bind (·.body)).isSome = true) (hg : p ≠ 102) (hk : cfg.keep p = false)
    (hp : ∀ x, x ∈ l → ∀ y, y ∈ m → Fn p [.agg (cV x), .agg (cV y)] (.bool (pr x y))) : Fn 196 [.sl l.length f (rows cV l), .sl m.length g (rows cV m), .fn p []] (.bool (((l.length : Int) == (m.length : Int)) && eqL pr l m)) := by
  refine Fn.of_wp F196 rfl ?_
  simp only [show Tryz.f196.ntmps = 32 from rfl, List.length_cons, List.length_nil, List.replicate, List.cons_append, List.nil_append]
  repeat (first | refine zE ?_ | refine zP ?_ | refine zD ?_ | refine zQ ?_ | refine zR ?_ | refine zS ?_ | refine wN ?_ | refine wM ?_ | refine wR ?_ | refine wS ?_ | refine wB ?_ | refine wG ?_ | refine wD ?_ | refine wY ?_ | refine wZ ?_ | refine wK ?_ | refine wT ?_ | refine wX ?_)
  cases h1 : ((l.length : Int) == (m.length : Int))
  · have h1' : ((l.length : Int) != (m.length : Int)) = true := by rw [bne, h1]; rfl
    rw [h1']
    repeat (first | refine zE ?_ | refine zP ?_ | refine zD ?_ | refine zQ ?_ | refine zR ?_ | refine zS ?_ | refine wN ?_ | refine wM ?_ | refine wR ?_ | refine wS ?_ | refine wB ?_ | refine wG ?_ | refine wD ?_ | refine wY ?_ | refine wZ ?_ | refine wK ?_ | refine wT ?_ | refine wX ?_)
    exact ⟨.inr rfl, _, rfl, rfl⟩
  have h1' : ((l.length : Int) != (m.length : Int)) = false := by rw [bne, h1]; rfl
  have hlen : l.length = m.length := by have : (l.length : Int) = m.length := by simpa using h1
                                        omega
  rw [h1', Bool.true_and]
  repeat (first | refine zE ?_ | refine zP ?_ | refine zD ?_ | refine zQ ?_ | refine zR ?_ | refine zS ?_ | refine wN ?_ | refine wM ?_ | refine wR ?_ | refine wS ?_ | refine wB ?_ | refine wG ?_ | refine wD ?_ | refine wY ?_ | refine wZ ?_ | refine wK ?_ | refine wT ?_ | refine wX ?_)
  refine wp_loop3 14 (fun a : Nat × V × V × V => [.sl l.length f (rows cV l), .sl m.length g (rows cV m), .fn p [], .junk, .junk, .junk, .bool false, a.2.1, a.2.2.1, a.2.2.2, .sl l.length f (rows cV l), .int .i64 (l.length : Int), .sl m.length g (rows cV m), .int .i64 (m.length : Int), .bool false, .sl l.length f (rows cV l), .int .i64 (l.length : Int), .int .i64 (a.1 : Int)])
    (fun a H d => a.1 ≤ l.length ∧ eqL pr (l.drop a.1) (m.drop a.1) = eqL pr l m) (fun a => l.length - a.1) (0, .junk, .junk, .junk) ⟨_, rfl, rfl, Nat.zero_le _, rfl⟩ ?_
  rintro ⟨i, v7, v8, v9⟩ H d u ⟨hi, hc⟩
  dsimp only at hi hc ⊢
  (rw [show (List.range 14).map u = [u 0, u 1, u 2, u 3, u 4, u 5, u 6, u 7, u 8, u 9, u 10, u 11, u 12, u 13] from rfl]; simp only [List.cons_append, List.nil_append])
  repeat (first | refine zE ?_ | refine zP ?_ | refine zD ?_ | refine zQ ?_ | refine zR ?_ | refine zS ?_ | refine wN ?_ | refine wM ?_ | refine wR ?_ | refine wS ?_ | refine wB ?_ | refine wG ?_ | refine wD ?_ | refine wY ?_ | refine wZ ?_ | refine wK ?_ | refine wT ?_ | refine wX ?_)
  by_cases hlt : i < l.length
  · refine wp_yes rfl (decide_eq_true (by omega)) ?_
    obtain ⟨x, hx⟩ := get_of hlt
    obtain ⟨y, hy⟩ := get_of (show i < m.length by omega)
    have hmx := List.mem_of_getElem? hx
    have hmy := List.mem_of_getElem? hy
    rw [drop_of hx, drop_of hy, eqL] at hc
    repeat (first | refine zE ?_ | refine zP ?_ | refine zD ?_ | refine zQ ?_ | refine zR ?_ | refine zS ?_ | refine wN ?_ | refine wM ?_ | refine wR ?_ | refine wS ?_ | refine wB ?_ | refine wG ?_ | refine wD ?_ | refine wY ?_ | refine wZ ?_ | refine wK ?_ | refine wT ?_ | refine wX ?_)
    refine zF (step_idx rfl rfl rfl rfl rfl rfl ⟨by omega, by omega⟩ (drop_rows (k := 6) cV_len hx)) ?_
    refine zF (step_enc rfl rfl rfl (cV_len _) rfl) ?_
    refine run_new rfl rfl (fun m => (by dsimp only [putTm, List.set])) ?_
    intro m8 H4 hm8 hl4 hb4 hold4
    repeat (first | refine zE ?_ | refine zP ?_ | refine zD ?_ | refine zQ ?_ | refine zR ?_ | refine zS ?_ | refine wN ?_ | refine wM ?_ | refine wR ?_ | refine wS ?_ | refine wB ?_ | refine wG ?_ | refine wD ?_ | refine wY ?_ | refine wZ ?_ | refine wK ?_ | refine wT ?_ | refine wX ?_)
    refine run_store (v := .agg (cV x)) rfl rfl rfl rfl rfl (cV_one x) (cV_len x) hb4 (cs' := cV x) (splice_full (cV_len x).symm) (by dsimp only [putTm, List.set]) ?_
    intro H5 hl5 hb5 ho5
    repeat (first | refine zE ?_ | refine zP ?_ | refine zD ?_ | refine zQ ?_ | refine zR ?_ | refine zS ?_ | refine wN ?_ | refine wM ?_ | refine wR ?_ | refine wS ?_ | refine wB ?_ | refine wG ?_ | refine wD ?_ | refine wY ?_ | refine wZ ?_ | refine wK ?_ | refine wT ?_ | refine wX ?_)
    refine zF (step_idx rfl rfl rfl rfl rfl rfl ⟨by omega, by omega⟩ (drop_rows (k := 6) cV_len hy)) ?_
    refine zF (step_enc rfl rfl rfl (cV_len _) rfl) ?_
    refine run_new rfl rfl (fun m => (by dsimp only [putTm, List.set])) ?_
    intro m9 H6 hm9 hl6 hb6 hold6
    refine run_store (v := .agg (cV y)) rfl rfl rfl rfl rfl (cV_one y) (cV_len y) hb6 (cs' := cV y) (splice_full (cV_len y).symm) (by dsimp only [putTm, List.set]) ?_
    intro H7 hl7 hb7 ho7
    have hb57 : H7[m8]? = some (.box (cV x)) := by rw [ho7 m8 (by omega), hold6 m8 (by omega)]; exact hb5
    repeat (first | refine zE ?_ | refine zP ?_ | refine zD ?_ | refine zQ ?_ | refine zR ?_ | refine zS ?_ | refine wN ?_ | refine wM ?_ | refine wR ?_ | refine wS ?_ | refine wB ?_ | refine wG ?_ | refine wD ?_ | refine wY ?_ | refine wZ ?_ | refine wK ?_ | refine wT ?_ | refine wX ?_)
    refine zF (step_load (v := .agg (cV x)) rfl rfl rfl hb57 (part_full rfl (cV_len x).symm)) ?_
    refine zF (step_load (v := .agg (cV y)) rfl rfl rfl hb7 (part_full rfl (cV_len y).symm)) ?_
    refine zF (step_call (ev_callv rfl rfl rfl rfl hprim hbody) rfl ((hp x hmx y hmy).call hg hk (by simp [V.flats, V.flat, flat_tV, flat_sV, flat_ints, flat_oV, flat_eV, flat_yV, flat_cV, flat_strs, flats_rows flat_tV, flats_rows flat_cV, flats_rows flat_oV, flats_rows flat_eV, flats_rows flat_yV]) _)) ?_
    repeat (first | refine zE ?_ | refine zP ?_ | refine zD ?_ | refine zQ ?_ | refine zR ?_ | refine zS ?_ | refine wN ?_ | refine wM ?_ | refine wR ?_ | refine wS ?_ | refine wB ?_ | refine wG ?_ | refine wD ?_ | refine wY ?_ | refine wZ ?_ | refine wK ?_ | refine wT ?_ | refine wX ?_)
    cases h2 : pr x y
    · rw [h2, Bool.false_and] at hc
      rw [← hc]
      repeat (first | refine zE ?_ | refine zP ?_ | refine zD ?_ | refine zQ ?_ | refine zR ?_ | refine zS ?_ | refine wN ?_ | refine wM ?_ | refine wR ?_ | refine wS ?_ | refine wB ?_ | refine wG ?_ | refine wD ?_ | refine wY ?_ | refine wZ ?_ | refine wK ?_ | refine wT ?_ | refine wX ?_)
      exact ⟨.inr rfl, _, rfl, rfl⟩
    rw [h2, Bool.true_and] at hc
    repeat (first | refine zE ?_ | refine zP ?_ | refine zD ?_ | refine zQ ?_ | refine zR ?_ | refine zS ?_ | refine wN ?_ | refine wM ?_ | refine wR ?_ | refine wS ?_ | refine wB ?_ | refine wG ?_ | refine wD ?_ | refine wY ?_ | refine wZ ?_ | refine wK ?_ | refine wT ?_ | refine wX ?_)
    rw [wrap_succ (by omega)]
    exact ⟨(i + 1, .int .i64 (i : Int), .bp m8 0, .bp m9 0), _, rfl, rfl, ⟨hlt, hc⟩, (by first | omega | (dsimp only; omega))⟩
  · refine wp_no rfl (decide_eq_false (by omega)) ?_
    have hil : i = l.length := by omega
    subst hil
    rw [List.drop_length, eqL] at hc
    rw [← hc]
    repeat (first | refine zE ?_ | refine zP ?_ | refine zD ?_ | refine zQ ?_ | refine zR ?_ | refine zS ?_ | refine wN ?_ | refine wM ?_ | refine wR ?_ | refine wS ?_ | refine wB ?_ | refine wG ?_ | refine wD ?_ | refine wY ?_ | refine wZ ?_ | refine wK ?_ | refine wT ?_ | refine wX ?_)
    exact ⟨.inr rfl, _, rfl, rfl⟩
theorem F75 : cfg.F 75 = some Tryz.f75 := rfl
set_option maxHeartbeats 4000000 in
theorem eqFE_fn (l m : List Eq2) (f g : Bool) (p : FuncId) (pr : Eq2 → Eq2 → Bool) (hl : l.length ≤ 9223372036854775807) (hprim : cfg.prim p = none) (hbody : ((cfg.F p).bind (·.body)).isSome = true) (hg : p ≠ 102) (hk : cfg.keep p = false)
    (hp : ∀ x, x ∈ l → ∀ y, y ∈ m → Fn p [.agg (eV x), .agg (eV y)] (.bool (pr x y))) : Fn 75 [.sl l.length f (rows eV l), .sl m.length g (rows eV m), .fn p []] (.bool (((l.length : Int) == (m.length : Int)) && eqL pr l m)) := by
  refine Fn.of_wp F75 rfl ?_
  simp only [show Tryz.f75.ntmps = 32 from rfl, List.length_cons, List.length_nil, List.replicate, List.cons_append, List.nil_append]
  repeat (first | refine zE ?_ | refine zP ?_ | refine zD ?_ | refine zQ ?_ | refine zR ?_ | refine zS ?_ | refine wN ?_ | refine wM ?_ | refine wR ?_ | refine wS ?_ | refine wB ?_ | refine wG ?_ | refine wD ?_ | refine wY ?_ | refine wZ ?_ | refine wK ?_ | refine wT ?_ | refine wX ?_)
  cases h1 : ((l.length : Int) == (m.length : Int))
  · have h1' : ((l.length : Int) != (m.length : Int)) = true := by rw [bne, h1]; rfl
    rw [h1']
    repeat (first | refine zE ?_ | refine zP ?_ | refine zD ?_ | refine zQ ?_ | refine zR ?_ | refine zS ?_ | refine wN ?_ | refine wM ?_ | refine wR ?_ | refine wS ?_ | refine wB ?_ | refine wG ?_ | refine wD ?_ | refine wY ?_ | refine wZ ?_ | refine wK ?_ | refine wT ?_ | refine wX ?_)
    exact ⟨.inr rfl, _, rfl, rfl⟩
  have h1' : ((l.length : Int) != (m.length : Int)) = false := by rw [bne, h1]; rfl
  have hlen : l.length = m.length := by have : (l.length : Int) = m.length := by simpa using h1
                                        omega
  rw [h1', Bool.true_and]
  repeat (first | refine zE ?_ | refine zP ?_ | refine zD ?_ | refine zQ ?_ | refine zR ?_ | refine zS ?_ | refine wN ?_ | refine wM ?_ | refine wR ?_ | refine wS ?_ | refine wB ?_ | refine wG ?_ | refine wD ?_ | refine wY ?_ | refine wZ ?_ | refine wK ?_ | refine wT ?_ | refine wX ?_)
  refine wp_loop3 14 (fun a : Nat × V × V × V => [.sl l.length f (rows eV l), .sl m.length g (rows eV m), .fn p [], .junk, .junk, .junk, .bool false, a.2.1, a.2.2.1, a.2.2.2, .sl l.length f (rows eV l), .int .i64 (l.length : Int), .sl m.length g (rows eV m), .int .i64 (m.length : Int), .bool false, .sl l.length f (rows eV l), .int .i64 (l.length : Int), .int .i64 (a.1 : Int)])
    (fun a H d => a.1 ≤ l.length ∧ eqL pr (l.drop a.1) (m.drop a.1) = eqL pr l m) (fun a => l.length - a.1) (0, .junk, .junk, .junk) ⟨_, rfl, rfl, Nat.zero_le _, rfl⟩ ?_
  rintro ⟨i, v7, v8, v9⟩ H d u ⟨hi, hc⟩
  dsimp only at hi hc ⊢
  (rw [show (List.range 14).map u = [u 0, u 1, u 2, u 3, u 4, u 5, u 6, u 7, u 8, u 9, u 10, u 11, u 12, u 13] from rfl]; simp only [List.cons_append, List.nil_append])
  repeat (first | refine zE ?_ | refine zP ?_ | refine zD ?_ | refine zQ ?_ | refine zR ?_ | refine zS ?_ | refine wN ?_ | refine wM ?_ | refine wR ?_ | refine wS ?_ | refine wB ?_ | refine wG ?_ | refine wD ?_ | refine wY ?_ | refine wZ ?_ | refine wK ?_ | refine wT ?_ | refine wX ?_)
  by_cases hlt : i < l.length
  · refine wp_yes rfl (decide_eq_true (by omega)) ?_
    obtain ⟨x, hx⟩ := get_of hlt
    obtain ⟨y, hy⟩ := get_of (show i < m.length by omega)
    have hmx := List.mem_of_getElem? hx
    have hmy := List.mem_of_getElem? hy
    rw [drop_of hx, drop_of hy, eqL] at hc
    repeat (first | refine zE ?_ | refine zP ?_ | refine zD ?_ | refine zQ ?_ | refine zR ?_ | refine zS ?_ | refine wN ?_ | refine wM ?_ | refine wR ?_ | refine wS ?_ | refine wB ?_ | refine wG ?_ | refine wD ?_ | refine wY ?_ | refine wZ ?_ | refine wK ?_ | refine wT ?_ | refine wX ?_)
    refine zF (step_idx rfl rfl rfl rfl rfl rfl ⟨by omega, by omega⟩ (drop_rows (k := 8) eV_len hx)) ?_
    refine zF (step_enc rfl rfl rfl (eV_len _) rfl) ?_
    refine run_new rfl rfl (fun m => (by dsimp only [putTm, List.set])) ?_
    intro m8 H4 hm8 hl4 hb4 hold4
    repeat (first | refine zE ?_ | refine zP ?_ | refine zD ?_ | refine zQ ?_ | refine zR ?_ | refine zS ?_ | refine wN ?_ | refine wM ?_ | refine wR ?_ | refine wS ?_ | refine wB ?_ | refine wG ?_ | refine wD ?_ | refine wY ?_ | refine wZ ?_ | refine wK ?_ | refine wT ?_ | refine wX ?_)
    refine run_store (v := .agg (eV x)) rfl rfl rfl rfl rfl (eV_one x) (eV_len x) hb4 (cs' := eV x) (splice_full (eV_len x).symm) (by dsimp only [putTm, List.set]) ?_
    intro H5 hl5 hb5 ho5
    repeat (first | refine zE ?_ | refine zP ?_ | refine zD ?_ | refine zQ ?_ | refine zR ?_ | refine zS ?_ | refine wN ?_ | refine wM ?_ | refine wR ?_ | refine wS ?_ | refine wB ?_ | refine wG ?_ | refine wD ?_ | refine wY ?_ | refine wZ ?_ | refine wK ?_ | refine wT ?_ | refine wX ?_)
    refine zF (step_idx rfl rfl rfl rfl rfl rfl ⟨by omega, by omega⟩ (drop_rows (k := 8) eV_len hy)) ?_
    refine zF (step_enc rfl rfl rfl (eV_len _) rfl) ?_
    refine run_new rfl rfl (fun m => (by dsimp only [putTm, List.set])) ?_
    intro m9 H6 hm9 hl6 hb6 hold6
    refine run_store (v := .agg (eV y)) rfl rfl rfl rfl rfl (eV_one y) (eV_len y) hb6 (cs' := eV y) (splice_full (eV_len y).symm) (by dsimp only [putTm, List.set]) ?_
    intro H7 hl7 hb7 ho7
    have hb57 : H7[m8]? = some (.box (eV x)) := by rw [ho7 m8 (by omega), hold6 m8 (by omega)]; exact hb5
    repeat (first | refine zE ?_ | refine zP ?_ | refine zD ?_ | refine zQ ?_ | refine zR ?_ | refine zS ?_ | refine wN ?_ | refine wM ?_ | refine wR ?_ | refine wS ?_ | refine wB ?_ | refine wG ?_ | refine wD ?_ | refine wY ?_ | refine wZ ?_ | refine wK ?_ | refine wT ?_ | refine wX ?_)
    refine zF (step_load (v := .agg (eV x)) rfl rfl rfl hb57 (part_full rfl (eV_len x).symm)) ?_
    refine zF (step_load (v := .agg (eV y)) rfl rfl rfl hb7 (part_full rfl (eV_len y).symm)) ?_
    refine zF (step_call (ev_callv rfl rfl rfl rfl hprim hbody) rfl ((hp x hmx y hmy).call hg hk (by simp [V.flats, V.flat, flat_tV, flat_sV, flat_ints, flat_oV, flat_eV, flat_yV, flat_cV, flat_strs, flats_rows flat_tV, flats_rows flat_cV, flats_rows flat_oV, flats_rows flat_eV, flats_rows flat_yV]) _)) ?_
    repeat (first | refine zE ?_ | refine zP ?_ | refine zD ?_ | refine zQ ?_ | refine zR ?_ | refine zS ?_ | refine wN ?_ | refine wM ?_ | refine wR ?_ | refine wS ?_ | refine wB ?_ | refine wG ?_ | refine wD ?_ | refine wY ?_ | refine wZ ?_ | refine wK ?_ | refine wT ?_ | refine wX ?_)
    cases h2 : pr x y
    · rw [h2, Bool.false_and] at hc
      rw [← hc]
      repeat (first | refine zE ?_ | refine zP ?_ | refine zD ?_ | refine zQ ?_ | refine zR ?_ | refine zS ?_ | refine wN ?_ | refine wM ?_ | refine wR ?_ | refine wS ?_ | refine wB ?_ | refine wG ?_ | refine wD ?_ | refine wY ?_ | refine wZ ?_ | refine wK ?_ | refine wT ?_ | refine wX ?_)
      exact ⟨.inr rfl, _, rfl, rfl⟩
    rw [h2, Bool.true_and] at hc
    repeat (first | refine zE ?_ | refine zP ?_ | refine zD ?_ | refine zQ ?_ | refine zR ?_ | refine zS ?_ | refine wN ?_ | refine wM ?_ | refine wR ?_ | refine wS ?_ | refine wB ?_ | refine wG ?_ | refine wD ?_ | refine wY ?_ | refine wZ ?_ | refine wK ?_ | refine wT ?_ | refine wX ?_)
    rw [wrap_succ (by omega)]
    exact ⟨(i + 1, .int .i64 (i : Int), .bp m8 0, .bp m9 0), _, rfl, rfl, ⟨hlt, hc⟩, (by first | omega | (dsimp only; omega))⟩
  · refine wp_no rfl (decide_eq_false (by omega)) ?_
    have hil : i = l.length := by omega
    subst hil
    rw [List.drop_length, eqL] at hc
    rw [← hc]
    repeat (first | refine zE ?_ | refine zP ?_ | refine zD ?_ | refine zQ ?_ | refine zR ?_ | refine zS ?_ | refine wN ?_ | refine wM ?_ | refine wR ?_ | refine wS ?_ | refine wB ?_ | refine wG ?_ | refine wD ?_ | refine wY ?_ | refine wZ ?_ | refine wK ?_ | refine wT ?_ | refine wX ?_)
    exact ⟨.inr rfl, _, rfl, rfl⟩
theorem F78 : cfg.F 78 = some Tryz.f78 := rfl
set_option maxHeartbeats 4000000 in
theorem equalS_fn (l m : List ByteArray) (f g : Bool) (hl : l.length ≤ 9223372036854775807) : Fn 78 [.sl l.length f (strs l), .sl m.length g (strs m)] (.bool (((l.length : Int) == (m.length : Int)) && eqL strEq l m)) := by
  refine Fn.of_wp F78 rfl ?_
  simp only [show Tryz.f78.ntmps = 26 from rfl, List.length_cons, List.length_nil, List.replicate, List.cons_append, List.nil_append]
  repeat (first | refine zE ?_ | refine zP ?_ | refine zD ?_ | refine zQ ?_ | refine zR ?_ | refine zS ?_ | refine wN ?_ | refine wM ?_ | refine wR ?_ | refine wS ?_ | refine wB ?_ | refine wG ?_ | refine wD ?_ | refine wY ?_ | refine wZ ?_ | refine wK ?_ | refine wT ?_ | refine wX ?_)
  cases h1 : ((l.length : Int) == (m.length : Int))
  · have h1' : ((l.length : Int) != (m.length : Int)) = true := by rw [bne, h1]; rfl
    rw [h1']
    repeat (first | refine zE ?_ | refine zP ?_ | refine zD ?_ | refine zQ ?_ | refine zR ?_ | refine zS ?_ | refine wN ?_ | refine wM ?_ | refine wR ?_ | refine wS ?_ | refine wB ?_ | refine wG ?_ | refine wD ?_ | refine wY ?_ | refine wZ ?_ | refine wK ?_ | refine wT ?_ | refine wX ?_)
    exact ⟨.inr rfl, _, rfl, rfl⟩
  have h1' : ((l.length : Int) != (m.length : Int)) = false := by rw [bne, h1]; rfl
  have hlen : l.length = m.length := by have : (l.length : Int) = m.length := by simpa using h1
                                        omega
  rw [h1', Bool.true_and]
  repeat (first | refine zE ?_ | refine zP ?_ | refine zD ?_ | refine zQ ?_ | refine zR ?_ | refine zS ?_ | refine wN ?_ | refine wM ?_ | refine wR ?_ | refine wS ?_ | refine wB ?_ | refine wG ?_ | refine wD ?_ | refine wY ?_ | refine wZ ?_ | refine wK ?_ | refine wT ?_ | refine wX ?_)
  refine wp_loop2 12 (fun a : Nat × V => [.sl l.length f (strs l), .sl m.length g (strs m), .junk, .junk, .bool false, a.2, .sl l.length f (strs l), .int .i64 (l.length : Int), .sl m.length g (strs m), .int .i64 (m.length : Int), .bool false, .sl l.length f (strs l), .int .i64 (l.length : Int), .int .i64 (a.1 : Int)])
    (fun a H => H = [] ∧ a.1 ≤ l.length ∧ eqL strEq (l.drop a.1) (m.drop a.1) = eqL strEq l m) (fun a => l.length - a.1) (0, .junk) ⟨_, rfl, rfl, rfl, Nat.zero_le _, rfl⟩ ?_
  rintro ⟨i, v5⟩ H d u ⟨rfl, hi, hc⟩
  dsimp only at hi hc ⊢
  (rw [show (List.range 12).map u = [u 0, u 1, u 2, u 3, u 4, u 5, u 6, u 7, u 8, u 9, u 10, u 11] from rfl]; simp only [List.cons_append, List.nil_append])
  repeat (first | refine zE ?_ | refine zP ?_ | refine zD ?_ | refine zQ ?_ | refine zR ?_ | refine zS ?_ | refine wN ?_ | refine wM ?_ | refine wR ?_ | refine wS ?_ | refine wB ?_ | refine wG ?_ | refine wD ?_ | refine wY ?_ | refine wZ ?_ | refine wK ?_ | refine wT ?_ | refine wX ?_)
  by_cases hlt : i < l.length
  · refine wp_yes rfl (decide_eq_true (by omega)) ?_
    obtain ⟨x, hx⟩ := get_of hlt
    obtain ⟨y, hy⟩ := get_of (show i < m.length by omega)
    rw [drop_of hx, drop_of hy, eqL] at hc
    repeat (first | refine zE ?_ | refine zP ?_ | refine zD ?_ | refine zQ ?_ | refine zR ?_ | refine zS ?_ | refine wN ?_ | refine wM ?_ | refine wR ?_ | refine wS ?_ | refine wB ?_ | refine wG ?_ | refine wD ?_ | refine wY ?_ | refine wZ ?_ | refine wK ?_ | refine wT ?_ | refine wX ?_)
    refine zG (step_idx rfl rfl rfl rfl rfl rfl ⟨by omega, by omega⟩ (drop_rows (k := 1) (fun _ => rfl) hx)) ?_
    repeat (first | refine zE ?_ | refine zP ?_ | refine zD ?_ | refine zQ ?_ | refine zR ?_ | refine zS ?_ | refine wN ?_ | refine wM ?_ | refine wR ?_ | refine wS ?_ | refine wB ?_ | refine wG ?_ | refine wD ?_ | refine wY ?_ | refine wZ ?_ | refine wK ?_ | refine wT ?_ | refine wX ?_)
    refine zG (step_idx rfl rfl rfl rfl rfl rfl ⟨by omega, by omega⟩ (drop_rows (k := 1) (fun _ => rfl) hy)) ?_
    repeat (first | refine zE ?_ | refine zP ?_ | refine zD ?_ | refine zQ ?_ | refine zR ?_ | refine zS ?_ | refine wN ?_ | refine wM ?_ | refine wR ?_ | refine wS ?_ | refine wB ?_ | refine wG ?_ | refine wD ?_ | refine wY ?_ | refine wZ ?_ | refine wK ?_ | refine wT ?_ | refine wX ?_)
    cases h2 : strEq x y
    · rw [h2, Bool.false_and] at hc
      rw [← hc]
      skip
      repeat (first | refine zE ?_ | refine zP ?_ | refine zD ?_ | refine zQ ?_ | refine zR ?_ | refine zS ?_ | refine wN ?_ | refine wM ?_ | refine wR ?_ | refine wS ?_ | refine wB ?_ | refine wG ?_ | refine wD ?_ | refine wY ?_ | refine wZ ?_ | refine wK ?_ | refine wT ?_ | refine wX ?_)
      exact ⟨.inr rfl, _, rfl, rfl⟩
    rw [h2, Bool.true_and] at hc
    skip
    repeat (first | refine zE ?_ | refine zP ?_ | refine zD ?_ | refine zQ ?_ | refine zR ?_ | refine zS ?_ | refine wN ?_ | refine wM ?_ | refine wR ?_ | refine wS ?_ | refine wB ?_ | refine wG ?_ | refine wD ?_ | refine wY ?_ | refine wZ ?_ | refine wK ?_ | refine wT ?_ | refine wX ?_)
    rw [wrap_succ (by omega)]
    exact ⟨(i + 1, .int .i64 (i : Int)), _, rfl, rfl, ⟨rfl, hlt, hc⟩, (by first | omega | (dsimp only; omega))⟩
  · refine wp_no rfl (decide_eq_false (by omega)) ?_
    have hil : i = l.length := by omega
    subst hil
    rw [List.drop_length, eqL] at hc
    rw [← hc]
    repeat (first | refine zE ?_ | refine zP ?_ | refine zD ?_ | refine zQ ?_ | refine zR ?_ | refine zS ?_ | refine wN ?_ | refine wM ?_ | refine wR ?_ | refine wS ?_ | refine wB ?_ | refine wG ?_ | refine wD ?_ | refine wY ?_ | refine wZ ?_ | refine wK ?_ | refine wT ?_ | refine wX ?_)
    exact ⟨.inr rfl, _, rfl, rfl⟩
theorem F118 : cfg.F 118 = some Tryz.f118 := rfl
set_option maxHeartbeats 4000000 in
theorem equalI_fn (l m : List Int) (f g : Bool) (hl : l.length ≤ 9223372036854775807) : Fn 118 [.sl l.length f (ints l), .sl m.length g (ints m)] (.bool (((l.length : Int) == (m.length : Int)) && eqL (fun x y => x == y) l m)) := by
  refine Fn.of_wp F118 rfl ?_
  simp only [show Tryz.f118.ntmps = 26 from rfl, List.length_cons, List.length_nil, List.replicate, List.cons_append, List.nil_append]
  repeat (first | refine zE ?_ | refine zP ?_ | refine zD ?_ | refine zQ ?_ | refine zR ?_ | refine zS ?_ | refine wN ?_ | refine wM ?_ | refine wR ?_ | refine wS ?_ | refine wB ?_ | refine wG ?_ | refine wD ?_ | refine wY ?_ | refine wZ ?_ | refine wK ?_ | refine wT ?_ | refine wX ?_)
  cases h1 : ((l.length : Int) == (m.length : Int))
  · have h1' : ((l.length : Int) != (m.length : Int)) = true := by rw [bne, h1]; rfl
    rw [h1']
    repeat (first | refine zE ?_ | refine zP ?_ | refine zD ?_ | refine zQ ?_ | refine zR ?_ | refine zS ?_ | refine wN ?_ | refine wM ?_ | refine wR ?_ | refine wS ?_ | refine wB ?_ | refine wG ?_ | refine wD ?_ | refine wY ?_ | refine wZ ?_ | refine wK ?_ | refine wT ?_ | refine wX ?_)
    exact ⟨.inr rfl, _, rfl, rfl⟩
  have h1' : ((l.length : Int) != (m.length : Int)) = false := by rw [bne, h1]; rfl
  have hlen : l.length = m.length := by have : (l.length : Int) = m.length := by simpa using h1
                                        omega
  rw [h1', Bool.true_and]
  repeat (first | refine zE ?_ | refine zP ?_ | refine zD ?_ | refine zQ ?_ | refine zR ?_ | refine zS ?_ | refine wN ?_ | refine wM ?_ | refine wR ?_ | refine wS ?_ | refine wB ?_ | refine wG ?_ | refine wD ?_ | refine wY ?_ | refine wZ ?_ | refine wK ?_ | refine wT ?_ | refine wX ?_)
  refine wp_loop2 12 (fun a : Nat × V => [.sl l.length f (ints l), .sl m.length g (ints m), .junk, .junk, .bool false, a.2, .sl l.length f (ints l), .int .i64 (l.length : Int), .sl m.length g (ints m), .int .i64 (m.length : Int), .bool false, .sl l.length f (ints l), .int .i64 (l.length : Int), .int .i64 (a.1 : Int)])
    (fun a H => H = [] ∧ a.1 ≤ l.length ∧ eqL (fun x y => x == y) (l.drop a.1) (m.drop a.1) = eqL (fun x y => x == y) l m) (fun a => l.length - a.1) (0, .junk) ⟨_, rfl, rfl, rfl, Nat.zero_le _, rfl⟩ ?_
  rintro ⟨i, v5⟩ H d u ⟨rfl, hi, hc⟩
  dsimp only at hi hc ⊢
  (rw [show (List.range 12).map u = [u 0, u 1, u 2, u 3, u 4, u 5, u 6, u 7, u 8, u 9, u 10, u 11] from rfl]; simp only [List.cons_append, List.nil_append])
  repeat (first | refine zE ?_ | refine zP ?_ | refine zD ?_ | refine zQ ?_ | refine zR ?_ | refine zS ?_ | refine wN ?_ | refine wM ?_ | refine wR ?_ | refine wS ?_ | refine wB ?_ | refine wG ?_ | refine wD ?_ | refine wY ?_ | refine wZ ?_ | refine wK ?_ | refine wT ?_ | refine wX ?_)
  by_cases hlt : i < l.length
  · refine wp_yes rfl (decide_eq_true (by omega)) ?_
    obtain ⟨x, hx⟩ := get_of hlt
    obtain ⟨y, hy⟩ := get_of (show i < m.length by omega)
    rw [drop_of hx, drop_of hy, eqL] at hc
    repeat (first | refine zE ?_ | refine zP ?_ | refine zD ?_ | refine zQ ?_ | refine zR ?_ | refine zS ?_ | refine wN ?_ | refine wM ?_ | refine wR ?_ | refine wS ?_ | refine wB ?_ | refine wG ?_ | refine wD ?_ | refine wY ?_ | refine wZ ?_ | refine wK ?_ | refine wT ?_ | refine wX ?_)
    refine zG (step_idx rfl rfl rfl rfl rfl rfl ⟨by omega, by omega⟩ (drop_rows (k := 1) (fun _ => rfl) hx)) ?_
    repeat (first | refine zE ?_ | refine zP ?_ | refine zD ?_ | refine zQ ?_ | refine zR ?_ | refine zS ?_ | refine wN ?_ | refine wM ?_ | refine wR ?_ | refine wS ?_ | refine wB ?_ | refine wG ?_ | refine wD ?_ | refine wY ?_ | refine wZ ?_ | refine wK ?_ | refine wT ?_ | refine wX ?_)
    refine zG (step_idx rfl rfl rfl rfl rfl rfl ⟨by omega, by omega⟩ (drop_rows (k := 1) (fun _ => rfl) hy)) ?_
    repeat (first | refine zE ?_ | refine zP ?_ | refine zD ?_ | refine zQ ?_ | refine zR ?_ | refine zS ?_ | refine wN ?_ | refine wM ?_ | refine wR ?_ | refine wS ?_ | refine wB ?_ | refine wG ?_ | refine wD ?_ | refine wY ?_ | refine wZ ?_ | refine wK ?_ | refine wT ?_ | refine wX ?_)
    cases h2 : (x == y)
    · rw [h2, Bool.false_and] at hc
      rw [← hc]
      have h2n : (x != y) = true := by rw [bne, h2]; rfl
      rw [h2n]
      repeat (first | refine zE ?_ | refine zP ?_ | refine zD ?_ | refine zQ ?_ | refine zR ?_ | refine zS ?_ | refine wN ?_ | refine wM ?_ | refine wR ?_ | refine wS ?_ | refine wB ?_ | refine wG ?_ | refine wD ?_ | refine wY ?_ | refine wZ ?_ | refine wK ?_ | refine wT ?_ | refine wX ?_)
      exact ⟨.inr rfl, _, rfl, rfl⟩
    rw [h2, Bool.true_and] at hc
    have h2n : (x != y) = false := by rw [bne, h2]; rfl
    rw [h2n]
    repeat (first | refine zE ?_ | refine zP ?_ | refine zD ?_ | refine zQ ?_ | refine zR ?_ | refine zS ?_ | refine wN ?_ | refine wM ?_ | refine wR ?_ | refine wS ?_ | refine wB ?_ | refine wG ?_ | refine wD ?_ | refine wY ?_ | refine wZ ?_ | refine wK ?_ | refine wT ?_ | refine wX ?_)
    rw [wrap_succ (by omega)]
    exact ⟨(i + 1, .int .i64 (i : Int)), _, rfl, rfl, ⟨rfl, hlt, hc⟩, (by first | omega | (dsimp only; omega))⟩
  · refine wp_no rfl (decide_eq_false (by omega)) ?_
    have hil : i = l.length := by omega
    subst hil
    rw [List.drop_length, eqL] at hc
    rw [← hc]
    repeat (first | refine zE ?_ | refine zP ?_ | refine zD ?_ | refine zQ ?_ | refine zR ?_ | refine zS ?_ | refine wN ?_ | refine wM ?_ | refine wR ?_ | refine wS ?_ | refine wB ?_ | refine wG ?_ | refine wD ?_ | refine wY ?_ | refine wZ ?_ | refine wK ?_ | refine wT ?_ | refine wX ?_)
    exact ⟨.inr rfl, _, rfl, rfl⟩
end Go.Av
