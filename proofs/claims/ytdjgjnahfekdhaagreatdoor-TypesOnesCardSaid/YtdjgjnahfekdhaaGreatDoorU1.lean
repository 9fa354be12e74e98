/- Contracts over the evaluator: searches by functions, names. Conditions: none beyond the hypotheses of each theorem. -/
import Derived.Test.YtdjgjnahfekdhaaGreatDoorT7
set_option linter.unusedSectionVars false
set_option linter.unusedVariables false
set_option linter.unusedSimpArgs false
namespace Go.Av
open Go.Proofs
set_option maxRecDepth 100000
structure Quiet (H : Heap) (r : CR) (v : V) : Prop where
  pan : r.pan = false
  heap : r.H = H
  dirty : r.d = []
  val : r.v = v
theorem strip_flat' {H : Heap} {n0 : Nat} {all : Bool} {v : V} (h : v.flat = true) : strip H n0 all sf v = some v := strip_flat h
theorem Quiet.fn {H : Heap} {r : CR} {v : V} (h : Quiet H r v) {g : FuncId} {args : List V} (he : E g args H = some r) (hH : H = []) (hv : v.flat = true) : Fn g args v := by
  subst hH
  exact ⟨r, he, h.pan, by rw [h.val]; exact strip_flat' hv⟩
theorem Quiet.fnH {H : Heap} {r : CR} {v : V} (h : Quiet H r v) {g : FuncId} {args : List V} (he : E g args H = some r) (hv : v.flat = true) : FnH g args H v :=
  ⟨r, he, h.pan, fun j hj => (by rw [h.dirty] at hj; cases hj), by rw [h.val]; exact strip_flat' hv⟩
theorem Quiet.cf {H : Heap} {r : CR} {v : V} (h : Quiet H r v) {g : FuncId} {args : List V} (he : E g args H = some r) (hv : v.flat = true) (hg : g ≠ 102) (hk : cfg.keep g = false)
    (hctx : (V.flats args = true ∧ H = []) ∨ args.mapM (strip H 0 true sf) = none) : Cf g args H v := by
  rcases hctx with ⟨h1, h2⟩ | h1
  · exact (h.fn he h2 hv).cf hg hk h1 H
  · exact (h.fnH he hv).cf hg hk h1
def Obj (caps : List V) : Prop := ∃ v, v ∈ caps ∧ ((∃ t off, v = .bp t off) ∨ ∃ t, v = .mp t)
theorem Obj.not_flat {caps : List V} (h : Obj caps) : V.flats caps = false := by
  obtain ⟨v, hv, h⟩ := h
  have hf : v.flat = false := by rcases h with ⟨t, off, rfl⟩ | ⟨t, rfl⟩ <;> rfl
  induction caps with
  | nil => cases hv
  | cons y l ih =>
    rw [V.flats]
    rcases List.mem_cons.1 hv with rfl | hv
    · rw [hf]; rfl
    · rw [ih hv, Bool.and_false]
theorem Obj.strip0 {caps : List V} (h : Obj caps) {H : Heap} {n : Nat} : caps.mapM (Go.Av.strip H 0 true (n + 1)) = none := by
  obtain ⟨v, hv, h⟩ := h
  refine mapM_none hv ?_
  rcases h with ⟨t, off, rfl⟩ | ⟨t, rfl⟩ <;> rfl
theorem Obj.strip {caps : List V} (h : Obj caps) {H : Heap} {p : FuncId} {args : List V} (hm : V.fn p caps ∈ args) : args.mapM (Go.Av.strip H 0 true sf) = none :=
  mapM_none hm (strip_fn_none (n := 999) h.not_flat (h.strip0 (n := 998)))
theorem ev_callv {f : FuncId} {o : Oper} {tm : List V} {k : Call} {a : Operand} {g : FuncId} {caps vs : List V} (ho : o.op = .call k) (hc : k.callee = .value a) (ha : ov tm a = some (.fn g caps)) (hv : k.args.toList.mapM (ov tm) = some vs) (hp : cfg.prim g = none) (hb : ((cfg.F g).bind (·.body)).isSome = true) :
    evDsc cfg f o (ov tm) = some (.call g (vs ++ caps)) := by
  simp only [evDsc, ho, hc, ha, hv, Option.bind_some, hp]
  rw [if_pos hb]
def idxF {α : Type} (pr : α → Bool) : List α → Int
  | [] => -1
  | x :: l => if pr x then 0 else if idxF pr l < 0 then -1 else idxF pr l + 1
theorem idxF_ge {α : Type} (pr : α → Bool) : ∀ l : List α, -1 ≤ idxF pr l
  | [] => by rw [idxF]; omega
  | x :: l => by
    have := idxF_ge pr l
    rw [idxF]
    split
    · omega
    · split <;> omega
theorem idxF_none {α : Type} {pr : α → Bool} : ∀ {l : List α}, (∀ j, j < l.length → ∀ x, l[j]? = some x → pr x = false) → idxF pr l = -1
  | [], _ => rfl
  | x :: l, h => by
    have h0 := h 0 (by simp) x rfl
    have h1 := idxF_none (l := l) fun j hj y hy => h (j + 1) (by simpa using hj) y (by simpa using hy)
    rw [idxF, h0, h1]; rfl
theorem idxF_at {α : Type} {pr : α → Bool} : ∀ {l : List α} {i : Nat} {x : α}, l[i]? = some x → pr x = true → (∀ j, j < i → ∀ y, l[j]? = some y → pr y = false) → idxF pr l = i
  | [], i, x, h, _, _ => by simp at h
  | y :: l, 0, x, h, hp, _ => by
    simp at h; subst h
    rw [idxF, if_pos hp]; rfl
  | y :: l, i + 1, x, h, hp, hb => by
    have h0 := hb 0 (by omega) y rfl
    have h1 := idxF_at (l := l) (i := i) (by simpa using h) hp fun j hj z hz => hb (j + 1) (by omega) z (by simpa using hz)
    rw [idxF, h0, h1, if_neg (by simp), if_neg (by omega)]; rfl
theorem idxF_any {α : Type} (pr : α → Bool) : ∀ l : List α, decide (idxF pr l ≥ 0) = l.any pr
  | [] => rfl
  | x :: l => by
    have h1 := idxF_any pr l
    have h2 := idxF_ge pr l
    rw [idxF, List.any_cons, ← h1]
    cases pr x
    · simp only [Bool.false_eq_true, if_false, Bool.false_or]
      split
      · rename_i h; rw [decide_eq_false (by omega), decide_eq_false (by omega)]
      · rename_i h; rw [decide_eq_true (by omega), decide_eq_true (by omega)]
    · simp
theorem yV_len (t : Ty) : (yV t).length = 3 := rfl
theorem F293 : cfg.F 293 = some Tryz.f293 := rfl
set_option maxHeartbeats 2000000 in
theorem idxT_ent (l : List T) (f : Bool) (p : FuncId) (caps : List V) (pr : T → Bool) (H : Heap) (hl : l.length ≤ 9223372036854775807) (hprim : cfg.prim p = none) (hbody : ((cfg.F p).bind (·.body)).isSome = true)
    (hp : ∀ x, x ∈ l → Cf p (V.agg (tV x) :: caps) H (.bool (pr x))) : ∃ r, E 293 [.sl l.length f (rows tV l), .fn p caps] H = some r ∧ Quiet H r (.int .i64 (idxF pr l)) := by
  refine enter_wp (P := fun r => Quiet H r (.int .i64 (idxF pr l))) F293 rfl ?_
  simp only [show Tryz.f293.ntmps = 19 from rfl, List.length_cons, List.length_nil, List.replicate, List.cons_append, List.nil_append]
  repeat (first | refine zE ?_ | refine zP ?_ | refine zD ?_ | refine zQ ?_ | refine zR ?_ | refine zS ?_ | refine wN ?_ | refine wM ?_ | refine wR ?_ | refine wS ?_ | refine wB ?_ | refine wG ?_ | refine wD ?_ | refine wY ?_ | refine wZ ?_ | refine wK ?_ | refine wT ?_ | refine wX ?_)
  refine wp_loop3 10 (fun a : Nat × V => [.sl l.length f (rows tV l), .fn p caps, .junk, .junk, .int .i64 0, a.2, .sl l.length f (rows tV l), .int .i64 (l.length : Int), .int .i64 (a.1 : Int)] ++ []) (fun a H' d => H' = H ∧ d = [] ∧ a.1 ≤ l.length ∧ ∀ j, j < a.1 → ∀ x, l[j]? = some x → pr x = false) (fun a => l.length - a.1) (0, .junk) ⟨_, rfl, rfl, rfl, rfl, Nat.zero_le _, fun j hj => by omega⟩ ?_
  rintro ⟨i, v5⟩ H' d u ⟨rfl, rfl, hi, hb⟩
  dsimp only at hi hb ⊢
  (rw [show (List.range 10).map u = [u 0, u 1, u 2, u 3, u 4, u 5, u 6, u 7, u 8, u 9] from rfl]; simp only [List.cons_append, List.nil_append])
  repeat (first | refine zE ?_ | refine zP ?_ | refine zD ?_ | refine zQ ?_ | refine zR ?_ | refine zS ?_ | refine wN ?_ | refine wM ?_ | refine wR ?_ | refine wS ?_ | refine wB ?_ | refine wG ?_ | refine wD ?_ | refine wY ?_ | refine wZ ?_ | refine wK ?_ | refine wT ?_ | refine wX ?_)
  by_cases hlt : i < l.length
  · refine wp_yes rfl (decide_eq_true (by omega)) ?_
    obtain ⟨x, hx⟩ := get_of hlt
    obtain ⟨kc, hk, hq⟩ := hp x (List.mem_of_getElem? hx)
    have hkd : kc.dirty = [] := by rcases hq with rfl | rfl <;> rfl
    repeat (first | refine zE ?_ | refine zP ?_ | refine zD ?_ | refine zQ ?_ | refine zR ?_ | refine zS ?_ | refine wN ?_ | refine wM ?_ | refine wR ?_ | refine wS ?_ | refine wB ?_ | refine wG ?_ | refine wD ?_ | refine wY ?_ | refine wZ ?_ | refine wK ?_ | refine wT ?_ | refine wX ?_)
    refine zF (step_idx rfl rfl rfl rfl rfl rfl ⟨by omega, by omega⟩ (drop_rows (k := 3) tV_len hx)) ?_
    refine zF (step_enc rfl rfl rfl (tV_len _) rfl) ?_
    repeat (first | refine zE ?_ | refine zP ?_ | refine zD ?_ | refine zQ ?_ | refine zR ?_ | refine zS ?_ | refine wN ?_ | refine wM ?_ | refine wR ?_ | refine wS ?_ | refine wB ?_ | refine wG ?_ | refine wD ?_ | refine wY ?_ | refine wZ ?_ | refine wK ?_ | refine wT ?_ | refine wX ?_)
    refine zF (step_call (ev_callv rfl rfl rfl rfl hprim hbody) rfl hk) ?_
    rw [hkd]
    repeat (first | refine zE ?_ | refine zP ?_ | refine zD ?_ | refine zQ ?_ | refine zR ?_ | refine zS ?_ | refine wN ?_ | refine wM ?_ | refine wR ?_ | refine wS ?_ | refine wB ?_ | refine wG ?_ | refine wD ?_ | refine wY ?_ | refine wZ ?_ | refine wK ?_ | refine wT ?_ | refine wX ?_)
    cases h1 : pr x
    · repeat (first | refine zE ?_ | refine zP ?_ | refine zD ?_ | refine zQ ?_ | refine zR ?_ | refine zS ?_ | refine wN ?_ | refine wM ?_ | refine wR ?_ | refine wS ?_ | refine wB ?_ | refine wG ?_ | refine wD ?_ | refine wY ?_ | refine wZ ?_ | refine wK ?_ | refine wT ?_ | refine wX ?_)
      rw [wrap_succ (by omega)]
      exact ⟨(i + 1, .int .i64 (i : Int)), _, rfl, rfl, ⟨rfl, rfl, hlt, below_succ hb fun y hy => by rw [hx] at hy; cases hy; exact h1⟩, (by first | omega | (dsimp only; omega))⟩
    · repeat (first | refine zE ?_ | refine zP ?_ | refine zD ?_ | refine zQ ?_ | refine zR ?_ | refine zS ?_ | refine wN ?_ | refine wM ?_ | refine wR ?_ | refine wS ?_ | refine wB ?_ | refine wG ?_ | refine wD ?_ | refine wY ?_ | refine wZ ?_ | refine wK ?_ | refine wT ?_ | refine wX ?_)
      exact ⟨.inr rfl, _, rfl, rfl, rfl, rfl, by rw [idxF_at hx h1 hb]⟩
  refine wp_no rfl (decide_eq_false (by omega)) ?_
  repeat (first | refine zE ?_ | refine zP ?_ | refine zD ?_ | refine zQ ?_ | refine zR ?_ | refine zS ?_ | refine wN ?_ | refine wM ?_ | refine wR ?_ | refine wS ?_ | refine wB ?_ | refine wG ?_ | refine wD ?_ | refine wY ?_ | refine wZ ?_ | refine wK ?_ | refine wT ?_ | refine wX ?_)
  exact ⟨.inr rfl, _, rfl, rfl, rfl, rfl, by rw [idxF_none fun j hj x hx => hb j (by omega) x hx]⟩
theorem F265 : cfg.F 265 = some Tryz.f265 := rfl
set_option maxHeartbeats 2000000 in
theorem hasT_ent (l : List T) (f : Bool) (p : FuncId) (caps : List V) (pr : T → Bool) (H : Heap) (hl : l.length ≤ 9223372036854775807) (hprim : cfg.prim p = none) (hbody : ((cfg.F p).bind (·.body)).isSome = true)
    (hctx : (V.flats caps = true ∧ H = []) ∨ Obj caps)
    (hp : ∀ x, x ∈ l → Cf p (V.agg (tV x) :: caps) H (.bool (pr x))) : ∃ r, E 265 [.sl l.length f (rows tV l), .fn p caps] H = some r ∧ Quiet H r (.bool (l.any pr)) := by
  obtain ⟨r, he, hqr⟩ := idxT_ent l f p caps pr H hl hprim hbody hp
  obtain ⟨kc, hk, hq⟩ := hqr.cf he rfl (by decide) rfl (hctx.imp (fun h => ⟨by simp [V.flats, V.flat, h.1, flats_rows flat_tV], h.2⟩) fun h => h.strip (p := p) (by simp))
  have hkd : kc.dirty = [] := by rcases hq with rfl | rfl <;> rfl
  refine enter_wp (P := fun r => Quiet H r (.bool (l.any pr))) F265 rfl ?_
  simp only [show Tryz.f265.ntmps = 9 from rfl, List.length_cons, List.length_nil, List.replicate, List.cons_append, List.nil_append]
  repeat (first | refine zE ?_ | refine zP ?_ | refine zD ?_ | refine zQ ?_ | refine zR ?_ | refine zS ?_ | refine wN ?_ | refine wM ?_ | refine wR ?_ | refine wS ?_ | refine wB ?_ | refine wG ?_ | refine wD ?_ | refine wY ?_ | refine wZ ?_ | refine wK ?_ | refine wT ?_ | refine wX ?_)
  refine zF (step_call rfl rfl hk) ?_
  rw [hkd]
  repeat (first | refine zE ?_ | refine zP ?_ | refine zD ?_ | refine zQ ?_ | refine zR ?_ | refine zS ?_ | refine wN ?_ | refine wM ?_ | refine wR ?_ | refine wS ?_ | refine wB ?_ | refine wG ?_ | refine wD ?_ | refine wY ?_ | refine wZ ?_ | refine wK ?_ | refine wT ?_ | refine wX ?_)
  exact ⟨.inr rfl, _, rfl, rfl, rfl, rfl, by rw [idxF_any]⟩
theorem F46 : cfg.F 46 = some Tryz.f46 := rfl
set_option maxHeartbeats 2000000 in
theorem idxE_ent (l : List Eq2) (f : Bool) (p : FuncId) (caps : List V) (pr : Eq2 → Bool) (H : Heap) (hl : l.length ≤ 9223372036854775807) (hprim : cfg.prim p = none) (hbody : ((cfg.F p).bind (·.body)).isSome = true)
    (hp : ∀ x, x ∈ l → Cf p (V.agg (eV x) :: caps) H (.bool (pr x))) : ∃ r, E 46 [.sl l.length f (rows eV l), .fn p caps] H = some r ∧ Quiet H r (.int .i64 (idxF pr l)) := by
  refine enter_wp (P := fun r => Quiet H r (.int .i64 (idxF pr l))) F46 rfl ?_
  simp only [show Tryz.f46.ntmps = 19 from rfl, List.length_cons, List.length_nil, List.replicate, List.cons_append, List.nil_append]
  repeat (first | refine zE ?_ | refine zP ?_ | refine zD ?_ | refine zQ ?_ | refine zR ?_ | refine zS ?_ | refine wN ?_ | refine wM ?_ | refine wR ?_ | refine wS ?_ | refine wB ?_ | refine wG ?_ | refine wD ?_ | refine wY ?_ | refine wZ ?_ | refine wK ?_ | refine wT ?_ | refine wX ?_)
  refine wp_loop3 10 (fun a : Nat × V => [.sl l.length f (rows eV l), .fn p caps, .junk, .junk, .int .i64 0, a.2, .sl l.length f (rows eV l), .int .i64 (l.length : Int), .int .i64 (a.1 : Int)] ++ []) (fun a H' d => H' = H ∧ d = [] ∧ a.1 ≤ l.length ∧ ∀ j, j < a.1 → ∀ x, l[j]? = some x → pr x = false) (fun a => l.length - a.1) (0, .junk) ⟨_, rfl, rfl, rfl, rfl, Nat.zero_le _, fun j hj => by omega⟩ ?_
  rintro ⟨i, v5⟩ H' d u ⟨rfl, rfl, hi, hb⟩
  dsimp only at hi hb ⊢
  (rw [show (List.range 10).map u = [u 0, u 1, u 2, u 3, u 4, u 5, u 6, u 7, u 8, u 9] from rfl]; simp only [List.cons_append, List.nil_append])
  repeat (first | refine zE ?_ | refine zP ?_ | refine zD ?_ | refine zQ ?_ | refine zR ?_ | refine zS ?_ | refine wN ?_ | refine wM ?_ | refine wR ?_ | refine wS ?_ | refine wB ?_ | refine wG ?_ | refine wD ?_ | refine wY ?_ | refine wZ ?_ | refine wK ?_ | refine wT ?_ | refine wX ?_)
  by_cases hlt : i < l.length
  · refine wp_yes rfl (decide_eq_true (by omega)) ?_
    obtain ⟨x, hx⟩ := get_of hlt
    obtain ⟨kc, hk, hq⟩ := hp x (List.mem_of_getElem? hx)
    have hkd : kc.dirty = [] := by rcases hq with rfl | rfl <;> rfl
    repeat (first | refine zE ?_ | refine zP ?_ | refine zD ?_ | refine zQ ?_ | refine zR ?_ | refine zS ?_ | refine wN ?_ | refine wM ?_ | refine wR ?_ | refine wS ?_ | refine wB ?_ | refine wG ?_ | refine wD ?_ | refine wY ?_ | refine wZ ?_ | refine wK ?_ | refine wT ?_ | refine wX ?_)
    refine zF (step_idx rfl rfl rfl rfl rfl rfl ⟨by omega, by omega⟩ (drop_rows (k := 8) eV_len hx)) ?_
    refine zF (step_enc rfl rfl rfl (eV_len _) rfl) ?_
    repeat (first | refine zE ?_ | refine zP ?_ | refine zD ?_ | refine zQ ?_ | refine zR ?_ | refine zS ?_ | refine wN ?_ | refine wM ?_ | refine wR ?_ | refine wS ?_ | refine wB ?_ | refine wG ?_ | refine wD ?_ | refine wY ?_ | refine wZ ?_ | refine wK ?_ | refine wT ?_ | refine wX ?_)
    refine zF (step_call (ev_callv rfl rfl rfl rfl hprim hbody) rfl hk) ?_
    rw [hkd]
    repeat (first | refine zE ?_ | refine zP ?_ | refine zD ?_ | refine zQ ?_ | refine zR ?_ | refine zS ?_ | refine wN ?_ | refine wM ?_ | refine wR ?_ | refine wS ?_ | refine wB ?_ | refine wG ?_ | refine wD ?_ | refine wY ?_ | refine wZ ?_ | refine wK ?_ | refine wT ?_ | refine wX ?_)
    cases h1 : pr x
    · repeat (first | refine zE ?_ | refine zP ?_ | refine zD ?_ | refine zQ ?_ | refine zR ?_ | refine zS ?_ | refine wN ?_ | refine wM ?_ | refine wR ?_ | refine wS ?_ | refine wB ?_ | refine wG ?_ | refine wD ?_ | refine wY ?_ | refine wZ ?_ | refine wK ?_ | refine wT ?_ | refine wX ?_)
      rw [wrap_succ (by omega)]
      exact ⟨(i + 1, .int .i64 (i : Int)), _, rfl, rfl, ⟨rfl, rfl, hlt, below_succ hb fun y hy => by rw [hx] at hy; cases hy; exact h1⟩, (by first | omega | (dsimp only; omega))⟩
    · repeat (first | refine zE ?_ | refine zP ?_ | refine zD ?_ | refine zQ ?_ | refine zR ?_ | refine zS ?_ | refine wN ?_ | refine wM ?_ | refine wR ?_ | refine wS ?_ | refine wB ?_ | refine wG ?_ | refine wD ?_ | refine wY ?_ | refine wZ ?_ | refine wK ?_ | refine wT ?_ | refine wX ?_)
      exact ⟨.inr rfl, _, rfl, rfl, rfl, rfl, by rw [idxF_at hx h1 hb]⟩
  refine wp_no rfl (decide_eq_false (by omega)) ?_
  repeat (first | refine zE ?_ | refine zP ?_ | refine zD ?_ | refine zQ ?_ | refine zR ?_ | refine zS ?_ | refine wN ?_ | refine wM ?_ | refine wR ?_ | refine wS ?_ | refine wB ?_ | refine wG ?_ | refine wD ?_ | refine wY ?_ | refine wZ ?_ | refine wK ?_ | refine wT ?_ | refine wX ?_)
  exact ⟨.inr rfl, _, rfl, rfl, rfl, rfl, by rw [idxF_none fun j hj x hx => hb j (by omega) x hx]⟩
theorem F129 : cfg.F 129 = some Tryz.f129 := rfl
set_option maxHeartbeats 2000000 in
theorem hasE_ent (l : List Eq2) (f : Bool) (p : FuncId) (caps : List V) (pr : Eq2 → Bool) (H : Heap) (hl : l.length ≤ 9223372036854775807) (hprim : cfg.prim p = none) (hbody : ((cfg.F p).bind (·.body)).isSome = true)
    (hctx : (V.flats caps = true ∧ H = []) ∨ Obj caps)
    (hp : ∀ x, x ∈ l → Cf p (V.agg (eV x) :: caps) H (.bool (pr x))) : ∃ r, E 129 [.sl l.length f (rows eV l), .fn p caps] H = some r ∧ Quiet H r (.bool (l.any pr)) := by
  obtain ⟨r, he, hqr⟩ := idxE_ent l f p caps pr H hl hprim hbody hp
  obtain ⟨kc, hk, hq⟩ := hqr.cf he rfl (by decide) rfl (hctx.imp (fun h => ⟨by simp [V.flats, V.flat, h.1, flats_rows flat_eV], h.2⟩) fun h => h.strip (p := p) (by simp))
  have hkd : kc.dirty = [] := by rcases hq with rfl | rfl <;> rfl
  refine enter_wp (P := fun r => Quiet H r (.bool (l.any pr))) F129 rfl ?_
  simp only [show Tryz.f129.ntmps = 9 from rfl, List.length_cons, List.length_nil, List.replicate, List.cons_append, List.nil_append]
  repeat (first | refine zE ?_ | refine zP ?_ | refine zD ?_ | refine zQ ?_ | refine zR ?_ | refine zS ?_ | refine wN ?_ | refine wM ?_ | refine wR ?_ | refine wS ?_ | refine wB ?_ | refine wG ?_ | refine wD ?_ | refine wY ?_ | refine wZ ?_ | refine wK ?_ | refine wT ?_ | refine wX ?_)
  refine zF (step_call rfl rfl hk) ?_
  rw [hkd]
  repeat (first | refine zE ?_ | refine zP ?_ | refine zD ?_ | refine zQ ?_ | refine zR ?_ | refine zS ?_ | refine wN ?_ | refine wM ?_ | refine wR ?_ | refine wS ?_ | refine wB ?_ | refine wG ?_ | refine wD ?_ | refine wY ?_ | refine wZ ?_ | refine wK ?_ | refine wT ?_ | refine wX ?_)
  exact ⟨.inr rfl, _, rfl, rfl, rfl, rfl, by rw [idxF_any]⟩
theorem F166 : cfg.F 166 = some Tryz.f166 := rfl
set_option maxHeartbeats 2000000 in
theorem idxY_ent (l : List Ty) (f : Bool) (p : FuncId) (caps : List V) (pr : Ty → Bool) (H : Heap) (hl : l.length ≤ 9223372036854775807) (hprim : cfg.prim p = none) (hbody : ((cfg.F p).bind (·.body)).isSome = true)
    (hp : ∀ x, x ∈ l → Cf p (V.agg (yV x) :: caps) H (.bool (pr x))) : ∃ r, E 166 [.sl l.length f (rows yV l), .fn p caps] H = some r ∧ Quiet H r (.int .i64 (idxF pr l)) := by
  refine enter_wp (P := fun r => Quiet H r (.int .i64 (idxF pr l))) F166 rfl ?_
  simp only [show Tryz.f166.ntmps = 19 from rfl, List.length_cons, List.length_nil, List.replicate, List.cons_append, List.nil_append]
  repeat (first | refine zE ?_ | refine zP ?_ | refine zD ?_ | refine zQ ?_ | refine zR ?_ | refine zS ?_ | refine wN ?_ | refine wM ?_ | refine wR ?_ | refine wS ?_ | refine wB ?_ | refine wG ?_ | refine wD ?_ | refine wY ?_ | refine wZ ?_ | refine wK ?_ | refine wT ?_ | refine wX ?_)
  refine wp_loop3 10 (fun a : Nat × V => [.sl l.length f (rows yV l), .fn p caps, .junk, .junk, .int .i64 0, a.2, .sl l.length f (rows yV l), .int .i64 (l.length : Int), .int .i64 (a.1 : Int)] ++ []) (fun a H' d => H' = H ∧ d = [] ∧ a.1 ≤ l.length ∧ ∀ j, j < a.1 → ∀ x, l[j]? = some x → pr x = false) (fun a => l.length - a.1) (0, .junk) ⟨_, rfl, rfl, rfl, rfl, Nat.zero_le _, fun j hj => by omega⟩ ?_
  rintro ⟨i, v5⟩ H' d u ⟨rfl, rfl, hi, hb⟩
  dsimp only at hi hb ⊢
  (rw [show (List.range 10).map u = [u 0, u 1, u 2, u 3, u 4, u 5, u 6, u 7, u 8, u 9] from rfl]; simp only [List.cons_append, List.nil_append])
  repeat (first | refine zE ?_ | refine zP ?_ | refine zD ?_ | refine zQ ?_ | refine zR ?_ | refine zS ?_ | refine wN ?_ | refine wM ?_ | refine wR ?_ | refine wS ?_ | refine wB ?_ | refine wG ?_ | refine wD ?_ | refine wY ?_ | refine wZ ?_ | refine wK ?_ | refine wT ?_ | refine wX ?_)
  by_cases hlt : i < l.length
  · refine wp_yes rfl (decide_eq_true (by omega)) ?_
    obtain ⟨x, hx⟩ := get_of hlt
    obtain ⟨kc, hk, hq⟩ := hp x (List.mem_of_getElem? hx)
    have hkd : kc.dirty = [] := by rcases hq with rfl | rfl <;> rfl
    repeat (first | refine zE ?_ | refine zP ?_ | refine zD ?_ | refine zQ ?_ | refine zR ?_ | refine zS ?_ | refine wN ?_ | refine wM ?_ | refine wR ?_ | refine wS ?_ | refine wB ?_ | refine wG ?_ | refine wD ?_ | refine wY ?_ | refine wZ ?_ | refine wK ?_ | refine wT ?_ | refine wX ?_)
    refine zF (step_idx rfl rfl rfl rfl rfl rfl ⟨by omega, by omega⟩ (drop_rows (k := 3) yV_len hx)) ?_
    refine zF (step_enc rfl rfl rfl (yV_len _) rfl) ?_
    repeat (first | refine zE ?_ | refine zP ?_ | refine zD ?_ | refine zQ ?_ | refine zR ?_ | refine zS ?_ | refine wN ?_ | refine wM ?_ | refine wR ?_ | refine wS ?_ | refine wB ?_ | refine wG ?_ | refine wD ?_ | refine wY ?_ | refine wZ ?_ | refine wK ?_ | refine wT ?_ | refine wX ?_)
    refine zF (step_call (ev_callv rfl rfl rfl rfl hprim hbody) rfl hk) ?_
    rw [hkd]
    repeat (first | refine zE ?_ | refine zP ?_ | refine zD ?_ | refine zQ ?_ | refine zR ?_ | refine zS ?_ | refine wN ?_ | refine wM ?_ | refine wR ?_ | refine wS ?_ | refine wB ?_ | refine wG ?_ | refine wD ?_ | refine wY ?_ | refine wZ ?_ | refine wK ?_ | refine wT ?_ | refine wX ?_)
    cases h1 : pr x
    · repeat (first | refine zE ?_ | refine zP ?_ | refine zD ?_ | refine zQ ?_ | refine zR ?_ | refine zS ?_ | refine wN ?_ | refine wM ?_ | refine wR ?_ | refine wS ?_ | refine wB ?_ | refine wG ?_ | refine wD ?_ | refine wY ?_ | refine wZ ?_ | refine wK ?_ | refine wT ?_ | refine wX ?_)
      rw [wrap_succ (by omega)]
      exact ⟨(i + 1, .int .i64 (i : Int)), _, rfl, rfl, ⟨rfl, rfl, hlt, below_succ hb fun y hy => by rw [hx] at hy; cases hy; exact h1⟩, (by first | omega | (dsimp only; omega))⟩
    · repeat (first | refine zE ?_ | refine zP ?_ | refine zD ?_ | refine zQ ?_ | refine zR ?_ | refine zS ?_ | refine wN ?_ | refine wM ?_ | refine wR ?_ | refine wS ?_ | refine wB ?_ | refine wG ?_ | refine wD ?_ | refine wY ?_ | refine wZ ?_ | refine wK ?_ | refine wT ?_ | refine wX ?_)
      exact ⟨.inr rfl, _, rfl, rfl, rfl, rfl, by rw [idxF_at hx h1 hb]⟩
  refine wp_no rfl (decide_eq_false (by omega)) ?_
  repeat (first | refine zE ?_ | refine zP ?_ | refine zD ?_ | refine zQ ?_ | refine zR ?_ | refine zS ?_ | refine wN ?_ | refine wM ?_ | refine wR ?_ | refine wS ?_ | refine wB ?_ | refine wG ?_ | refine wD ?_ | refine wY ?_ | refine wZ ?_ | refine wK ?_ | refine wT ?_ | refine wX ?_)
  exact ⟨.inr rfl, _, rfl, rfl, rfl, rfl, by rw [idxF_none fun j hj x hx => hb j (by omega) x hx]⟩
theorem F99 : cfg.F 99 = some Tryz.f99 := rfl
set_option maxHeartbeats 2000000 in
theorem hasY_ent (l : List Ty) (f : Bool) (p : FuncId) (caps : List V) (pr : Ty → Bool) (H : Heap) (hl : l.length ≤ 9223372036854775807) (hprim : cfg.prim p = none) (hbody : ((cfg.F p).bind (·.body)).isSome = true)
    (hctx : (V.flats caps = true ∧ H = []) ∨ Obj caps)
    (hp : ∀ x, x ∈ l → Cf p (V.agg (yV x) :: caps) H (.bool (pr x))) : ∃ r, E 99 [.sl l.length f (rows yV l), .fn p caps] H = some r ∧ Quiet H r (.bool (l.any pr)) := by
  obtain ⟨r, he, hqr⟩ := idxY_ent l f p caps pr H hl hprim hbody hp
  obtain ⟨kc, hk, hq⟩ := hqr.cf he rfl (by decide) rfl (hctx.imp (fun h => ⟨by simp [V.flats, V.flat, h.1, flats_rows flat_yV], h.2⟩) fun h => h.strip (p := p) (by simp))
  have hkd : kc.dirty = [] := by rcases hq with rfl | rfl <;> rfl
  refine enter_wp (P := fun r => Quiet H r (.bool (l.any pr))) F99 rfl ?_
  simp only [show Tryz.f99.ntmps = 9 from rfl, List.length_cons, List.length_nil, List.replicate, List.cons_append, List.nil_append]
  repeat (first | refine zE ?_ | refine zP ?_ | refine zD ?_ | refine zQ ?_ | refine zR ?_ | refine zS ?_ | refine wN ?_ | refine wM ?_ | refine wR ?_ | refine wS ?_ | refine wB ?_ | refine wG ?_ | refine wD ?_ | refine wY ?_ | refine wZ ?_ | refine wK ?_ | refine wT ?_ | refine wX ?_)
  refine zF (step_call rfl rfl hk) ?_
  rw [hkd]
  repeat (first | refine zE ?_ | refine zP ?_ | refine zD ?_ | refine zQ ?_ | refine zR ?_ | refine zS ?_ | refine wN ?_ | refine wM ?_ | refine wR ?_ | refine wS ?_ | refine wB ?_ | refine wG ?_ | refine wD ?_ | refine wY ?_ | refine wZ ?_ | refine wK ?_ | refine wT ?_ | refine wX ?_)
  exact ⟨.inr rfl, _, rfl, rfl, rfl, rfl, by rw [idxF_any]⟩
theorem F235 : cfg.F 235 = some Tryz.f235 := rfl
set_option maxHeartbeats 2000000 in
theorem idxI_ent (l : List Int) (f : Bool) (p : FuncId) (caps : List V) (pr : Int → Bool) (H : Heap) (hl : l.length ≤ 9223372036854775807) (hprim : cfg.prim p = none) (hbody : ((cfg.F p).bind (·.body)).isSome = true)
    (hp : ∀ x, x ∈ l → Cf p (V.int .i64 x :: caps) H (.bool (pr x))) : ∃ r, E 235 [.sl l.length f (rows intV l), .fn p caps] H = some r ∧ Quiet H r (.int .i64 (idxF pr l)) := by
  refine enter_wp (P := fun r => Quiet H r (.int .i64 (idxF pr l))) F235 rfl ?_
  simp only [show Tryz.f235.ntmps = 19 from rfl, List.length_cons, List.length_nil, List.replicate, List.cons_append, List.nil_append]
  repeat (first | refine zE ?_ | refine zP ?_ | refine zD ?_ | refine zQ ?_ | refine zR ?_ | refine zS ?_ | refine wN ?_ | refine wM ?_ | refine wR ?_ | refine wS ?_ | refine wB ?_ | refine wG ?_ | refine wD ?_ | refine wY ?_ | refine wZ ?_ | refine wK ?_ | refine wT ?_ | refine wX ?_)
  refine wp_loop3 10 (fun a : Nat × V => [.sl l.length f (rows intV l), .fn p caps, .junk, .junk, .int .i64 0, a.2, .sl l.length f (rows intV l), .int .i64 (l.length : Int), .int .i64 (a.1 : Int)] ++ []) (fun a H' d => H' = H ∧ d = [] ∧ a.1 ≤ l.length ∧ ∀ j, j < a.1 → ∀ x, l[j]? = some x → pr x = false) (fun a => l.length - a.1) (0, .junk) ⟨_, rfl, rfl, rfl, rfl, Nat.zero_le _, fun j hj => by omega⟩ ?_
  rintro ⟨i, v5⟩ H' d u ⟨rfl, rfl, hi, hb⟩
  dsimp only at hi hb ⊢
  (rw [show (List.range 10).map u = [u 0, u 1, u 2, u 3, u 4, u 5, u 6, u 7, u 8, u 9] from rfl]; simp only [List.cons_append, List.nil_append])
  repeat (first | refine zE ?_ | refine zP ?_ | refine zD ?_ | refine zQ ?_ | refine zR ?_ | refine zS ?_ | refine wN ?_ | refine wM ?_ | refine wR ?_ | refine wS ?_ | refine wB ?_ | refine wG ?_ | refine wD ?_ | refine wY ?_ | refine wZ ?_ | refine wK ?_ | refine wT ?_ | refine wX ?_)
  by_cases hlt : i < l.length
  · refine wp_yes rfl (decide_eq_true (by omega)) ?_
    obtain ⟨x, hx⟩ := get_of hlt
    obtain ⟨kc, hk, hq⟩ := hp x (List.mem_of_getElem? hx)
    have hkd : kc.dirty = [] := by rcases hq with rfl | rfl <;> rfl
    repeat (first | refine zE ?_ | refine zP ?_ | refine zD ?_ | refine zQ ?_ | refine zR ?_ | refine zS ?_ | refine wN ?_ | refine wM ?_ | refine wR ?_ | refine wS ?_ | refine wB ?_ | refine wG ?_ | refine wD ?_ | refine wY ?_ | refine wZ ?_ | refine wK ?_ | refine wT ?_ | refine wX ?_)
    refine zF (step_idx rfl rfl rfl rfl rfl rfl ⟨by omega, by omega⟩ (drop_rows (k := 1) intV_len hx)) ?_
    
    repeat (first | refine zE ?_ | refine zP ?_ | refine zD ?_ | refine zQ ?_ | refine zR ?_ | refine zS ?_ | refine wN ?_ | refine wM ?_ | refine wR ?_ | refine wS ?_ | refine wB ?_ | refine wG ?_ | refine wD ?_ | refine wY ?_ | refine wZ ?_ | refine wK ?_ | refine wT ?_ | refine wX ?_)
    refine zF (step_call (ev_callv rfl rfl rfl rfl hprim hbody) rfl hk) ?_
    rw [hkd]
    repeat (first | refine zE ?_ | refine zP ?_ | refine zD ?_ | refine zQ ?_ | refine zR ?_ | refine zS ?_ | refine wN ?_ | refine wM ?_ | refine wR ?_ | refine wS ?_ | refine wB ?_ | refine wG ?_ | refine wD ?_ | refine wY ?_ | refine wZ ?_ | refine wK ?_ | refine wT ?_ | refine wX ?_)
    cases h1 : pr x
    · repeat (first | refine zE ?_ | refine zP ?_ | refine zD ?_ | refine zQ ?_ | refine zR ?_ | refine zS ?_ | refine wN ?_ | refine wM ?_ | refine wR ?_ | refine wS ?_ | refine wB ?_ | refine wG ?_ | refine wD ?_ | refine wY ?_ | refine wZ ?_ | refine wK ?_ | refine wT ?_ | refine wX ?_)
      rw [wrap_succ (by omega)]
      exact ⟨(i + 1, .int .i64 (i : Int)), _, rfl, rfl, ⟨rfl, rfl, hlt, below_succ hb fun y hy => by rw [hx] at hy; cases hy; exact h1⟩, (by first | omega | (dsimp only; omega))⟩
    · repeat (first | refine zE ?_ | refine zP ?_ | refine zD ?_ | refine zQ ?_ | refine zR ?_ | refine zS ?_ | refine wN ?_ | refine wM ?_ | refine wR ?_ | refine wS ?_ | refine wB ?_ | refine wG ?_ | refine wD ?_ | refine wY ?_ | refine wZ ?_ | refine wK ?_ | refine wT ?_ | refine wX ?_)
      exact ⟨.inr rfl, _, rfl, rfl, rfl, rfl, by rw [idxF_at hx h1 hb]⟩
  refine wp_no rfl (decide_eq_false (by omega)) ?_
  repeat (first | refine zE ?_ | refine zP ?_ | refine zD ?_ | refine zQ ?_ | refine zR ?_ | refine zS ?_ | refine wN ?_ | refine wM ?_ | refine wR ?_ | refine wS ?_ | refine wB ?_ | refine wG ?_ | refine wD ?_ | refine wY ?_ | refine wZ ?_ | refine wK ?_ | refine wT ?_ | refine wX ?_)
  exact ⟨.inr rfl, _, rfl, rfl, rfl, rfl, by rw [idxF_none fun j hj x hx => hb j (by omega) x hx]⟩
theorem F182 : cfg.F 182 = some Tryz.f182 := rfl
set_option maxHeartbeats 2000000 in
theorem hasI_ent (l : List Int) (f : Bool) (p : FuncId) (caps : List V) (pr : Int → Bool) (H : Heap) (hl : l.length ≤ 9223372036854775807) (hprim : cfg.prim p = none) (hbody : ((cfg.F p).bind (·.body)).isSome = true)
    (hctx : (V.flats caps = true ∧ H = []) ∨ Obj caps)
    (hp : ∀ x, x ∈ l → Cf p (V.int .i64 x :: caps) H (.bool (pr x))) : ∃ r, E 182 [.sl l.length f (rows intV l), .fn p caps] H = some r ∧ Quiet H r (.bool (l.any pr)) := by
  obtain ⟨r, he, hqr⟩ := idxI_ent l f p caps pr H hl hprim hbody hp
  obtain ⟨kc, hk, hq⟩ := hqr.cf he rfl (by decide) rfl (hctx.imp (fun h => ⟨by simp [V.flats, V.flat, h.1, flats_rows intV_flat], h.2⟩) fun h => h.strip (p := p) (by simp))
  have hkd : kc.dirty = [] := by rcases hq with rfl | rfl <;> rfl
  refine enter_wp (P := fun r => Quiet H r (.bool (l.any pr))) F182 rfl ?_
  simp only [show Tryz.f182.ntmps = 9 from rfl, List.length_cons, List.length_nil, List.replicate, List.cons_append, List.nil_append]
  repeat (first | refine zE ?_ | refine zP ?_ | refine zD ?_ | refine zQ ?_ | refine zR ?_ | refine zS ?_ | refine wN ?_ | refine wM ?_ | refine wR ?_ | refine wS ?_ | refine wB ?_ | refine wG ?_ | refine wD ?_ | refine wY ?_ | refine wZ ?_ | refine wK ?_ | refine wT ?_ | refine wX ?_)
  refine zF (step_call rfl rfl hk) ?_
  rw [hkd]
  repeat (first | refine zE ?_ | refine zP ?_ | refine zD ?_ | refine zQ ?_ | refine zR ?_ | refine zS ?_ | refine wN ?_ | refine wM ?_ | refine wR ?_ | refine wS ?_ | refine wB ?_ | refine wG ?_ | refine wD ?_ | refine wY ?_ | refine wZ ?_ | refine wK ?_ | refine wT ?_ | refine wX ?_)
  exact ⟨.inr rfl, _, rfl, rfl, rfl, rfl, by rw [idxF_any]⟩
end Go.Av
namespace Go.Av
open Go.Proofs
set_option maxRecDepth 100000
def overB (t : Ty) : Bool := decide ((t.eqns.length : Int) > 401) || (decide ((t.sig.ops.length : Int) > 300) || decide ((t.sig.sorts.length : Int) > 100))
theorem F100 : cfg.F 100 = some Tryz.f100 := rfl
theorem few1_fn (t : Ty) : Fn 100 [.agg (yV t)] (.bool (overB t)) := by
  unfold overB
  refine Fn.of_wp F100 rfl ?_
  simp only [show Tryz.f100.ntmps = 21 from rfl, List.length_cons, List.length_nil, List.replicate, List.cons_append, List.nil_append]
  repeat (first | refine zE ?_ | refine zP ?_ | refine zD ?_ | refine zQ ?_ | refine zR ?_ | refine zS ?_ | refine wN ?_ | refine wM ?_ | refine wR ?_ | refine wS ?_ | refine wB ?_ | refine wG ?_ | refine wD ?_ | refine wY ?_ | refine wZ ?_ | refine wK ?_ | refine wT ?_ | refine wX ?_)
  cases h1 : decide ((t.eqns.length : Int) > 401)
  case true =>
    repeat (first | refine zE ?_ | refine zP ?_ | refine zD ?_ | refine zQ ?_ | refine zR ?_ | refine zS ?_ | refine wN ?_ | refine wM ?_ | refine wR ?_ | refine wS ?_ | refine wB ?_ | refine wG ?_ | refine wD ?_ | refine wY ?_ | refine wZ ?_ | refine wK ?_ | refine wT ?_ | refine wX ?_)
    exact ⟨.inr rfl, _, rfl, rfl⟩
  repeat (first | refine zE ?_ | refine zP ?_ | refine zD ?_ | refine zQ ?_ | refine zR ?_ | refine zS ?_ | refine wN ?_ | refine wM ?_ | refine wR ?_ | refine wS ?_ | refine wB ?_ | refine wG ?_ | refine wD ?_ | refine wY ?_ | refine wZ ?_ | refine wK ?_ | refine wT ?_ | refine wX ?_)
  cases h2 : decide ((t.sig.ops.length : Int) > 300)
  case true =>
    repeat (first | refine zE ?_ | refine zP ?_ | refine zD ?_ | refine zQ ?_ | refine zR ?_ | refine zS ?_ | refine wN ?_ | refine wM ?_ | refine wR ?_ | refine wS ?_ | refine wB ?_ | refine wG ?_ | refine wD ?_ | refine wY ?_ | refine wZ ?_ | refine wK ?_ | refine wT ?_ | refine wX ?_)
    exact ⟨.inr rfl, _, rfl, rfl⟩
  repeat (first | refine zE ?_ | refine zP ?_ | refine zD ?_ | refine zQ ?_ | refine zR ?_ | refine zS ?_ | refine wN ?_ | refine wM ?_ | refine wR ?_ | refine wS ?_ | refine wB ?_ | refine wG ?_ | refine wD ?_ | refine wY ?_ | refine wZ ?_ | refine wK ?_ | refine wT ?_ | refine wX ?_)
  exact ⟨.inr rfl, _, rfl, rfl⟩
theorem F34 : cfg.F 34 = some Tryz.f34 := rfl
theorem few_fn (l : List Ty) (f : Bool) (hl : l.length ≤ 9223372036854775807) : Fn 34 [.sl l.length f (rows yV l)] (.bool !(l.any overB)) := by
  obtain ⟨r, he, hq⟩ := hasY_ent l f 100 [] overB [] hl rfl rfl (.inl ⟨rfl, rfl⟩) fun x _ => (few1_fn x).cf (by decide) rfl (by simp [V.flats, V.flat, flat_tV, flat_sV, flat_ints, flat_oV, flat_eV, flat_yV, flat_strs, flats_rows flat_oV, flats_rows flat_eV, flats_rows flat_yV]) []
  refine Fn.of_wp F34 rfl ?_
  simp only [show Tryz.f34.ntmps = 6 from rfl, List.length_cons, List.length_nil, List.replicate, List.cons_append, List.nil_append]
  repeat (first | refine zE ?_ | refine zP ?_ | refine zD ?_ | refine zQ ?_ | refine zR ?_ | refine zS ?_ | refine wN ?_ | refine wM ?_ | refine wR ?_ | refine wS ?_ | refine wB ?_ | refine wG ?_ | refine wD ?_ | refine wY ?_ | refine wZ ?_ | refine wK ?_ | refine wT ?_ | refine wX ?_)
  refine zF (step_call rfl rfl ((hq.fn he rfl rfl).cl)) ?_
  repeat (first | refine zE ?_ | refine zP ?_ | refine zD ?_ | refine zQ ?_ | refine zR ?_ | refine zS ?_ | refine wN ?_ | refine wM ?_ | refine wR ?_ | refine wS ?_ | refine wB ?_ | refine wG ?_ | refine wD ?_ | refine wY ?_ | refine wZ ?_ | refine wK ?_ | refine wT ?_ | refine wX ?_)
  exact ⟨.inr rfl, _, rfl, rfl⟩
theorem idx3 (b : UInt8) : decide (idxB (UInt8.ofNat ((b.toNat : Int)).toNat) [40, 41, 44] 0 ≥ 0) = (decide (b.toNat = 40) || (decide (b.toNat = 41) || decide (b.toNat = 44))) := by
  rw [Int.toNat_natCast, UInt8.ofNat_toNat]
  have key : ∀ c : UInt8, ((c == b) = decide (b.toNat = c.toNat)) := fun c => by
    by_cases h : b = c
    · subst h; simp
    · have : b.toNat ≠ c.toNat := fun e => h (UInt8.toNat_inj.1 e)
      simp [this, Ne.symm h]
  unfold idxB idxB idxB idxB
  rw [key, key, key]
  simp only [show (40 : UInt8).toNat = 40 from rfl, show (41 : UInt8).toNat = 41 from rfl, show (44 : UInt8).toNat = 44 from rfl]
  cases decide (b.toNat = 40) <;> cases decide (b.toNat = 41) <;> cases decide (b.toNat = 44) <;> rfl
theorem F178 : cfg.F 178 = some Tryz.f178 := rfl
set_option maxHeartbeats 2000000 in
theorem isName_fn (s : ByteArray) (hs : s.size ≤ 9223372036854775807) : Fn 178 [.str s] (.bool (isNameB s)) := by
  refine Fn.of_wp F178 rfl ?_
  simp only [show Tryz.f178.ntmps = 35 from rfl, List.length_cons, List.length_nil, List.replicate, List.cons_append, List.nil_append]
  repeat (first | refine zE ?_ | refine zP ?_ | refine zD ?_ | refine zQ ?_ | refine zR ?_ | refine zS ?_ | refine wN ?_ | refine wM ?_ | refine wR ?_ | refine wS ?_ | refine wB ?_ | refine wG ?_ | refine wD ?_ | refine wY ?_ | refine wZ ?_ | refine wK ?_ | refine wT ?_ | refine wX ?_)
  cases h1 : decide ((s.size : Int) < 1)
  case true =>
    rw [isNameB_all, decide_eq_false (show ¬ 1 ≤ s.size by have := of_decide_eq_true h1; omega)]
    repeat (first | refine zE ?_ | refine zP ?_ | refine zD ?_ | refine zQ ?_ | refine zR ?_ | refine zS ?_ | refine wN ?_ | refine wM ?_ | refine wR ?_ | refine wS ?_ | refine wB ?_ | refine wG ?_ | refine wD ?_ | refine wY ?_ | refine wZ ?_ | refine wK ?_ | refine wT ?_ | refine wX ?_)
    exact ⟨.inr rfl, _, rfl, rfl⟩
  repeat (first | refine zE ?_ | refine zP ?_ | refine zD ?_ | refine zQ ?_ | refine zR ?_ | refine zS ?_ | refine wN ?_ | refine wM ?_ | refine wR ?_ | refine wS ?_ | refine wB ?_ | refine wG ?_ | refine wD ?_ | refine wY ?_ | refine wZ ?_ | refine wK ?_ | refine wT ?_ | refine wX ?_)
  cases h2 : decide ((s.size : Int) > 32)
  case true =>
    rw [isNameB_all, decide_eq_false (show ¬ s.size ≤ 32 by have := of_decide_eq_true h2; omega), Bool.and_false]
    repeat (first | refine zE ?_ | refine zP ?_ | refine zD ?_ | refine zQ ?_ | refine zR ?_ | refine zS ?_ | refine wN ?_ | refine wM ?_ | refine wR ?_ | refine wS ?_ | refine wB ?_ | refine wG ?_ | refine wD ?_ | refine wY ?_ | refine wZ ?_ | refine wK ?_ | refine wT ?_ | refine wX ?_)
    exact ⟨.inr rfl, _, rfl, rfl⟩
  have h1' := of_decide_eq_false h1
  have h2' := of_decide_eq_false h2
  have hsz : s.data.toList.length = s.size := by simp
  repeat (first | refine zE ?_ | refine zP ?_ | refine zD ?_ | refine zQ ?_ | refine zR ?_ | refine zS ?_ | refine wN ?_ | refine wM ?_ | refine wR ?_ | refine wS ?_ | refine wB ?_ | refine wG ?_ | refine wD ?_ | refine wY ?_ | refine wZ ?_ | refine wK ?_ | refine wT ?_ | refine wX ?_)
  refine wp_loop2 20 (fun a : Nat × V => [.str s, .junk, .bool false, a.2, .str s, .int .i64 (s.size : Int), .bool false, .bool false, .str s, .int .i64 (s.size : Int), .bool false, .bool false, .str s, .int .i64 (s.size : Int), .int .i64 (a.1 : Int)]) (fun a H => H = [] ∧ a.1 ≤ s.size ∧ ∀ j, j < a.1 → ∀ x, s.data.toList[j]? = some x → goodByte x = true) (fun a => s.size - a.1) (0, .junk) ⟨_, rfl, rfl, rfl, Nat.zero_le _, fun j hj => by omega⟩ ?_
  rintro ⟨i, v3⟩ H d u ⟨rfl, hi, hb⟩
  dsimp only at hi hb ⊢
  (rw [show (List.range 20).map u = [u 0, u 1, u 2, u 3, u 4, u 5, u 6, u 7, u 8, u 9, u 10, u 11, u 12, u 13, u 14, u 15, u 16, u 17, u 18, u 19] from rfl]; simp only [List.cons_append, List.nil_append])
  repeat (first | refine zE ?_ | refine zP ?_ | refine zD ?_ | refine zQ ?_ | refine zR ?_ | refine zS ?_ | refine wN ?_ | refine wM ?_ | refine wR ?_ | refine wS ?_ | refine wB ?_ | refine wG ?_ | refine wD ?_ | refine wY ?_ | refine wZ ?_ | refine wK ?_ | refine wT ?_ | refine wX ?_)
  by_cases hlt : i < s.size
  · refine wp_yes rfl (decide_eq_true (by omega)) ?_
    obtain ⟨b, hx, hx2⟩ := byte_of hlt
    have bad : goodByte b = false → isNameB s = false := fun h => by rw [isNameB_all, all_no hx2 h, Bool.and_false]
    repeat (first | refine zE ?_ | refine zP ?_ | refine zD ?_ | refine zQ ?_ | refine zR ?_ | refine zS ?_ | refine wN ?_ | refine wM ?_ | refine wR ?_ | refine wS ?_ | refine wB ?_ | refine wG ?_ | refine wD ?_ | refine wY ?_ | refine wZ ?_ | refine wK ?_ | refine wT ?_ | refine wX ?_)
    refine zF (step_byte rfl rfl rfl rfl rfl (by omega) hx) ?_
    repeat (first | refine zE ?_ | refine zP ?_ | refine zD ?_ | refine zQ ?_ | refine zR ?_ | refine zS ?_ | refine wN ?_ | refine wM ?_ | refine wR ?_ | refine wS ?_ | refine wB ?_ | refine wG ?_ | refine wD ?_ | refine wY ?_ | refine wZ ?_ | refine wK ?_ | refine wT ?_ | refine wX ?_)
    cases h3 : decide ((b.toNat : Int) < 33)
    case true =>
      rw [bad (by unfold goodByte; simp at h3; simp; omega)]
      repeat (first | refine zE ?_ | refine zP ?_ | refine zD ?_ | refine zQ ?_ | refine zR ?_ | refine zS ?_ | refine wN ?_ | refine wM ?_ | refine wR ?_ | refine wS ?_ | refine wB ?_ | refine wG ?_ | refine wD ?_ | refine wY ?_ | refine wZ ?_ | refine wK ?_ | refine wT ?_ | refine wX ?_)
      exact ⟨.inr rfl, _, rfl, rfl⟩
    repeat (first | refine zE ?_ | refine zP ?_ | refine zD ?_ | refine zQ ?_ | refine zR ?_ | refine zS ?_ | refine wN ?_ | refine wM ?_ | refine wR ?_ | refine wS ?_ | refine wB ?_ | refine wG ?_ | refine wD ?_ | refine wY ?_ | refine wZ ?_ | refine wK ?_ | refine wT ?_ | refine wX ?_)
    refine zF (step_byte rfl rfl rfl rfl rfl (by omega) hx) ?_
    repeat (first | refine zE ?_ | refine zP ?_ | refine zD ?_ | refine zQ ?_ | refine zR ?_ | refine zS ?_ | refine wN ?_ | refine wM ?_ | refine wR ?_ | refine wS ?_ | refine wB ?_ | refine wG ?_ | refine wD ?_ | refine wY ?_ | refine wZ ?_ | refine wK ?_ | refine wT ?_ | refine wX ?_)
    cases h4 : decide ((b.toNat : Int) > 126)
    case true =>
      rw [bad (by unfold goodByte; simp at h4; simp; omega)]
      repeat (first | refine zE ?_ | refine zP ?_ | refine zD ?_ | refine zQ ?_ | refine zR ?_ | refine zS ?_ | refine wN ?_ | refine wM ?_ | refine wR ?_ | refine wS ?_ | refine wB ?_ | refine wG ?_ | refine wD ?_ | refine wY ?_ | refine wZ ?_ | refine wK ?_ | refine wT ?_ | refine wX ?_)
      exact ⟨.inr rfl, _, rfl, rfl⟩
    repeat (first | refine zE ?_ | refine zP ?_ | refine zD ?_ | refine zQ ?_ | refine zR ?_ | refine zS ?_ | refine wN ?_ | refine wM ?_ | refine wR ?_ | refine wS ?_ | refine wB ?_ | refine wG ?_ | refine wD ?_ | refine wY ?_ | refine wZ ?_ | refine wK ?_ | refine wT ?_ | refine wX ?_)
    refine zF (step_byte rfl rfl rfl rfl rfl (by omega) hx) ?_
    refine zF (step_val (v := .int .i64 (idxB (UInt8.ofNat ((b.toNat : Int)).toNat) [40, 41, 44] 0)) rfl) ?_
    repeat (first | refine zE ?_ | refine zP ?_ | refine zD ?_ | refine zQ ?_ | refine zR ?_ | refine zS ?_ | refine wN ?_ | refine wM ?_ | refine wR ?_ | refine wS ?_ | refine wB ?_ | refine wG ?_ | refine wD ?_ | refine wY ?_ | refine wZ ?_ | refine wK ?_ | refine wT ?_ | refine wX ?_)
    cases h5 : decide (idxB (UInt8.ofNat ((b.toNat : Int)).toNat) [40, 41, 44] 0 ≥ 0)
    case true =>
      rw [idx3] at h5
      rw [bad (by unfold goodByte; simp at h5; simp; omega)]
      repeat (first | refine zE ?_ | refine zP ?_ | refine zD ?_ | refine zQ ?_ | refine zR ?_ | refine zS ?_ | refine wN ?_ | refine wM ?_ | refine wR ?_ | refine wS ?_ | refine wB ?_ | refine wG ?_ | refine wD ?_ | refine wY ?_ | refine wZ ?_ | refine wK ?_ | refine wT ?_ | refine wX ?_)
      exact ⟨.inr rfl, _, rfl, rfl⟩
    rw [idx3] at h5
    repeat (first | refine zE ?_ | refine zP ?_ | refine zD ?_ | refine zQ ?_ | refine zR ?_ | refine zS ?_ | refine wN ?_ | refine wM ?_ | refine wR ?_ | refine wS ?_ | refine wB ?_ | refine wG ?_ | refine wD ?_ | refine wY ?_ | refine wZ ?_ | refine wK ?_ | refine wT ?_ | refine wX ?_)
    rw [wrap_succ (by omega)]
    refine ⟨(i + 1, .int .i64 (i : Int)), _, rfl, rfl, ⟨rfl, hlt, below_succ hb fun x hx3 => ?_⟩, (by first | omega | (dsimp only; omega))⟩
    rw [hx2] at hx3; cases hx3
    unfold goodByte
    simp at h3 h4 h5
    simp
    omega
  refine wp_no rfl (decide_eq_false (by omega)) ?_
  rw [isNameB_all, decide_eq_true (show 1 ≤ s.size by omega), decide_eq_true (show s.size ≤ 32 by omega), all_yes fun j hj x hx => hb j (by omega) x hx]
  repeat (first | refine zE ?_ | refine zP ?_ | refine zD ?_ | refine zQ ?_ | refine zR ?_ | refine zS ?_ | refine wN ?_ | refine wM ?_ | refine wR ?_ | refine wS ?_ | refine wB ?_ | refine wG ?_ | refine wD ?_ | refine wY ?_ | refine wZ ?_ | refine wK ?_ | refine wT ?_ | refine wX ?_)
  exact ⟨.inr rfl, _, rfl, rfl⟩
def inR (n : Nat) (a : Int) : Bool := decide (a ≥ 0) && decide (a < (n : Int))
theorem F232 : cfg.F 232 = some Tryz.f232 := rfl
theorem good1_fn (a : Int) (n k : Nat) (H : Heap) (hk : H[k]? = some (.box [.int .i64 (n : Int)])) : FnH 232 [.int .i64 a, .bp k 0] H (.bool (inR n a)) := by
  unfold inR
  refine FnH.of_wp F232 rfl ?_
  simp only [show Tryz.f232.ntmps = 11 from rfl, List.length_cons, List.length_nil, List.replicate, List.cons_append, List.nil_append]
  repeat (first | refine zE ?_ | refine zP ?_ | refine zD ?_ | refine zQ ?_ | refine zR ?_ | refine zS ?_ | refine wN ?_ | refine wM ?_ | refine wR ?_ | refine wS ?_ | refine wB ?_ | refine wG ?_ | refine wD ?_ | refine wY ?_ | refine wZ ?_ | refine wK ?_ | refine wT ?_ | refine wX ?_)
  cases h1 : decide (a ≥ 0)
  · repeat (first | refine zE ?_ | refine zP ?_ | refine zD ?_ | refine zQ ?_ | refine zR ?_ | refine zS ?_ | refine wN ?_ | refine wM ?_ | refine wR ?_ | refine wS ?_ | refine wB ?_ | refine wG ?_ | refine wD ?_ | refine wY ?_ | refine wZ ?_ | refine wK ?_ | refine wT ?_ | refine wX ?_)
    exact ⟨.inr rfl, _, rfl, fun j hj => by simp [Cls.dirty] at hj, rfl⟩
  repeat (first | refine zL hk ?_ | refine zM hk ?_ | refine zO hk ?_ | refine zE ?_ | refine zP ?_ | refine zD ?_ | refine zQ ?_ | refine zR ?_ | refine zS ?_ | refine wN ?_ | refine wM ?_ | refine wR ?_ | refine wS ?_ | refine wB ?_ | refine wG ?_ | refine wD ?_ | refine wY ?_ | refine wZ ?_ | refine wK ?_ | refine wT ?_ | refine wX ?_)
  exact ⟨.inr rfl, _, rfl, fun j hj => by simp [Cls.dirty] at hj, rfl⟩
theorem strip_bp2 {H : Heap} {a : V} {k off : Nat} : [a, .bp k off].mapM (strip H 0 true sf) = none := mapM_none (x := .bp k off) (by simp) rfl
theorem F234 : cfg.F 234 = some Tryz.f234 := rfl
theorem good2_fn (a : Int) (n k m : Nat) (H : Heap) (hk : H[k]? = some (.box [.int .i64 (n : Int)])) (hm : H[m]? = some (.box [.fn 232 [.bp k 0]])) : FnH 234 [.int .i64 a, .bp m 0] H (.bool !(inR n a)) := by
  refine FnH.of_wp F234 rfl ?_
  simp only [show Tryz.f234.ntmps = 8 from rfl, List.length_cons, List.length_nil, List.replicate, List.cons_append, List.nil_append]
  repeat (first | refine zL hm ?_ | refine zM hm ?_ | refine zO hm ?_ | refine zE ?_ | refine zP ?_ | refine zD ?_ | refine zQ ?_ | refine zR ?_ | refine zS ?_ | refine wN ?_ | refine wM ?_ | refine wR ?_ | refine wS ?_ | refine wB ?_ | refine wG ?_ | refine wD ?_ | refine wY ?_ | refine wZ ?_ | refine wK ?_ | refine wT ?_ | refine wX ?_)
  refine zF (step_call rfl rfl ((good1_fn a n k H hk).call (by decide) rfl strip_bp2)) ?_
  repeat (first | refine zE ?_ | refine zP ?_ | refine zD ?_ | refine zQ ?_ | refine zR ?_ | refine zS ?_ | refine wN ?_ | refine wM ?_ | refine wR ?_ | refine wS ?_ | refine wB ?_ | refine wG ?_ | refine wD ?_ | refine wY ?_ | refine wZ ?_ | refine wK ?_ | refine wT ?_ | refine wX ?_)
  exact ⟨.inr rfl, _, rfl, fun j hj => by simp [Cls.dirty] at hj, rfl⟩
def goodP (n : Nat) (o : O) : Bool := isNameB o.name && (decide (blk o < (o.name.size : Int)) && (((blk o == 0) || (blk o == (o.args.length : Int))) && (decide ((o.args.length : Int) ≤ 8) && (inR n o.res && !(o.args.any fun a => !(inR n a))))))
theorem goodP_eq (n : Nat) (o : O) : goodP n o = opOK n o := by
  unfold goodP opOK
  have hc : blk o ≤ (o.name.size : Int) := by
    unfold blk
    have := List.count_le_length (a := 95) (l := o.name.data.toList)
    have h2 : o.name.data.toList.length = o.name.size := by simp
    omega
  have h0 : 0 ≤ blk o := by unfold blk; omega
  have e1 : decide (blk o < (o.name.size : Int)) = !(blk o == (o.name.size : Int)) := by
    by_cases h : blk o = (o.name.size : Int)
    · simp [h]
    · rw [decide_eq_true (by omega)]; simp [h]
  have e2 : ((blk o == 0) || (blk o == (o.args.length : Int))) = !(decide (blk o > 0) && (blk o != (o.args.length : Int))) := by
    by_cases h : blk o = 0
    · simp [h]
    · rw [decide_eq_true (show blk o > 0 by omega), show (blk o == 0) = false by simp [h], Bool.false_or, Bool.true_and, bne, Bool.not_not]
  have e3 : (!(o.args.any fun a => !(inR n a))) = within n o.args := by
    unfold within inR
    rw [← List.all_eq_not_any_not]
  have e4 : inR n o.res = within n [o.res] := by simp [inR, within]
  rw [e1, e2, e3, e4]
  cases isNameB o.name <;> cases (blk o == (o.name.size : Int)) <;> cases (decide (blk o > 0) && (blk o != (o.args.length : Int))) <;> cases decide ((o.args.length : Int) ≤ 8) <;> cases within n o.args <;> cases within n [o.res] <;> rfl
theorem F180 : cfg.F 180 = some Tryz.f180 := rfl
set_option maxHeartbeats 4000000 in
theorem good_fn (o : O) (n : Nat) (hs : o.name.size ≤ 9223372036854775807) (hl : o.args.length ≤ 9223372036854775807) : Fn 180 [.agg (oV o), .int .i64 (n : Int)] (.bool (opOK n o)) := by
  rw [← goodP_eq]
  unfold goodP
  refine Fn.of_wp F180 rfl ?_
  simp only [show Tryz.f180.ntmps = 51 from rfl, List.length_cons, List.length_nil, List.replicate, List.cons_append, List.nil_append]
  repeat (first | refine zE ?_ | refine zP ?_ | refine zD ?_ | refine zQ ?_ | refine zR ?_ | refine zS ?_ | refine wN ?_ | refine wM ?_ | refine wR ?_ | refine wS ?_ | refine wB ?_ | refine wG ?_ | refine wD ?_ | refine wY ?_ | refine wZ ?_ | refine wK ?_ | refine wT ?_ | refine wX ?_)
  refine zF (step_val (v := .int .i64 (blk o)) rfl) ?_
  repeat (first | refine zE ?_ | refine zP ?_ | refine zD ?_ | refine zQ ?_ | refine zR ?_ | refine zS ?_ | refine wN ?_ | refine wM ?_ | refine wR ?_ | refine wS ?_ | refine wB ?_ | refine wG ?_ | refine wD ?_ | refine wY ?_ | refine wZ ?_ | refine wK ?_ | refine wT ?_ | refine wX ?_)
  refine zF (step_call rfl rfl ((isName_fn o.name hs).cl)) ?_
  repeat (first | refine zE ?_ | refine zP ?_ | refine zD ?_ | refine zQ ?_ | refine zR ?_ | refine zS ?_ | refine wN ?_ | refine wM ?_ | refine wR ?_ | refine wS ?_ | refine wB ?_ | refine wG ?_ | refine wD ?_ | refine wY ?_ | refine wZ ?_ | refine wK ?_ | refine wT ?_ | refine wX ?_)
  cases h1 : isNameB o.name
  · repeat (first | refine zE ?_ | refine zP ?_ | refine zD ?_ | refine zQ ?_ | refine zR ?_ | refine zS ?_ | refine wN ?_ | refine wM ?_ | refine wR ?_ | refine wS ?_ | refine wB ?_ | refine wG ?_ | refine wD ?_ | refine wY ?_ | refine wZ ?_ | refine wK ?_ | refine wT ?_ | refine wX ?_)
    exact ⟨.inr rfl, _, rfl, rfl⟩
  repeat (first | refine zE ?_ | refine zP ?_ | refine zD ?_ | refine zQ ?_ | refine zR ?_ | refine zS ?_ | refine wN ?_ | refine wM ?_ | refine wR ?_ | refine wS ?_ | refine wB ?_ | refine wG ?_ | refine wD ?_ | refine wY ?_ | refine wZ ?_ | refine wK ?_ | refine wT ?_ | refine wX ?_)
  cases h2 : decide (blk o < (o.name.size : Int))
  · repeat (first | refine zE ?_ | refine zP ?_ | refine zD ?_ | refine zQ ?_ | refine zR ?_ | refine zS ?_ | refine wN ?_ | refine wM ?_ | refine wR ?_ | refine wS ?_ | refine wB ?_ | refine wG ?_ | refine wD ?_ | refine wY ?_ | refine wZ ?_ | refine wK ?_ | refine wT ?_ | refine wX ?_)
    exact ⟨.inr rfl, _, rfl, rfl⟩
  repeat (first | refine zE ?_ | refine zP ?_ | refine zD ?_ | refine zQ ?_ | refine zR ?_ | refine zS ?_ | refine wN ?_ | refine wM ?_ | refine wR ?_ | refine wS ?_ | refine wB ?_ | refine wG ?_ | refine wD ?_ | refine wY ?_ | refine wZ ?_ | refine wK ?_ | refine wT ?_ | refine wX ?_)
  cases h3 : (blk o == 0)
  · repeat (first | refine zE ?_ | refine zP ?_ | refine zD ?_ | refine zQ ?_ | refine zR ?_ | refine zS ?_ | refine wN ?_ | refine wM ?_ | refine wR ?_ | refine wS ?_ | refine wB ?_ | refine wG ?_ | refine wD ?_ | refine wY ?_ | refine wZ ?_ | refine wK ?_ | refine wT ?_ | refine wX ?_)
    cases h4 : (blk o == (o.args.length : Int))
    · repeat (first | refine zE ?_ | refine zP ?_ | refine zD ?_ | refine zQ ?_ | refine zR ?_ | refine zS ?_ | refine wN ?_ | refine wM ?_ | refine wR ?_ | refine wS ?_ | refine wB ?_ | refine wG ?_ | refine wD ?_ | refine wY ?_ | refine wZ ?_ | refine wK ?_ | refine wT ?_ | refine wX ?_)
      exact ⟨.inr rfl, _, rfl, rfl⟩
    repeat (first | refine zE ?_ | refine zP ?_ | refine zD ?_ | refine zQ ?_ | refine zR ?_ | refine zS ?_ | refine wN ?_ | refine wM ?_ | refine wR ?_ | refine wS ?_ | refine wB ?_ | refine wG ?_ | refine wD ?_ | refine wY ?_ | refine wZ ?_ | refine wK ?_ | refine wT ?_ | refine wX ?_)
    cases h5 : decide ((o.args.length : Int) ≤ 8)
    · repeat (first | refine zE ?_ | refine zP ?_ | refine zD ?_ | refine zQ ?_ | refine zR ?_ | refine zS ?_ | refine wN ?_ | refine wM ?_ | refine wR ?_ | refine wS ?_ | refine wB ?_ | refine wG ?_ | refine wD ?_ | refine wY ?_ | refine wZ ?_ | refine wK ?_ | refine wT ?_ | refine wX ?_)
      exact ⟨.inr rfl, _, rfl, rfl⟩
    repeat (first | refine zE ?_ | refine zP ?_ | refine zD ?_ | refine zQ ?_ | refine zR ?_ | refine zS ?_ | refine wN ?_ | refine wM ?_ | refine wR ?_ | refine wS ?_ | refine wB ?_ | refine wG ?_ | refine wD ?_ | refine wY ?_ | refine wZ ?_ | refine wK ?_ | refine wT ?_ | refine wX ?_)
    refine zF (step_call rfl rfl ((good1_fn o.res n 1 _ rfl).call (by decide) rfl strip_bp2)) ?_
    repeat (first | refine zE ?_ | refine zP ?_ | refine zD ?_ | refine zQ ?_ | refine zR ?_ | refine zS ?_ | refine wN ?_ | refine wM ?_ | refine wR ?_ | refine wS ?_ | refine wB ?_ | refine wG ?_ | refine wD ?_ | refine wY ?_ | refine wZ ?_ | refine wK ?_ | refine wT ?_ | refine wX ?_)
    cases h6 : inR n o.res
    · repeat (first | refine zE ?_ | refine zP ?_ | refine zD ?_ | refine zQ ?_ | refine zR ?_ | refine zS ?_ | refine wN ?_ | refine wM ?_ | refine wR ?_ | refine wS ?_ | refine wB ?_ | refine wG ?_ | refine wD ?_ | refine wY ?_ | refine wZ ?_ | refine wK ?_ | refine wT ?_ | refine wX ?_)
      exact ⟨.inr rfl, _, rfl, rfl⟩
    repeat (first | refine zE ?_ | refine zP ?_ | refine zD ?_ | refine zQ ?_ | refine zR ?_ | refine zS ?_ | refine wN ?_ | refine wM ?_ | refine wR ?_ | refine wS ?_ | refine wB ?_ | refine wG ?_ | refine wD ?_ | refine wY ?_ | refine wZ ?_ | refine wK ?_ | refine wT ?_ | refine wX ?_)
    obtain ⟨r, he, hq⟩ := hasI_ent o.args o.fa 234 [.bp 2 0] (fun a => !(inR n a)) [.box (oV o), .box [.int .i64 (n : Int)], .box [.fn 232 [.bp 1 0]]] hl rfl rfl (.inr ⟨_, List.mem_singleton.2 rfl, .inl ⟨2, 0, rfl⟩⟩) (fun x _ => (good2_fn x n 1 2 _ rfl rfl).cf (by decide) rfl strip_bp2)
    refine zF (step_call rfl rfl ((hq.fnH he rfl).call (by decide) rfl (Obj.strip (p := 234) (caps := [.bp 2 0]) ⟨_, List.mem_singleton.2 rfl, .inl ⟨2, 0, rfl⟩⟩ (by simp)))) ?_
    repeat (first | refine zE ?_ | refine zP ?_ | refine zD ?_ | refine zQ ?_ | refine zR ?_ | refine zS ?_ | refine wN ?_ | refine wM ?_ | refine wR ?_ | refine wS ?_ | refine wB ?_ | refine wG ?_ | refine wD ?_ | refine wY ?_ | refine wZ ?_ | refine wK ?_ | refine wT ?_ | refine wX ?_)
    exact ⟨.inr rfl, _, rfl, rfl⟩
  case true =>
    repeat (first | refine zE ?_ | refine zP ?_ | refine zD ?_ | refine zQ ?_ | refine zR ?_ | refine zS ?_ | refine wN ?_ | refine wM ?_ | refine wR ?_ | refine wS ?_ | refine wB ?_ | refine wG ?_ | refine wD ?_ | refine wY ?_ | refine wZ ?_ | refine wK ?_ | refine wT ?_ | refine wX ?_)
    cases h5 : decide ((o.args.length : Int) ≤ 8)
    · repeat (first | refine zE ?_ | refine zP ?_ | refine zD ?_ | refine zQ ?_ | refine zR ?_ | refine zS ?_ | refine wN ?_ | refine wM ?_ | refine wR ?_ | refine wS ?_ | refine wB ?_ | refine wG ?_ | refine wD ?_ | refine wY ?_ | refine wZ ?_ | refine wK ?_ | refine wT ?_ | refine wX ?_)
      exact ⟨.inr rfl, _, rfl, rfl⟩
    repeat (first | refine zE ?_ | refine zP ?_ | refine zD ?_ | refine zQ ?_ | refine zR ?_ | refine zS ?_ | refine wN ?_ | refine wM ?_ | refine wR ?_ | refine wS ?_ | refine wB ?_ | refine wG ?_ | refine wD ?_ | refine wY ?_ | refine wZ ?_ | refine wK ?_ | refine wT ?_ | refine wX ?_)
    refine zF (step_call rfl rfl ((good1_fn o.res n 1 _ rfl).call (by decide) rfl strip_bp2)) ?_
    repeat (first | refine zE ?_ | refine zP ?_ | refine zD ?_ | refine zQ ?_ | refine zR ?_ | refine zS ?_ | refine wN ?_ | refine wM ?_ | refine wR ?_ | refine wS ?_ | refine wB ?_ | refine wG ?_ | refine wD ?_ | refine wY ?_ | refine wZ ?_ | refine wK ?_ | refine wT ?_ | refine wX ?_)
    cases h6 : inR n o.res
    · repeat (first | refine zE ?_ | refine zP ?_ | refine zD ?_ | refine zQ ?_ | refine zR ?_ | refine zS ?_ | refine wN ?_ | refine wM ?_ | refine wR ?_ | refine wS ?_ | refine wB ?_ | refine wG ?_ | refine wD ?_ | refine wY ?_ | refine wZ ?_ | refine wK ?_ | refine wT ?_ | refine wX ?_)
      exact ⟨.inr rfl, _, rfl, rfl⟩
    repeat (first | refine zE ?_ | refine zP ?_ | refine zD ?_ | refine zQ ?_ | refine zR ?_ | refine zS ?_ | refine wN ?_ | refine wM ?_ | refine wR ?_ | refine wS ?_ | refine wB ?_ | refine wG ?_ | refine wD ?_ | refine wY ?_ | refine wZ ?_ | refine wK ?_ | refine wT ?_ | refine wX ?_)
    obtain ⟨r, he, hq⟩ := hasI_ent o.args o.fa 234 [.bp 2 0] (fun a => !(inR n a)) [.box (oV o), .box [.int .i64 (n : Int)], .box [.fn 232 [.bp 1 0]]] hl rfl rfl (.inr ⟨_, List.mem_singleton.2 rfl, .inl ⟨2, 0, rfl⟩⟩) (fun x _ => (good2_fn x n 1 2 _ rfl rfl).cf (by decide) rfl strip_bp2)
    refine zF (step_call rfl rfl ((hq.fnH he rfl).call (by decide) rfl (Obj.strip (p := 234) (caps := [.bp 2 0]) ⟨_, List.mem_singleton.2 rfl, .inl ⟨2, 0, rfl⟩⟩ (by simp)))) ?_
    repeat (first | refine zE ?_ | refine zP ?_ | refine zD ?_ | refine zQ ?_ | refine zR ?_ | refine zS ?_ | refine wN ?_ | refine wM ?_ | refine wR ?_ | refine wS ?_ | refine wB ?_ | refine wG ?_ | refine wD ?_ | refine wY ?_ | refine wZ ?_ | refine wK ?_ | refine wT ?_ | refine wX ?_)
    exact ⟨.inr rfl, _, rfl, rfl⟩
end Go.Av
