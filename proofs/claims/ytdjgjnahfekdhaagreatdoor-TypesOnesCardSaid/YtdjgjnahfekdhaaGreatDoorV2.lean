/- Contracts over the evaluator: equations of the program. Conditions: none beyond the hypotheses of each theorem. -/
import Derived.Test.YtdjgjnahfekdhaaGreatDoorU4
import Derived.Test.YtdjgjnahfekdhaaGreatDoorV1
import Derived.Test.YtdjgjnahfekdhaaGreatDoorT7
set_option linter.unusedSectionVars false
set_option linter.unusedVariables false
set_option linter.unusedSimpArgs false
namespace Go.Av
open Go.Proofs
set_option maxRecDepth 100000
theorem RepL.heap {α : Type} {enc : α → List V} {k : Nat} {H H' : Heap} {l : List α} {v : V} (h : RepL enc k H l v) (hs : ∀ j, num v = some j → H'[j]? = H[j]?) : RepL enc k H' l v := by
  rcases h with rfl | ⟨t0, rfl, h⟩
  · exact .inl rfl
  · exact .inr ⟨t0, rfl, by rw [hs t0 rfl]; exact h⟩
theorem RepL.lt {α : Type} {enc : α → List V} {k : Nat} {H : Heap} {l : List α} {v : V} (h : RepL enc k H l v) {j : Nat} (hj : num v = some j) : j < H.length := by
  rcases h with rfl | ⟨t0, rfl, h⟩
  · cases hj
  · cases hj; exact get_lt h
theorem RepL.apartM {α : Type} {enc : α → List V} {k : Nat} {H : Heap} {l : List α} {v : V} (h : RepL enc k H l v) {j : Nat} {es : List (V × V)} (hj : H[j]? = some (.map es)) : num v ≠ some j := by
  rcases h with rfl | ⟨t0, rfl, h⟩
  · exact fun e => by cases e
  · intro e; cases e; rw [h] at hj; cases hj
theorem repL_at {f : FuncId} {α : Type} {enc : α → List V} {k : Nat} {H : Heap} {l : List α} {v : V} (hk : ∀ x, (enc x).length = k) (hrep : RepL enc k H l v) {i : Nat} {x : α} (hx : l[i]? = some x)
    {o : Oper} {tm : List V} {t e : TypeId} {a j : Operand} {kk : IntKind} {it ie : TI} (ho : o.op = .indexAddr t a j) (hT : cfg.T t = some it) (hd : it.d = .slice e) (hE : cfg.T e = some ie) (hs : ie.size = k) (hj : ov tm j = some (.int kk (i : Int))) (hv : ov tm a = some v) :
    ∃ p c, stepOp f o tm H = some ⟨p, false, H, c⟩ ∧ c.dirty = [] ∧ ∀ (o2 : Oper) (tm2 : List V) (t2 : TypeId) (x2 : Operand) (it2 : TI), o2.op = .load t2 x2 → ov tm2 x2 = some p → cfg.T t2 = some it2 → it2.agg = true → it2.size = k → ∃ c2, stepOp f o2 tm2 H = some ⟨.agg (enc x), false, H, c2⟩ ∧ c2.dirty = [] := by
  have hi := (List.getElem?_eq_some_iff.1 hx).1
  subst hs
  rcases hrep with rfl | ⟨t0, rfl, hH⟩
  · refine ⟨_, _, step_idx ho hT hd hE hj hv ⟨by omega, by omega⟩ (drop_rows (k := ie.size) hk hx), rfl, fun o2 tm2 t2 x2 it2 ho2 hx2 hT2 ha hs2 => ⟨_, step_enc ho2 hT2 ha (by rw [hk, hs2]) hx2, rfl⟩⟩
  · refine ⟨_, _, step_idxo ho hT hd hE hj hv ⟨by omega, by omega⟩ hH, rfl, fun o2 tm2 t2 x2 it2 ho2 hx2 hT2 ha hs2 => ⟨_, step_loada ho2 hx2 hT2 hH ⟨?_, by rw [rows_length hk]; exact Nat.le_refl _⟩ ?_, rfl⟩⟩
    · rw [hs2, Int.toNat_natCast, ← Nat.succ_mul]
      exact Nat.mul_le_mul_right _ hi
    · unfold part
      have hdr := drop_rows (k := ie.size) hk hx
      have hle : (i + 1) * ie.size ≤ l.length * ie.size := Nat.mul_le_mul_right _ hi
      rw [Nat.succ_mul] at hle
      rw [if_pos (by rw [rows_length hk, hs2, Int.toNat_natCast]; exact hle), if_pos ha, hdr, hs2]
      congr 2
      rw [← hk x, List.take_left]
theorem run_pick {f : FuncId} {ops : Array Oper} {ol : List Oper} {d : List Nat} {Q : List V → Heap → List Nat → Prop} {α : Type} {enc : α → List V} {k : Nat} {H : Heap} {l : List α} {v : V} (hk : ∀ x, (enc x).length = k) (hrep : RepL enc k H l v) {i : Nat} {x : α} (hx : l[i]? = some x)
    {o o2 : Oper} {tm : List V} {t e t2 : TypeId} {a j x2 : Operand} {kk : IntKind} {it ie it2 : TI} (hw : Region.wanted o (yld ops tm) = true) (ho : o.op = .indexAddr t a j) (hT : cfg.T t = some it) (hd : it.d = .slice e) (hE : cfg.T e = some ie) (hs : ie.size = k) (hj : ov tm j = some (.int kk (i : Int))) (hv : ov tm a = some v)
    {tm1 : V → List V} (hp1 : ∀ p, putTm tm o.dst p = tm1 p) (hw2 : ∀ p, Region.wanted o2 (yld ops (tm1 p)) = true) (ho2 : o2.op = .load t2 x2) (hx2 : ∀ p, ov (tm1 p) x2 = some p) (hT2 : cfg.T t2 = some it2) (ha : it2.agg = true) (hs2 : it2.size = k)
    {tm2 : V → List V} (hp2 : ∀ p, putTm (tm1 p) o2.dst (.agg (enc x)) = tm2 p) (hn : ∀ p, Steps f ops ol (tm2 p) H d Q) : Steps f ops (o :: o2 :: ol) tm H d Q := by
  obtain ⟨p, c1, h1, hd1, h2⟩ := repL_at (f := f) hk hrep hx ho hT hd hE hs hj hv
  obtain ⟨c2, h3, hd3⟩ := h2 o2 (tm1 p) t2 x2 it2 ho2 (hx2 p) hT2 ha hs2
  exact run_next hw h1 (hp1 p) (by rw [hd1]; exact run_next (hw2 p) h3 (hp2 p) (by rw [hd3]; exact hn p))
mutual
theorem varsT_mem (v : Int) : ∀ (t : T) (out : List Int), v ∈ varsT t out ↔ v ∈ out ∨ v ∈ varsT t []
  | .mk k n f l, out => by
    rw [varsT, varsT]
    split
    · simp only [List.contains_nil, Bool.false_eq_true, if_false, List.nil_append]
      split
      · rename_i h
        simp at h
        constructor
        · exact .inl
        · rintro (h1 | h1)
          · exact h1
          · simp at h1; subst h1; exact h
      · simp
    · rw [varsL_mem v l out]
      have := varsL_mem v l []
      simp only [List.not_mem_nil, false_or] at this
      rw [this]
theorem varsL_mem (v : Int) : ∀ (l : List T) (out : List Int), v ∈ varsL l out ↔ v ∈ out ∨ ∃ x, x ∈ l ∧ v ∈ varsT x []
  | [], out => by rw [varsL]; simp
  | t :: l, out => by
    rw [varsL, varsL_mem v l, varsT_mem v t out]
    constructor
    · rintro ((h | h) | ⟨x, hx, h⟩)
      · exact .inl h
      · exact .inr ⟨t, by simp, h⟩
      · exact .inr ⟨x, by simp [hx], h⟩
    · rintro (h | ⟨x, hx, h⟩)
      · exact .inl (.inl h)
      · rcases List.mem_cons.1 hx with rfl | hx
        · exact .inl (.inr h)
        · exact .inr ⟨x, hx, h⟩
end
mutual
theorem varsT_nodup : ∀ (t : T) (out : List Int), out.Nodup → (varsT t out).Nodup
  | .mk k n f l, out, h => by
    rw [varsT]
    split
    · split
      · exact h
      · rename_i hc
        rw [List.nodup_append]
        exact ⟨h, by simp, fun a ha b hb e => by simp at hb; subst hb; subst e; simp at hc; exact hc ha⟩
    · exact varsL_nodup l out h
theorem varsL_nodup : ∀ (l : List T) (out : List Int), out.Nodup → (varsL l out).Nodup
  | [], out, h => by rw [varsL]; exact h
  | t :: l, out, h => by rw [varsL]; exact varsL_nodup l _ (varsT_nodup t out h)
end
theorem varsA_one {x : T} (h : treeB x = true) : varsA [x] = varsT x [] := by
  unfold varsA
  rw [if_pos (by simp [h]), varsL, varsL]
theorem varsA_mem {l : List T} (h : ∀ x, x ∈ l → treeB x = true) (v : Int) : v ∈ varsA l ↔ ∃ x, x ∈ l ∧ v ∈ varsA [x] := by
  unfold varsA
  rw [if_pos (List.all_eq_true.2 h), varsL_mem]
  simp only [List.not_mem_nil, false_or]
  constructor
  · rintro ⟨x, hx, hv⟩
    exact ⟨x, hx, by rw [if_pos (by simp [h x hx]), varsL, varsL]; exact hv⟩
  · rintro ⟨x, hx, hv⟩
    rw [if_pos (by simp [h x hx]), varsL, varsL] at hv
    exact ⟨x, hx, hv⟩
theorem varsA_nodup (l : List T) : (varsA l).Nodup := by
  unfold varsA
  split
  · exact varsL_nodup l [] List.nodup_nil
  · exact List.nodup_nil
def pairB (s : S) (vs : List Int) (a b : T) : Bool := treeB a && (treeB b && ((srt s vs a).2 && ((srt s vs b).2 && ((srt s vs a).1 == (srt s vs b).1))))
theorem pairB_vars {s : S} {vs : List Int} {a b : T} (h : pairB s vs a b = true) : treeB a = true ∧ treeB b = true ∧ (∀ v, v ∈ varsA [a] → 0 ≤ v ∧ v < (vs.length : Int)) ∧ ∀ v, v ∈ varsA [b] → 0 ≤ v ∧ v < (vs.length : Int) := by
  unfold pairB at h
  simp only [Bool.and_eq_true] at h
  obtain ⟨h1, h2, h3, h4, _⟩ := h
  refine ⟨h1, h2, fun v hv => ?_, fun v hv => ?_⟩
  · rw [varsA_one h1] at hv
    exact srt_vars s vs a [] (treeB_node h1) h3 (fun v hv => by cases hv) v hv
  · rw [varsA_one h2] at hv
    exact srt_vars s vs b [] (treeB_node h2) h4 (fun v hv => by cases hv) v hv
structure Eq2.Rng (e : Eq2) : Prop where
  a : e.a.Rng
  b : e.b.Rng
  cond : ∀ (j : Nat) c, e.conds[j]? = some c → c.a.Rng ∧ c.b.Rng
theorem F183 : cfg.F 183 = some Tryz.f183 := rfl
theorem eq1_fnH (s : S) (H : Heap) (j : Nat) (hj : H[j]? = some (.box (sV s))) (v : Int) : FnH 183 [.int .i64 v, .bp j 0] H (.bool (decide (v < 0) || decide (v ≥ (s.sorts.length : Int)))) := by
  refine FnH.of_wp F183 rfl ?_
  simp only [show Tryz.f183.ntmps = 13 from rfl, List.length_cons, List.length_nil, List.replicate, List.cons_append, List.nil_append]
  repeat (first | refine zE ?_ | refine zP ?_ | refine zD ?_ | refine zQ ?_ | refine zR ?_ | refine zS ?_ | refine wN ?_ | refine wM ?_ | refine wR ?_ | refine wS ?_ | refine wB ?_ | refine wG ?_ | refine wD ?_ | refine wY ?_ | refine wZ ?_ | refine wK ?_ | refine wT ?_ | refine wX ?_)
  cases h1 : decide (v < 0)
  · repeat (first | refine zL hj ?_ | refine zM hj ?_ | refine zO hj ?_ | refine zE ?_ | refine zP ?_ | refine zD ?_ | refine zQ ?_ | refine zR ?_ | refine zS ?_ | refine wN ?_ | refine wM ?_ | refine wR ?_ | refine wS ?_ | refine wB ?_ | refine wG ?_ | refine wD ?_ | refine wY ?_ | refine wZ ?_ | refine wK ?_ | refine wT ?_ | refine wX ?_)
    exact ⟨.inr rfl, _, rfl, fun j hj => by (first | cases hj | simp at hj), rfl⟩
  · repeat (first | refine zL hj ?_ | refine zM hj ?_ | refine zO hj ?_ | refine zE ?_ | refine zP ?_ | refine zD ?_ | refine zQ ?_ | refine zR ?_ | refine zS ?_ | refine wN ?_ | refine wM ?_ | refine wR ?_ | refine wS ?_ | refine wB ?_ | refine wG ?_ | refine wD ?_ | refine wY ?_ | refine wZ ?_ | refine wK ?_ | refine wT ?_ | refine wX ?_)
    exact ⟨.inr rfl, _, rfl, fun j hj => by (first | cases hj | simp at hj), rfl⟩
theorem F184 : cfg.F 184 = some Tryz.f184 := rfl
set_option maxHeartbeats 8000000 in
theorem eq2_fnH (s : S) (e : Eq2) (H : Heap) (j2 j3 : Nat) (h2 : H[j2]? = some (.box (sV s))) (h3 : H[j3]? = some (.box (eV e))) (hs : s.Fit) (hv : e.vars.length ≤ 9223372036854775807) (a b : T) (ha : a.Fit) (hb : b.Fit) :
    FnH 184 [.agg (tV a), .agg (tV b), .bp j2 0, .bp j3 0] H (.bool (pairB s e.vars a b)) := by
  obtain ⟨vs, fv, cs, fc, ⟨k1, n1, f1, l1⟩, ⟨k2, n2, f2, l2⟩⟩ := e
  obtain ⟨ka, na, fa, la⟩ := a
  obtain ⟨kb, nb, fb, lb⟩ := b
  dsimp only at hv ⊢
  unfold pairB
  have g2 := get_lt h2
  have g3 := get_lt h3
  refine FnH.of_wp F184 rfl ?_
  simp only [show Tryz.f184.ntmps = 44 from rfl, List.length_cons, List.length_nil, List.replicate, List.cons_append, List.nil_append]
  refine wp_seq ?_
  refine wp_region ?_
  refine run_new rfl rfl (fun m => (by dsimp only [putTm, List.set])) ?_
  intro m4 H1 hm4 hl1 hb4 hold1
  refine run_new rfl rfl (fun m => (by dsimp only [putTm, List.set])) ?_
  intro m5 H2 hm5 hl2 hb5 hold2
  have h22 : H2[j2]? = some (.box (sV s)) := by rw [hold2 j2 (by omega), hold1 j2 (by omega)]; exact h2
  have h32 : H2[j3]? = some (.box (eV ⟨vs, fv, cs, fc, .mk k1 n1 f1 l1, .mk k2 n2 f2 l2⟩)) := by rw [hold2 j3 (by omega), hold1 j3 (by omega)]; exact h3
  have hb42 : H2[m4]? = some (.box (tV (.mk ka na fa la))) := by rw [hold2 m4 (by omega)]; exact hb4
  have hb52 : H2[m5]? = some (.box (tV (.mk kb nb fb lb))) := hb5
  repeat (first | refine zL hb42 ?_ | refine zM hb42 ?_ | refine zO hb42 ?_ | refine zE ?_ | refine zP ?_ | refine zD ?_ | refine zQ ?_ | refine zR ?_ | refine zS ?_ | refine wN ?_ | refine wM ?_ | refine wR ?_ | refine wS ?_ | refine wB ?_ | refine wG ?_ | refine wD ?_ | refine wY ?_ | refine wZ ?_ | refine wK ?_ | refine wT ?_ | refine wX ?_)
  refine zF (step_call rfl rfl ((tree_fn (.mk ka na fa la) ha).cl)) ?_
  cases e1 : treeB (.mk ka na fa la)
  case false =>
    repeat (first | refine zL hb42 ?_ | refine zM hb42 ?_ | refine zO hb42 ?_ | refine zE ?_ | refine zP ?_ | refine zD ?_ | refine zQ ?_ | refine zR ?_ | refine zS ?_ | refine wN ?_ | refine wM ?_ | refine wR ?_ | refine wS ?_ | refine wB ?_ | refine wG ?_ | refine wD ?_ | refine wY ?_ | refine wZ ?_ | refine wK ?_ | refine wT ?_ | refine wX ?_)
    exact ⟨.inr rfl, _, rfl, fun j hj => by (first | cases hj | simp at hj), rfl⟩
  repeat (first | refine zL hb52 ?_ | refine zM hb52 ?_ | refine zO hb52 ?_ | refine zE ?_ | refine zP ?_ | refine zD ?_ | refine zQ ?_ | refine zR ?_ | refine zS ?_ | refine wN ?_ | refine wM ?_ | refine wR ?_ | refine wS ?_ | refine wB ?_ | refine wG ?_ | refine wD ?_ | refine wY ?_ | refine wZ ?_ | refine wK ?_ | refine wT ?_ | refine wX ?_)
  refine zF (step_call rfl rfl ((tree_fn (.mk kb nb fb lb) hb).cl)) ?_
  cases e2 : treeB (.mk kb nb fb lb)
  case false =>
    repeat (first | refine zL hb52 ?_ | refine zM hb52 ?_ | refine zO hb52 ?_ | refine zE ?_ | refine zP ?_ | refine zD ?_ | refine zQ ?_ | refine zR ?_ | refine zS ?_ | refine wN ?_ | refine wM ?_ | refine wR ?_ | refine wS ?_ | refine wB ?_ | refine wG ?_ | refine wD ?_ | refine wY ?_ | refine wZ ?_ | refine wK ?_ | refine wT ?_ | refine wX ?_)
    exact ⟨.inr rfl, _, rfl, fun j hj => by (first | cases hj | simp at hj), rfl⟩
  repeat (first | refine zL h22 ?_ | refine zM h22 ?_ | refine zO h22 ?_ | refine zL h32 ?_ | refine zM h32 ?_ | refine zO h32 ?_ | refine zL hb42 ?_ | refine zM hb42 ?_ | refine zO hb42 ?_ | refine zE ?_ | refine zP ?_ | refine zD ?_ | refine zQ ?_ | refine zR ?_ | refine zS ?_ | refine wN ?_ | refine wM ?_ | refine wR ?_ | refine wS ?_ | refine wB ?_ | refine wG ?_ | refine wD ?_ | refine wY ?_ | refine wZ ?_ | refine wK ?_ | refine wT ?_ | refine wX ?_)
  refine zF (step_call rfl rfl ((sortOfP_fn s vs fv hs hv (.mk ka na fa la) ha (treeB_node e1)).cl)) ?_
  repeat (first | refine zL h22 ?_ | refine zM h22 ?_ | refine zO h22 ?_ | refine zL h32 ?_ | refine zM h32 ?_ | refine zO h32 ?_ | refine zL hb52 ?_ | refine zM hb52 ?_ | refine zO hb52 ?_ | refine zE ?_ | refine zP ?_ | refine zD ?_ | refine zQ ?_ | refine zR ?_ | refine zS ?_ | refine wN ?_ | refine wM ?_ | refine wR ?_ | refine wS ?_ | refine wB ?_ | refine wG ?_ | refine wD ?_ | refine wY ?_ | refine wZ ?_ | refine wK ?_ | refine wT ?_ | refine wX ?_)
  refine zF (step_call rfl rfl ((sortOfP_fn s vs fv hs hv (.mk kb nb fb lb) hb (treeB_node e2)).cl)) ?_
  repeat (first | refine zE ?_ | refine zP ?_ | refine zD ?_ | refine zQ ?_ | refine zR ?_ | refine zS ?_ | refine wN ?_ | refine wM ?_ | refine wR ?_ | refine wS ?_ | refine wB ?_ | refine wG ?_ | refine wD ?_ | refine wY ?_ | refine wZ ?_ | refine wK ?_ | refine wT ?_ | refine wX ?_)
  cases e3 : (srt s vs (.mk ka na fa la)).2
  · repeat (first | refine zE ?_ | refine zP ?_ | refine zD ?_ | refine zQ ?_ | refine zR ?_ | refine zS ?_ | refine wN ?_ | refine wM ?_ | refine wR ?_ | refine wS ?_ | refine wB ?_ | refine wG ?_ | refine wD ?_ | refine wY ?_ | refine wZ ?_ | refine wK ?_ | refine wT ?_ | refine wX ?_)
    exact ⟨.inr rfl, _, rfl, fun j hj => by (first | cases hj | simp at hj), rfl⟩
  repeat (first | refine zE ?_ | refine zP ?_ | refine zD ?_ | refine zQ ?_ | refine zR ?_ | refine zS ?_ | refine wN ?_ | refine wM ?_ | refine wR ?_ | refine wS ?_ | refine wB ?_ | refine wG ?_ | refine wD ?_ | refine wY ?_ | refine wZ ?_ | refine wK ?_ | refine wT ?_ | refine wX ?_)
  cases e4 : (srt s vs (.mk kb nb fb lb)).2
  · repeat (first | refine zE ?_ | refine zP ?_ | refine zD ?_ | refine zQ ?_ | refine zR ?_ | refine zS ?_ | refine wN ?_ | refine wM ?_ | refine wR ?_ | refine wS ?_ | refine wB ?_ | refine wG ?_ | refine wD ?_ | refine wY ?_ | refine wZ ?_ | refine wK ?_ | refine wT ?_ | refine wX ?_)
    exact ⟨.inr rfl, _, rfl, fun j hj => by (first | cases hj | simp at hj), rfl⟩
  repeat (first | refine zE ?_ | refine zP ?_ | refine zD ?_ | refine zQ ?_ | refine zR ?_ | refine zS ?_ | refine wN ?_ | refine wM ?_ | refine wR ?_ | refine wS ?_ | refine wB ?_ | refine wG ?_ | refine wD ?_ | refine wY ?_ | refine wZ ?_ | refine wK ?_ | refine wT ?_ | refine wX ?_)
  exact ⟨.inr rfl, _, rfl, fun j hj => by (first | cases hj | simp at hj), rfl⟩
end Go.Av
namespace Go.Av
open Go.Proofs
set_option maxRecDepth 100000
theorem eqnB_no {s : S} {e : Eq2} (h : eqnB s e = true → False) : eqnB s e = false := by
  cases he : eqnB s e
  · rfl
  · exact (h he).elim
theorem eqnB_pair {s : S} {e : Eq2} (hs : sigB s = true) : eqnB s e = true ↔ e.vars.length ≤ 64 ∧ e.conds.length ≤ 8 ∧ kindT e.a = 2 ∧ within s.sorts.length e.vars = true ∧ pairB s e.vars e.a e.b = true ∧ (∀ c, c ∈ e.conds → pairB s e.vars c.a c.b = true) ∧ ∀ x, x ∈ othersL e.b e.conds → ∀ v, v ∈ varsA [x] → v ∈ varsA [e.a] := by
  rw [eqnB_iff]
  have key : within s.sorts.length e.vars = true → ∀ a b, alikeB s e.vars a b = pairB s e.vars a b := fun hw a b => alikeB_iff hs hw
  constructor
  · rintro ⟨h1, h2, h3, h4, h5, h6, h7⟩
    rw [key h4] at h5
    have h6' : ∀ c, c ∈ e.conds → pairB s e.vars c.a c.b = true := fun c hc => by rw [← key h4]; exact h6 c hc
    refine ⟨h1, h2, h3, h4, h5, h6', fun x hx v hv => h7 v ((varsA_mem (fun y hy => ?_) v).2 ⟨x, hx, hv⟩)⟩
    unfold othersL at hy
    rcases List.mem_cons.1 hy with rfl | hy
    · exact (pairB_vars h5).2.1
    · obtain ⟨c, hc, hy⟩ := List.mem_flatMap.1 hy
      have := pairB_vars (h6' c hc)
      simp at hy
      rcases hy with rfl | rfl
      · exact this.1
      · exact this.2.1
  · rintro ⟨h1, h2, h3, h4, h5, h6, h7⟩
    have htr : ∀ y, y ∈ othersL e.b e.conds → treeB y = true := fun y hy => by
      unfold othersL at hy
      rcases List.mem_cons.1 hy with rfl | hy
      · exact (pairB_vars h5).2.1
      · obtain ⟨c, hc, hy⟩ := List.mem_flatMap.1 hy
        have := pairB_vars (h6 c hc)
        simp at hy
        rcases hy with rfl | rfl
        · exact this.1
        · exact this.2.1
    refine ⟨h1, h2, h3, h4, by rw [key h4]; exact h5, fun c hc => by rw [key h4]; exact h6 c hc, fun v hv => ?_⟩
    obtain ⟨x, hx, hv⟩ := (varsA_mem htr v).1 hv
    exact h7 x hx v hv
theorem within_any (n : Nat) (l : List Int) : (l.any fun v => decide (v < 0) || decide (v ≥ (n : Int))) = !(within n l) := by
  unfold within
  induction l with
  | nil => rfl
  | cons x l ih =>
    rw [List.any_cons, List.all_cons, ih]
    by_cases h1 : x < 0
    · rw [decide_eq_true h1, decide_eq_false (show ¬ 0 ≤ x by omega)]; simp
    · rw [decide_eq_false h1, decide_eq_true (show 0 ≤ x by omega)]
      by_cases h2 : x < n
      · rw [decide_eq_true h2, decide_eq_false (show ¬ x ≥ n by omega)]; simp
      · rw [decide_eq_false h2, decide_eq_true (show x ≥ n by omega)]; simp
theorem F112 : cfg.F 112 = some Tryz.f112 := rfl
set_option maxHeartbeats 32000000 in
theorem equation_fn (s : S) (e : Eq2) (hs : s.Fit) (he : e.Fit) (hr : e.Rng) (hsig : sigB s = true) : Fn 112 [.agg (sV s), .agg (eV e)] (.bool (eqnB s e)) := by
  obtain ⟨vs, fv, cs, fc, ⟨k1, n1, f1, l1⟩, ⟨k2, n2, f2, l2⟩⟩ := e
  have hvs := he.vars
  have hcs := he.conds
  have haf := he.a
  have hbf := he.b
  have hcf := he.cond
  have har := hr.a
  have hbr := hr.b
  have hcr := hr.cond
  have hno : ∀ h : eqnB s ⟨vs, fv, cs, fc, .mk k1 n1 f1 l1, .mk k2 n2 f2 l2⟩ = true → False, eqnB s ⟨vs, fv, cs, fc, .mk k1 n1 f1 l1, .mk k2 n2 f2 l2⟩ = false := fun h => eqnB_no h
  have hiff := eqnB_pair (s := s) (e := ⟨vs, fv, cs, fc, .mk k1 n1 f1 l1, .mk k2 n2 f2 l2⟩) hsig
  generalize eqnB s ⟨vs, fv, cs, fc, .mk k1 n1 f1 l1, .mk k2 n2 f2 l2⟩ = ans at hno hiff ⊢
  dsimp only at hvs hcs haf hbf hcf har hbr hcr hiff
  refine Fn.of_wp F112 rfl ?_
  simp only [show Tryz.f112.ntmps = 102 from rfl, List.length_cons, List.length_nil, List.replicate, List.cons_append, List.nil_append]
  repeat (first | refine zE ?_ | refine zP ?_ | refine zD ?_ | refine zQ ?_ | refine zR ?_ | refine zS ?_ | refine wN ?_ | refine wM ?_ | refine wR ?_ | refine wS ?_ | refine wB ?_ | refine wG ?_ | refine wD ?_ | refine wY ?_ | refine wZ ?_ | refine wK ?_ | refine wT ?_ | refine wX ?_)
  cases h1 : decide ((vs.length : Int) > 64)
  case true =>
    rw [hno fun h => by have := (hiff.1 h).1; have := of_decide_eq_true h1; omega]
    repeat (first | refine zE ?_ | refine zP ?_ | refine zD ?_ | refine zQ ?_ | refine zR ?_ | refine zS ?_ | refine wN ?_ | refine wM ?_ | refine wR ?_ | refine wS ?_ | refine wB ?_ | refine wG ?_ | refine wD ?_ | refine wY ?_ | refine wZ ?_ | refine wK ?_ | refine wT ?_ | refine wX ?_)
    exact ⟨.inr rfl, _, rfl, rfl⟩
  repeat (first | refine zE ?_ | refine zP ?_ | refine zD ?_ | refine zQ ?_ | refine zR ?_ | refine zS ?_ | refine wN ?_ | refine wM ?_ | refine wR ?_ | refine wS ?_ | refine wB ?_ | refine wG ?_ | refine wD ?_ | refine wY ?_ | refine wZ ?_ | refine wK ?_ | refine wT ?_ | refine wX ?_)
  cases h2 : decide ((cs.length : Int) > 8)
  case true =>
    rw [hno fun h => by have := (hiff.1 h).2.1; have := of_decide_eq_true h2; omega]
    repeat (first | refine zE ?_ | refine zP ?_ | refine zD ?_ | refine zQ ?_ | refine zR ?_ | refine zS ?_ | refine wN ?_ | refine wM ?_ | refine wR ?_ | refine wS ?_ | refine wB ?_ | refine wG ?_ | refine wD ?_ | refine wY ?_ | refine wZ ?_ | refine wK ?_ | refine wT ?_ | refine wX ?_)
    exact ⟨.inr rfl, _, rfl, rfl⟩
  repeat (first | refine zE ?_ | refine zP ?_ | refine zD ?_ | refine zQ ?_ | refine zR ?_ | refine zS ?_ | refine wN ?_ | refine wM ?_ | refine wR ?_ | refine wS ?_ | refine wB ?_ | refine wG ?_ | refine wD ?_ | refine wY ?_ | refine wZ ?_ | refine wK ?_ | refine wT ?_ | refine wX ?_)
  cases h3 : (k1 != 2)
  case true =>
    rw [hno fun h => by have := (hiff.1 h).2.2.1; rw [kindT] at this; subst this; simp at h3]
    repeat (first | refine zE ?_ | refine zP ?_ | refine zD ?_ | refine zQ ?_ | refine zR ?_ | refine zS ?_ | refine wN ?_ | refine wM ?_ | refine wR ?_ | refine wS ?_ | refine wB ?_ | refine wG ?_ | refine wD ?_ | refine wY ?_ | refine wZ ?_ | refine wK ?_ | refine wT ?_ | refine wX ?_)
    exact ⟨.inr rfl, _, rfl, rfl⟩
  have h1' := of_decide_eq_false h1
  have h2' := of_decide_eq_false h2
  have h3' : k1 = 2 := by simpa using h3
  obtain ⟨r4, he4, hq4⟩ := hasI_ent vs fv 183 [.bp 0 0] (fun v => decide (v < 0) || decide (v ≥ (s.sorts.length : Int))) [.box (sV s), .box (eV ⟨vs, fv, cs, fc, .mk k1 n1 f1 l1, .mk k2 n2 f2 l2⟩)] hvs rfl rfl (.inr ⟨.bp 0 0, by simp, .inl ⟨_, _, rfl⟩⟩)
    fun x hx => (eq1_fnH s _ 0 rfl x).cf (by decide) rfl (mapM_none (x := .bp 0 0) (by simp) rfl)
  obtain ⟨kc4, hk4, hd4⟩ := hq4.cf he4 rfl (by decide) rfl (.inr (Obj.strip (caps := [.bp 0 0]) ⟨.bp 0 0, by simp, .inl ⟨_, _, rfl⟩⟩ (p := 183) (by simp)))
  have hkd4 : kc4.dirty = [] := by rcases hd4 with rfl | rfl <;> rfl
  rw [within_any] at hk4
  repeat (first | refine zE ?_ | refine zP ?_ | refine zD ?_ | refine zQ ?_ | refine zR ?_ | refine zS ?_ | refine wN ?_ | refine wM ?_ | refine wR ?_ | refine wS ?_ | refine wB ?_ | refine wG ?_ | refine wD ?_ | refine wY ?_ | refine wZ ?_ | refine wK ?_ | refine wT ?_ | refine wX ?_)
  refine zF (step_call rfl rfl hk4) ?_
  rw [hkd4]
  cases h4 : within s.sorts.length vs
  case false =>
    rw [hno fun h => by have := (hiff.1 h).2.2.2.1; rw [h4] at this; cases this]
    repeat (first | refine zE ?_ | refine zP ?_ | refine zD ?_ | refine zQ ?_ | refine zR ?_ | refine zS ?_ | refine wN ?_ | refine wM ?_ | refine wR ?_ | refine wS ?_ | refine wB ?_ | refine wG ?_ | refine wD ?_ | refine wY ?_ | refine wZ ?_ | refine wK ?_ | refine wT ?_ | refine wX ?_)
    exact ⟨.inr rfl, _, rfl, rfl⟩
  repeat (first | refine zE ?_ | refine zP ?_ | refine zD ?_ | refine zQ ?_ | refine zR ?_ | refine zS ?_ | refine wN ?_ | refine wM ?_ | refine wR ?_ | refine wS ?_ | refine wB ?_ | refine wG ?_ | refine wD ?_ | refine wY ?_ | refine wZ ?_ | refine wK ?_ | refine wT ?_ | refine wX ?_)
  have hcl : ∀ (H : Heap) (a b : T), H[0]? = some (.box (sV s)) → H[1]? = some (.box (eV ⟨vs, fv, cs, fc, .mk k1 n1 f1 l1, .mk k2 n2 f2 l2⟩)) → a.Fit → b.Fit → callF cfg E 184 [.agg (tV a), .agg (tV b), .bp 0 0, .bp 1 0] H = some ⟨.bool (pairB s vs a b), false, H, .pcall⟩ := fun H a b h0 h1 ha hb =>
    (eq2_fnH s ⟨vs, fv, cs, fc, .mk k1 n1 f1 l1, .mk k2 n2 f2 l2⟩ H 0 1 h0 h1 hs hvs a b ha hb).call (by decide) rfl (mapM_none (x := .bp 0 0) (by simp) rfl)
  refine zF (step_call (ev_callv rfl rfl rfl rfl rfl rfl) rfl (hcl _ (.mk k1 n1 f1 l1) (.mk k2 n2 f2 l2) rfl rfl haf hbf)) ?_
  cases h5 : pairB s vs (.mk k1 n1 f1 l1) (.mk k2 n2 f2 l2)
  case false =>
    rw [hno fun h => by have := (hiff.1 h).2.2.2.2.1; rw [h5] at this; cases this]
    repeat (first | refine zE ?_ | refine zP ?_ | refine zD ?_ | refine zQ ?_ | refine zR ?_ | refine zS ?_ | refine wN ?_ | refine wM ?_ | refine wR ?_ | refine wS ?_ | refine wB ?_ | refine wG ?_ | refine wD ?_ | refine wY ?_ | refine wZ ?_ | refine wK ?_ | refine wT ?_ | refine wX ?_)
    exact ⟨.inr rfl, _, rfl, rfl⟩
  repeat (first | refine zE ?_ | refine zP ?_ | refine zD ?_ | refine zQ ?_ | refine zR ?_ | refine zS ?_ | refine wN ?_ | refine wM ?_ | refine wR ?_ | refine wS ?_ | refine wB ?_ | refine wG ?_ | refine wD ?_ | refine wY ?_ | refine wZ ?_ | refine wK ?_ | refine wT ?_ | refine wX ?_)
  obtain ⟨p1, p2, p3, p4⟩ := pairB_vars h5
  refine zF (step_call rfl rfl ((Vars_fn [.mk k1 n1 f1 l1] true (by simp) (fun x hx => by simp at hx; subst hx; exact haf) (fun x hx => by simp at hx; subst hx; exact har)).cl)) ?_
  have hnd := varsA_nodup [.mk k1 n1 f1 l1]
  have hvl1 := varsA_len [.mk k1 n1 f1 l1] (by simp)
  generalize hown : varsA [.mk k1 n1 f1 l1] = own at hnd hvl1 p3 hiff ⊢
  have hkey : ∀ x, 0 ≤ x → x < (vs.length : Int) → cfg.keyed 3 (intK x) = true := fun x ha hb => intK_keyed (by omega) (by omega)
  repeat (first | refine zE ?_ | refine zP ?_ | refine zD ?_ | refine zQ ?_ | refine zR ?_ | refine zS ?_ | refine wN ?_ | refine wM ?_ | refine wR ?_ | refine wS ?_ | refine wB ?_ | refine wG ?_ | refine wD ?_ | refine wY ?_ | refine wZ ?_ | refine wK ?_ | refine wT ?_ | refine wX ?_)
  refine wp_loop4 51 51 (fun (a : Nat × V) l => (l.set 50 (.int .i64 (a.1 : Int))).set 8 a.2)
    (fun a H d => a.1 ≤ own.length ∧ H = [.box (sV s), .box (eV ⟨vs, fv, cs, fc, .mk k1 n1 f1 l1, .mk k2 n2 f2 l2⟩), .map (mapE intK (setE (own.take a.1)))]) (fun a => own.length - a.1) (0, .junk) rfl rfl ⟨Nat.zero_le _, rfl⟩ ?_
  rintro ⟨i, v8⟩ H d u ⟨hi, rfl⟩
  dsimp only [List.take, List.set] at hi ⊢
  (rw [show (List.range 51).map u = [u 0, u 1, u 2, u 3, u 4, u 5, u 6, u 7, u 8, u 9, u 10, u 11, u 12, u 13, u 14, u 15, u 16, u 17, u 18, u 19, u 20, u 21, u 22, u 23, u 24, u 25, u 26, u 27, u 28, u 29, u 30, u 31, u 32, u 33, u 34, u 35, u 36, u 37, u 38, u 39, u 40, u 41, u 42, u 43, u 44, u 45, u 46, u 47, u 48, u 49, u 50] from rfl]; simp only [List.cons_append, List.nil_append])
  repeat (first | refine zE ?_ | refine zP ?_ | refine zD ?_ | refine zQ ?_ | refine zR ?_ | refine zS ?_ | refine wN ?_ | refine wM ?_ | refine wR ?_ | refine wS ?_ | refine wB ?_ | refine wG ?_ | refine wD ?_ | refine wY ?_ | refine wZ ?_ | refine wK ?_ | refine wT ?_ | refine wX ?_)
  by_cases hlt : i < own.length
  · refine wp_yes rfl (decide_eq_true (by omega)) ?_
    obtain ⟨x, hx⟩ := get_of hlt
    have hxm := p3 x (List.mem_of_getElem? hx)
    have hL : ∀ b, b ∈ (setE (own.take i)).map Prod.fst → cfg.keyed 3 (intK b) = true := fun b hb => by
      rw [setE_fst] at hb
      have := p3 b (List.mem_of_mem_take hb)
      exact hkey b this.1 this.2
    have hnot : x ∉ own.take i := fun hb => by
      obtain ⟨j, hj, hjx⟩ := take_get hb
      exact nodup_ne hnd hj hx hjx rfl
    repeat (first | refine zE ?_ | refine zP ?_ | refine zD ?_ | refine zQ ?_ | refine zR ?_ | refine zS ?_ | refine wN ?_ | refine wM ?_ | refine wR ?_ | refine wS ?_ | refine wB ?_ | refine wG ?_ | refine wD ?_ | refine wY ?_ | refine wZ ?_ | refine wK ?_ | refine wT ?_ | refine wX ?_)
    refine zF (step_idx rfl rfl rfl rfl rfl rfl ⟨by omega, by omega⟩ (drop_rows (k := 1) (fun _ => rfl) hx)) ?_
    repeat (first | refine zE ?_ | refine zP ?_ | refine zD ?_ | refine zQ ?_ | refine zR ?_ | refine zS ?_ | refine wN ?_ | refine wM ?_ | refine wR ?_ | refine wS ?_ | refine wB ?_ | refine wG ?_ | refine wD ?_ | refine wY ?_ | refine wZ ?_ | refine wK ?_ | refine wT ?_ | refine wX ?_)
    refine zF (step_mapput (k := intK) (a := x) rfl rfl rfl rfl rfl rfl intK_eq (hkey x hxm.1 hxm.2) hL rfl (by rw [setE_fst]; exact hnot)) ?_
    rw [setE_snoc]
    repeat (first | refine zE ?_ | refine zP ?_ | refine zD ?_ | refine zQ ?_ | refine zR ?_ | refine zS ?_ | refine wN ?_ | refine wM ?_ | refine wR ?_ | refine wS ?_ | refine wB ?_ | refine wG ?_ | refine wD ?_ | refine wY ?_ | refine wZ ?_ | refine wK ?_ | refine wT ?_ | refine wX ?_)
    rw [wrap_succ (by omega)]
    refine ⟨(i + 1, .int .i64 x), _, rfl, rfl, ⟨hlt, ?_⟩, (by first | omega | (dsimp only; omega))⟩
    dsimp only
    rw [List.take_add_one, hx]
    rfl
  refine wp_no rfl (decide_eq_false (by omega)) ?_
  have hil : i = own.length := by omega
  subst hil
  rw [List.take_length]
  have hL : ∀ b, b ∈ (setE own).map Prod.fst → cfg.keyed 3 (intK b) = true := fun b hb => by
    rw [setE_fst] at hb
    have := p3 b hb
    exact hkey b this.1 this.2
  repeat (first | refine zE ?_ | refine zP ?_ | refine zD ?_ | refine zQ ?_ | refine zR ?_ | refine zS ?_ | refine wN ?_ | refine wM ?_ | refine wR ?_ | refine wS ?_ | refine wB ?_ | refine wG ?_ | refine wD ?_ | refine wY ?_ | refine wZ ?_ | refine wK ?_ | refine wT ?_ | refine wX ?_)
  refine wp_loop4 64 38 (fun (a : Nat × V × V) l => ((l.set 63 (.int .i64 (a.1 : Int))).set 9 a.2.1).set 11 a.2.2)
    (fun a H d => a.1 ≤ cs.length ∧ H[0]? = some (.box (sV s)) ∧ H[1]? = some (.box (eV ⟨vs, fv, cs, fc, .mk k1 n1 f1 l1, .mk k2 n2 f2 l2⟩)) ∧ H[2]? = some (.map (mapE intK (setE own))) ∧ RepL tV 3 H (othersL (.mk k2 n2 f2 l2) (cs.take a.1)) a.2.1 ∧ ∀ j, j < a.1 → ∀ x, cs[j]? = some x → pairB s vs x.a x.b = true) (fun a => cs.length - a.1) (0, .sl 1 true (rows tV (othersL (.mk k2 n2 f2 l2) [])), .junk) rfl rfl ⟨Nat.zero_le _, rfl, rfl, rfl, .inl rfl, fun j hj => by omega⟩ ?_
  rintro ⟨i, v9, v11⟩ H d u ⟨hi, hb0, hb1, hb2, hrep, hpr⟩
  dsimp only [List.take, List.set] at hi hrep hpr ⊢
  (rw [show (List.range 38).map u = [u 0, u 1, u 2, u 3, u 4, u 5, u 6, u 7, u 8, u 9, u 10, u 11, u 12, u 13, u 14, u 15, u 16, u 17, u 18, u 19, u 20, u 21, u 22, u 23, u 24, u 25, u 26, u 27, u 28, u 29, u 30, u 31, u 32, u 33, u 34, u 35, u 36, u 37] from rfl]; simp only [List.cons_append, List.nil_append])
  repeat (first | refine zE ?_ | refine zP ?_ | refine zD ?_ | refine zQ ?_ | refine zR ?_ | refine zS ?_ | refine wN ?_ | refine wM ?_ | refine wR ?_ | refine wS ?_ | refine wB ?_ | refine wG ?_ | refine wD ?_ | refine wY ?_ | refine wZ ?_ | refine wK ?_ | refine wT ?_ | refine wX ?_)
  by_cases hlt : i < cs.length
  · refine wp_yes rfl (decide_eq_true (by omega)) ?_
    obtain ⟨x, hx⟩ := get_of hlt
    have hxf := hcf i x hx
    obtain ⟨⟨k3, n3, f3, l3⟩, ⟨k4, n4, f4, l4⟩⟩ := x
    dsimp only at hxf
    repeat (first | refine zE ?_ | refine zP ?_ | refine zD ?_ | refine zQ ?_ | refine zR ?_ | refine zS ?_ | refine wN ?_ | refine wM ?_ | refine wR ?_ | refine wS ?_ | refine wB ?_ | refine wG ?_ | refine wD ?_ | refine wY ?_ | refine wZ ?_ | refine wK ?_ | refine wT ?_ | refine wX ?_)
    refine zF (step_idx rfl rfl rfl rfl rfl rfl ⟨by omega, by omega⟩ (drop_rows (k := 6) cV_len hx)) ?_
    refine zF (step_enc rfl rfl rfl (cV_len _) rfl) ?_
    refine run_new rfl rfl (fun m => (by dsimp only [putTm, List.set])) ?_
    intro m11 H4 hm11 hl4 hb4 hold4
    refine run_store (v := .agg (cV ⟨.mk k3 n3 f3 l3, .mk k4 n4 f4 l4⟩)) rfl rfl rfl rfl rfl (cV_one _) (cV_len _) hb4 (cs' := cV ⟨.mk k3 n3 f3 l3, .mk k4 n4 f4 l4⟩) (splice_full (cV_len _).symm) (by dsimp only [putTm, List.set]) ?_
    intro H5 hl5 hb5 ho5
    have g0 := get_lt hb0
    have g1 := get_lt hb1
    have g2 := get_lt hb2
    have hb05 : H5[0]? = some (.box (sV s)) := by rw [ho5 0 (by omega), hold4 0 (by omega)]; exact hb0
    have hb15 : H5[1]? = some (.box (eV ⟨vs, fv, cs, fc, .mk k1 n1 f1 l1, .mk k2 n2 f2 l2⟩)) := by rw [ho5 1 (by omega), hold4 1 (by omega)]; exact hb1
    have hb25 : H5[2]? = some (.map (mapE intK (setE own))) := by rw [ho5 2 (by omega), hold4 2 (by omega)]; exact hb2
    have hrep5 : RepL tV 3 H5 (othersL (.mk k2 n2 f2 l2) (cs.take i)) v9 := hrep.heap fun j hj => by
      have := hrep.lt hj
      rw [ho5 j (by omega), hold4 j (by omega)]
    repeat (first | refine zL hb5 ?_ | refine zM hb5 ?_ | refine zO hb5 ?_ | refine zE ?_ | refine zP ?_ | refine zD ?_ | refine zQ ?_ | refine zR ?_ | refine zS ?_ | refine wN ?_ | refine wM ?_ | refine wR ?_ | refine wS ?_ | refine wB ?_ | refine wG ?_ | refine wD ?_ | refine wY ?_ | refine wZ ?_ | refine wK ?_ | refine wT ?_ | refine wX ?_)
    refine zF (step_call (ev_callv rfl rfl rfl rfl rfl rfl) rfl (hcl _ (.mk k3 n3 f3 l3) (.mk k4 n4 f4 l4) hb05 hb15 hxf.1 hxf.2)) ?_
    cases h6 : pairB s vs (.mk k3 n3 f3 l3) (.mk k4 n4 f4 l4)
    case false =>
      rw [hno fun h => by have := (hiff.1 h).2.2.2.2.2.1 _ (List.mem_of_getElem? hx); rw [h6] at this; cases this]
      repeat (first | refine zE ?_ | refine zP ?_ | refine zD ?_ | refine zQ ?_ | refine zR ?_ | refine zS ?_ | refine wN ?_ | refine wM ?_ | refine wR ?_ | refine wS ?_ | refine wB ?_ | refine wG ?_ | refine wD ?_ | refine wY ?_ | refine wZ ?_ | refine wK ?_ | refine wT ?_ | refine wX ?_)
      exact ⟨.inr rfl, _, rfl, rfl⟩
    repeat (first | refine zL hb5 ?_ | refine zM hb5 ?_ | refine zO hb5 ?_ | refine zE ?_ | refine zP ?_ | refine zD ?_ | refine zQ ?_ | refine zR ?_ | refine zS ?_ | refine wN ?_ | refine wM ?_ | refine wR ?_ | refine wS ?_ | refine wB ?_ | refine wG ?_ | refine wD ?_ | refine wY ?_ | refine wZ ?_ | refine wK ?_ | refine wT ?_ | refine wX ?_)
    have hol := othersL_len (.mk k2 n2 f2 l2) (cs.take i)
    rw [List.length_take, Nat.min_eq_left (by omega)] at hol
    obtain ⟨D, v', H', c, hD, hr, hrep', hsame⟩ := append_repL (fid := 112) (dst := 80) (tt := 60) tV_len (by decide) tV_one rfl rfl rfl rfl (by decide) rfl hrep5 [.mk k3 n3 f3 l3, .mk k4 n4 f4 l4] (by simp) (by rw [hol]; simp; omega) true 2 rfl
    refine zF (step_append rfl rfl rfl rfl hD (hr _ rfl)) ?_
    repeat (first | refine zE ?_ | refine zP ?_ | refine zD ?_ | refine zQ ?_ | refine zR ?_ | refine zS ?_ | refine wN ?_ | refine wM ?_ | refine wR ?_ | refine wS ?_ | refine wB ?_ | refine wG ?_ | refine wD ?_ | refine wY ?_ | refine wZ ?_ | refine wK ?_ | refine wT ?_ | refine wX ?_)
    rw [wrap_succ (by omega)]
    refine ⟨(i + 1, v', .bp m11 0), _, rfl, rfl, ⟨hlt, ?_, ?_, ?_, ?_, below_succ hpr fun y hy => by rw [hx] at hy; cases hy; exact h6⟩, (by first | omega | (dsimp only; omega))⟩
    · rw [hsame 0 (get_lt hb05) (hrep5.apart hb05)]; exact hb05
    · rw [hsame 1 (get_lt hb15) (hrep5.apart hb15)]; exact hb15
    · rw [hsame 2 (get_lt hb25) (hrep5.apartM hb25)]; exact hb25
    · rw [othersL_take hx]; exact hrep'
  refine wp_no rfl (decide_eq_false (by omega)) ?_
  have hpr' : ∀ c, c ∈ cs → pairB s vs c.a c.b = true := fun c hc => by
    obtain ⟨j, hj⟩ := List.getElem?_of_mem hc
    exact hpr j (by have := (List.getElem?_eq_some_iff.1 hj).1; omega) c hj
  have hil : i = cs.length := by omega
  subst hil
  rw [List.take_length] at hrep
  have hol := othersL_len (.mk k2 n2 f2 l2) cs
  have hof : ∀ x, x ∈ othersL (.mk k2 n2 f2 l2) cs → x.Fit ∧ x.Rng ∧ ∀ v, v ∈ varsA [x] → 0 ≤ v ∧ v < (vs.length : Int) := fun x hx => by
    unfold othersL at hx
    rcases List.mem_cons.1 hx with rfl | hx
    · exact ⟨hbf, hbr, p4⟩
    · obtain ⟨c, hc, hx⟩ := List.mem_flatMap.1 hx
      have h8 := pairB_vars (hpr' c hc)
      obtain ⟨j, hj⟩ := List.getElem?_of_mem hc
      have := hcf j c hj
      have h9 := hcr j c hj
      simp at hx
      rcases hx with rfl | rfl
      · exact ⟨this.1, h9.1, h8.2.2.1⟩
      · exact ⟨this.2, h9.2, h8.2.2.2⟩
  have hlast : (∀ x, x ∈ othersL (.mk k2 n2 f2 l2) cs → ∀ v, v ∈ varsA [x] → v ∈ own) → ans = true := fun h => hiff.2 ⟨by omega, by omega, h3', h4, h5, hpr', h⟩
  have hbad : ∀ x v, x ∈ othersL (.mk k2 n2 f2 l2) cs → v ∈ varsA [x] → v ∉ own → ans = false := fun x v hx hv hn => hno fun h => hn ((hiff.1 h).2.2.2.2.2.2 x hx v hv)
  clear hno hiff
  generalize othersL (.mk k2 n2 f2 l2) cs = L at hrep hol hof hlast hbad
  have hvlen : v9 = .sl L.length true (rows tV L) ∨ ∃ t0, v9 = .own t0 0 L.length L.length := by
    rcases hrep with h | ⟨t0, h, _⟩
    · exact .inl h
    · exact .inr ⟨t0, h⟩
  repeat (first | refine zE ?_ | refine zP ?_ | refine zD ?_ | refine zQ ?_ | refine zR ?_ | refine zS ?_ | refine wN ?_ | refine wM ?_ | refine wR ?_ | refine wS ?_ | refine wB ?_ | refine wG ?_ | refine wD ?_ | refine wY ?_ | refine wZ ?_ | refine wK ?_ | refine wT ?_ | refine wX ?_)
  refine zF (v := .int .i64 (L.length : Int)) (k := .pure) (H1 := H) (by rcases hvlen with rfl | ⟨t0, rfl⟩ <;> rfl) ?_
  repeat (first | refine zE ?_ | refine zP ?_ | refine zD ?_ | refine zQ ?_ | refine zR ?_ | refine zS ?_ | refine wN ?_ | refine wM ?_ | refine wR ?_ | refine wS ?_ | refine wB ?_ | refine wG ?_ | refine wD ?_ | refine wY ?_ | refine wZ ?_ | refine wK ?_ | refine wT ?_ | refine wX ?_)
  refine wp_loop4 85 17 (fun (a : Nat × V × V) l => ((l.set 84 (.int .i64 (a.1 : Int))).set 13 a.2.1).set 15 a.2.2)
    (fun a H d => a.1 ≤ L.length ∧ H[2]? = some (.map (mapE intK (setE own))) ∧ RepL tV 3 H L v9 ∧ ∀ j, j < a.1 → ∀ x, L[j]? = some x → ∀ v, v ∈ varsA [x] → v ∈ own) (fun a => L.length - a.1) (0, .junk, .junk) rfl rfl ⟨Nat.zero_le _, hb2, hrep, fun j hj => by omega⟩ ?_
  clear hb0 hb1 hb2 hrep hpr
  rintro ⟨i, v13, v15⟩ H d u ⟨hi, hb2, hrep, hin⟩
  dsimp only [List.take, List.set] at hi hin ⊢
  (rw [show (List.range 17).map u = [u 0, u 1, u 2, u 3, u 4, u 5, u 6, u 7, u 8, u 9, u 10, u 11, u 12, u 13, u 14, u 15, u 16] from rfl]; simp only [List.cons_append, List.nil_append])
  repeat (first | refine zE ?_ | refine zP ?_ | refine zD ?_ | refine zQ ?_ | refine zR ?_ | refine zS ?_ | refine wN ?_ | refine wM ?_ | refine wR ?_ | refine wS ?_ | refine wB ?_ | refine wG ?_ | refine wD ?_ | refine wY ?_ | refine wZ ?_ | refine wK ?_ | refine wT ?_ | refine wX ?_)
  by_cases hlt : i < L.length
  · refine wp_yes rfl (decide_eq_true (by omega)) ?_
    obtain ⟨x, hx⟩ := get_of hlt
    have hxm := List.mem_of_getElem? hx
    obtain ⟨hxf, hxr, hxv⟩ := hof x hxm
    repeat (first | refine zE ?_ | refine zP ?_ | refine zD ?_ | refine zQ ?_ | refine zR ?_ | refine zS ?_ | refine wN ?_ | refine wM ?_ | refine wR ?_ | refine wS ?_ | refine wB ?_ | refine wG ?_ | refine wD ?_ | refine wY ?_ | refine wZ ?_ | refine wK ?_ | refine wT ?_ | refine wX ?_)
    refine run_pick tV_len hrep hx rfl rfl rfl rfl rfl rfl rfl rfl (fun p => (by dsimp only [putTm, List.set])) (fun p => rfl) rfl (fun p => rfl) rfl rfl rfl (fun p => (by dsimp only [putTm, List.set])) ?_
    intro p
    obtain ⟨k5, n5, f5, l5⟩ := x
    refine run_new rfl rfl (fun m => (by dsimp only [putTm, List.set])) ?_
    intro m13 H4 hm13 hl4 hb4 hold4
    refine run_store (v := .agg (tV (.mk k5 n5 f5 l5))) rfl rfl rfl rfl rfl (tV_one _) (tV_len _) hb4 (cs' := tV (.mk k5 n5 f5 l5)) (splice_full (tV_len _).symm) (by dsimp only [putTm, List.set]) ?_
    intro H5 hl5 hb5 ho5
    have g2 := get_lt hb2
    have hb25 : H5[2]? = some (.map (mapE intK (setE own))) := by rw [ho5 2 (by omega), hold4 2 (by omega)]; exact hb2
    have hrep5 : RepL tV 3 H5 L v9 := hrep.heap fun j hj => by
      have := hrep.lt hj
      rw [ho5 j (by omega), hold4 j (by omega)]
    repeat (first | refine zL hb5 ?_ | refine zM hb5 ?_ | refine zO hb5 ?_ | refine zE ?_ | refine zP ?_ | refine zD ?_ | refine zQ ?_ | refine zR ?_ | refine zS ?_ | refine wN ?_ | refine wM ?_ | refine wR ?_ | refine wS ?_ | refine wB ?_ | refine wG ?_ | refine wD ?_ | refine wY ?_ | refine wZ ?_ | refine wK ?_ | refine wT ?_ | refine wX ?_)
    refine zF (step_call rfl rfl ((Vars_fn [.mk k5 n5 f5 l5] true (by simp) (fun x hx => by simp at hx; subst hx; exact hxf) (fun x hx => by simp at hx; subst hx; exact hxr)).cl)) ?_
    have hvl2 := varsA_len [.mk k5 n5 f5 l5] (by simp)
    have hbad2 := fun v => hbad _ v hxm
    generalize hvx : varsA [.mk k5 n5 f5 l5] = vx at hvl2 hxv hbad2 ⊢
    repeat (first | refine zE ?_ | refine zP ?_ | refine zD ?_ | refine zQ ?_ | refine zR ?_ | refine zS ?_ | refine wN ?_ | refine wM ?_ | refine wR ?_ | refine wS ?_ | refine wB ?_ | refine wG ?_ | refine wD ?_ | refine wY ?_ | refine wZ ?_ | refine wK ?_ | refine wT ?_ | refine wX ?_)
    refine wp_loop4 93 9 (fun (a : Nat × V) l => ((l.set 92 (.int .i64 (a.1 : Int))).set 15 a.2))
      (fun a H d => a.1 ≤ vx.length ∧ H = H5 ∧ ∀ j, j < a.1 → ∀ x, vx[j]? = some x → x ∈ own) (fun a => vx.length - a.1) (0, v15) rfl rfl ⟨Nat.zero_le _, rfl, fun j hj => by omega⟩ ?_
    rintro ⟨j, w15⟩ H d u ⟨hj, rfl, hown2⟩
    dsimp only [List.take, List.set] at hj hown2 ⊢
    (rw [show (List.range 9).map u = [u 0, u 1, u 2, u 3, u 4, u 5, u 6, u 7, u 8] from rfl]; simp only [List.cons_append, List.nil_append])
    repeat (first | refine zE ?_ | refine zP ?_ | refine zD ?_ | refine zQ ?_ | refine zR ?_ | refine zS ?_ | refine wN ?_ | refine wM ?_ | refine wR ?_ | refine wS ?_ | refine wB ?_ | refine wG ?_ | refine wD ?_ | refine wY ?_ | refine wZ ?_ | refine wK ?_ | refine wT ?_ | refine wX ?_)
    by_cases hlt2 : j < vx.length
    · refine wp_yes rfl (decide_eq_true (by omega)) ?_
      obtain ⟨y, hy⟩ := get_of hlt2
      have hym := List.mem_of_getElem? hy
      have hyv := hxv y hym
      repeat (first | refine zE ?_ | refine zP ?_ | refine zD ?_ | refine zQ ?_ | refine zR ?_ | refine zS ?_ | refine wN ?_ | refine wM ?_ | refine wR ?_ | refine wS ?_ | refine wB ?_ | refine wG ?_ | refine wD ?_ | refine wY ?_ | refine wZ ?_ | refine wK ?_ | refine wT ?_ | refine wX ?_)
      refine zF (step_idx rfl rfl rfl rfl rfl rfl ⟨by omega, by omega⟩ (drop_rows (k := 1) (fun _ => rfl) hy)) ?_
      repeat (first | refine zE ?_ | refine zP ?_ | refine zD ?_ | refine zQ ?_ | refine zR ?_ | refine zS ?_ | refine wN ?_ | refine wM ?_ | refine wR ?_ | refine wS ?_ | refine wB ?_ | refine wG ?_ | refine wD ?_ | refine wY ?_ | refine wZ ?_ | refine wK ?_ | refine wT ?_ | refine wX ?_)
      refine zF (step_lookup (k := intK) (a := y) rfl rfl rfl rfl rfl rfl rfl rfl intK_eq (hkey y hyv.1 hyv.2) hL hb25 (by rw [setE_fst]; exact hnd)) ?_
      rw [setE_lookup]
      repeat (first | refine zE ?_ | refine zP ?_ | refine zD ?_ | refine zQ ?_ | refine zR ?_ | refine zS ?_ | refine wN ?_ | refine wM ?_ | refine wR ?_ | refine wS ?_ | refine wB ?_ | refine wG ?_ | refine wD ?_ | refine wY ?_ | refine wZ ?_ | refine wK ?_ | refine wT ?_ | refine wX ?_)
      cases h7 : memB y own
      case false =>
        rw [hbad2 y hym (memB_no h7)]
        repeat (first | refine zE ?_ | refine zP ?_ | refine zD ?_ | refine zQ ?_ | refine zR ?_ | refine zS ?_ | refine wN ?_ | refine wM ?_ | refine wR ?_ | refine wS ?_ | refine wB ?_ | refine wG ?_ | refine wD ?_ | refine wY ?_ | refine wZ ?_ | refine wK ?_ | refine wT ?_ | refine wX ?_)
        exact ⟨.inr rfl, _, rfl, rfl⟩
      repeat (first | refine zE ?_ | refine zP ?_ | refine zD ?_ | refine zQ ?_ | refine zR ?_ | refine zS ?_ | refine wN ?_ | refine wM ?_ | refine wR ?_ | refine wS ?_ | refine wB ?_ | refine wG ?_ | refine wD ?_ | refine wY ?_ | refine wZ ?_ | refine wK ?_ | refine wT ?_ | refine wX ?_)
      rw [wrap_succ (by omega)]
      exact ⟨(j + 1, .int .i64 y), _, rfl, rfl, ⟨hlt2, rfl, below_succ hown2 fun z hz => by rw [hy] at hz; cases hz; exact memB_iff.1 h7⟩, (by first | omega | (dsimp only; omega))⟩
    refine wp_no rfl (decide_eq_false (by omega)) ?_
    repeat (first | refine zE ?_ | refine zP ?_ | refine zD ?_ | refine zQ ?_ | refine zR ?_ | refine zS ?_ | refine wN ?_ | refine wM ?_ | refine wR ?_ | refine wS ?_ | refine wB ?_ | refine wG ?_ | refine wD ?_ | refine wY ?_ | refine wZ ?_ | refine wK ?_ | refine wT ?_ | refine wX ?_)
    rw [wrap_succ (by omega)]
    refine ⟨(i + 1, .bp m13 0, w15), _, rfl, rfl, ⟨hlt, hb25, hrep5, below_succ hin fun z hz => ?_⟩, (by first | omega | (dsimp only; omega))⟩
    rw [hx] at hz
    cases hz
    rw [hvx]
    intro v hv
    obtain ⟨q, hq⟩ := List.getElem?_of_mem hv
    exact hown2 q (by have := (List.getElem?_eq_some_iff.1 hq).1; omega) v hq
  refine wp_no rfl (decide_eq_false (by omega)) ?_
  rw [hlast fun x hx v hv => by
    obtain ⟨q, hq⟩ := List.getElem?_of_mem hx
    exact hin q (by have := (List.getElem?_eq_some_iff.1 hq).1; omega) x hq v hv]
  repeat (first | refine zE ?_ | refine zP ?_ | refine zD ?_ | refine zQ ?_ | refine zR ?_ | refine zS ?_ | refine wN ?_ | refine wM ?_ | refine wR ?_ | refine wS ?_ | refine wB ?_ | refine wG ?_ | refine wD ?_ | refine wY ?_ | refine wZ ?_ | refine wK ?_ | refine wT ?_ | refine wX ?_)
  exact ⟨.inr rfl, _, rfl, rfl⟩
theorem F167 : cfg.F 167 = some Tryz.f167 := rfl
theorem isType1_fnH (t : Ty) (H : Heap) (j : Nat) (hj : H[j]? = some (.box (yV t))) (hsig : sigB t.sig = true) (hs : t.sig.Fit) (e : Eq2) (he : e.Fit) (hr : e.Rng) : FnH 167 [.agg (eV e), .bp j 0] H (.bool !(eqnB t.sig e)) := by
  obtain ⟨vs, fv, cs, fc, ⟨k1, n1, f1, l1⟩, ⟨k2, n2, f2, l2⟩⟩ := e
  have g := get_lt hj
  refine FnH.of_wp F167 rfl ?_
  simp only [show Tryz.f167.ntmps = 9 from rfl, List.length_cons, List.length_nil, List.replicate, List.cons_append, List.nil_append]
  refine wp_seq ?_
  refine wp_region ?_
  refine run_new rfl rfl (fun m => (by dsimp only [putTm, List.set])) ?_
  intro m H1 hm hl1 hb hold
  have hj1 : H1[j]? = some (.box (yV t)) := by rw [hold j (by omega)]; exact hj
  have hb1 : H1[m]? = some (.box (eV ⟨vs, fv, cs, fc, .mk k1 n1 f1 l1, .mk k2 n2 f2 l2⟩)) := hb
  repeat (first | refine zL hb1 ?_ | refine zM hb1 ?_ | refine zO hb1 ?_ | refine zL hj1 ?_ | refine zM hj1 ?_ | refine zO hj1 ?_ | refine zE ?_ | refine zP ?_ | refine zD ?_ | refine zQ ?_ | refine zR ?_ | refine zS ?_ | refine wN ?_ | refine wM ?_ | refine wR ?_ | refine wS ?_ | refine wB ?_ | refine wG ?_ | refine wD ?_ | refine wY ?_ | refine wZ ?_ | refine wK ?_ | refine wT ?_ | refine wX ?_)
  refine zF (step_call rfl rfl ((equation_fn t.sig ⟨vs, fv, cs, fc, .mk k1 n1 f1 l1, .mk k2 n2 f2 l2⟩ hs he hr hsig).cl)) ?_
  repeat (first | refine zE ?_ | refine zP ?_ | refine zD ?_ | refine zQ ?_ | refine zR ?_ | refine zS ?_ | refine wN ?_ | refine wM ?_ | refine wR ?_ | refine wS ?_ | refine wB ?_ | refine wG ?_ | refine wD ?_ | refine wY ?_ | refine wZ ?_ | refine wK ?_ | refine wT ?_ | refine wX ?_)
  exact ⟨.inr rfl, _, rfl, fun j hj => by (first | cases hj | simp at hj), rfl⟩
structure Ty.Rng (t : Ty) : Prop where
  eqn : ∀ (j : Nat) e, t.eqns[j]? = some e → e.Rng
theorem F101 : cfg.F 101 = some Tryz.f101 := rfl
set_option maxHeartbeats 4000000 in
theorem isType_fn (t : Ty) (ht : t.Fit) (hr : t.Rng) : Fn 101 [.agg (yV t)] (.bool (typeB t)) := by
  unfold typeB
  have hl := ht.eqns
  refine Fn.of_wp F101 rfl ?_
  simp only [show Tryz.f101.ntmps = 18 from rfl, List.length_cons, List.length_nil, List.replicate, List.cons_append, List.nil_append]
  repeat (first | refine zE ?_ | refine zP ?_ | refine zD ?_ | refine zQ ?_ | refine zR ?_ | refine zS ?_ | refine wN ?_ | refine wM ?_ | refine wR ?_ | refine wS ?_ | refine wB ?_ | refine wG ?_ | refine wD ?_ | refine wY ?_ | refine wZ ?_ | refine wK ?_ | refine wT ?_ | refine wX ?_)
  refine zF (step_call rfl rfl ((check_fn t.sig ht.sig).cl)) ?_
  cases h1 : sigB t.sig
  · repeat (first | refine zE ?_ | refine zP ?_ | refine zD ?_ | refine zQ ?_ | refine zR ?_ | refine zS ?_ | refine wN ?_ | refine wM ?_ | refine wR ?_ | refine wS ?_ | refine wB ?_ | refine wG ?_ | refine wD ?_ | refine wY ?_ | refine wZ ?_ | refine wK ?_ | refine wT ?_ | refine wX ?_)
    exact ⟨.inr rfl, _, rfl, rfl⟩
  repeat (first | refine zE ?_ | refine zP ?_ | refine zD ?_ | refine zQ ?_ | refine zR ?_ | refine zS ?_ | refine wN ?_ | refine wM ?_ | refine wR ?_ | refine wS ?_ | refine wB ?_ | refine wG ?_ | refine wD ?_ | refine wY ?_ | refine wZ ?_ | refine wK ?_ | refine wT ?_ | refine wX ?_)
  cases h2 : decide ((t.eqns.length : Int) > 400)
  case true =>
    repeat (first | refine zE ?_ | refine zP ?_ | refine zD ?_ | refine zQ ?_ | refine zR ?_ | refine zS ?_ | refine wN ?_ | refine wM ?_ | refine wR ?_ | refine wS ?_ | refine wB ?_ | refine wG ?_ | refine wD ?_ | refine wY ?_ | refine wZ ?_ | refine wK ?_ | refine wT ?_ | refine wX ?_)
    exact ⟨.inr rfl, _, rfl, rfl⟩
  obtain ⟨r, he, hq⟩ := hasE_ent t.eqns t.fe 167 [.bp 0 0] (fun e => !(eqnB t.sig e)) [.box (yV t)] hl rfl rfl (.inr ⟨.bp 0 0, by simp, .inl ⟨_, _, rfl⟩⟩) fun x hx => by
    obtain ⟨j, hj⟩ := List.getElem?_of_mem hx
    exact (isType1_fnH t _ 0 rfl h1 ht.sig x (ht.eqn j x hj) (hr.eqn j x hj)).cf (by decide) rfl (mapM_none (x := .bp 0 0) (by simp) rfl)
  obtain ⟨kc, hk, hd⟩ := hq.cf he rfl (by decide) rfl (.inr (Obj.strip (caps := [.bp 0 0]) ⟨.bp 0 0, by simp, .inl ⟨_, _, rfl⟩⟩ (p := 167) (by simp)))
  repeat (first | refine zE ?_ | refine zP ?_ | refine zD ?_ | refine zQ ?_ | refine zR ?_ | refine zS ?_ | refine wN ?_ | refine wM ?_ | refine wR ?_ | refine wS ?_ | refine wB ?_ | refine wG ?_ | refine wD ?_ | refine wY ?_ | refine wZ ?_ | refine wK ?_ | refine wT ?_ | refine wX ?_)
  refine zF (step_call rfl rfl hk) ?_
  repeat (first | refine zE ?_ | refine zP ?_ | refine zD ?_ | refine zQ ?_ | refine zR ?_ | refine zS ?_ | refine wN ?_ | refine wM ?_ | refine wR ?_ | refine wS ?_ | refine wB ?_ | refine wG ?_ | refine wD ?_ | refine wY ?_ | refine wZ ?_ | refine wK ?_ | refine wT ?_ | refine wX ?_)
  rw [any_not]
  exact ⟨.inr rfl, _, rfl, rfl⟩
theorem F39 : cfg.F 39 = some Tryz.f39 := rfl
theorem checkT_fn (t : Ty) (ht : t.Fit) (hr : t.Rng) : Fn 39 [.agg (yV t)] (.int .i64 (if typeB t then 0 else 5)) := by
  refine Fn.of_wp F39 rfl ?_
  simp only [show Tryz.f39.ntmps = 6 from rfl, List.length_cons, List.length_nil, List.replicate, List.cons_append, List.nil_append]
  repeat (first | refine zE ?_ | refine zP ?_ | refine zD ?_ | refine zQ ?_ | refine zR ?_ | refine zS ?_ | refine wN ?_ | refine wM ?_ | refine wR ?_ | refine wS ?_ | refine wB ?_ | refine wG ?_ | refine wD ?_ | refine wY ?_ | refine wZ ?_ | refine wK ?_ | refine wT ?_ | refine wX ?_)
  refine zF (step_call rfl rfl ((isType_fn t ht hr).cl)) ?_
  cases h1 : typeB t
  · repeat (first | refine zE ?_ | refine zP ?_ | refine zD ?_ | refine zQ ?_ | refine zR ?_ | refine zS ?_ | refine wN ?_ | refine wM ?_ | refine wR ?_ | refine wS ?_ | refine wB ?_ | refine wG ?_ | refine wD ?_ | refine wY ?_ | refine wZ ?_ | refine wK ?_ | refine wT ?_ | refine wX ?_)
    exact ⟨.inr rfl, _, rfl, rfl⟩
  · repeat (first | refine zE ?_ | refine zP ?_ | refine zD ?_ | refine zQ ?_ | refine zR ?_ | refine zS ?_ | refine wN ?_ | refine wM ?_ | refine wR ?_ | refine wS ?_ | refine wB ?_ | refine wG ?_ | refine wD ?_ | refine wY ?_ | refine wZ ?_ | refine wK ?_ | refine wT ?_ | refine wX ?_)
    exact ⟨.inr rfl, _, rfl, rfl⟩
end Go.Av
