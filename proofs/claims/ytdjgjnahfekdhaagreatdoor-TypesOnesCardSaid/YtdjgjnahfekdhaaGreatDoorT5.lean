/- Contracts over the evaluator: variables, equations. Conditions: none beyond the hypotheses of each theorem. -/
import Derived.Test.YtdjgjnahfekdhaaGreatDoorT3
import Derived.Test.YtdjgjnahfekdhaaGreatDoorS1
import Derived.Test.YtdjgjnahfekdhaaGreatDoorT4
set_option linter.unusedSectionVars false
set_option linter.unusedVariables false
set_option linter.unusedSimpArgs false
namespace Go.Av
open Go.Proofs
set_option maxRecDepth 100000
mutual
def varsT : T → List Int → List Int
  | .mk k n f l, out => if k = 1 then (if out.contains n then out else out ++ [n]) else varsL l out
def varsL : List T → List Int → List Int
  | [], out => out
  | t :: l, out => varsL l (varsT t out)
end
mutual
def nT : T → Nat
  | .mk k n f l => 1 + nsT l
def nsT : List T → Nat
  | [] => 0
  | t :: l => nT t + nsT l
end
mutual
theorem varsT_len : ∀ (t : T) (out : List Int), out.length ≤ (varsT t out).length ∧ (varsT t out).length ≤ out.length + nT t
  | .mk k n f l, out => by
    rw [varsT, nT]
    split
    · split
      · constructor <;> omega
      · simp
    · have := varsL_len l out; constructor <;> omega
theorem varsL_len : ∀ (l : List T) (out : List Int), out.length ≤ (varsL l out).length ∧ (varsL l out).length ≤ out.length + nsT l
  | [], out => by rw [varsL, nsT]; omega
  | t :: l, out => by
    rw [varsL, nsT]
    have h1 := varsT_len t out
    have h2 := varsL_len l (varsT t out)
    omega
end
structure Kept2 (H : Heap) (v : V) (H' : Heap) (v' : V) : Prop where
  len : H.length ≤ H'.length
  same : ∀ j, j < H.length → num v ≠ some j → H'[j]? = H[j]?
  new : num v' = num v ∨ ∃ m, num v' = some m ∧ H.length ≤ m
theorem Kept2.refl (H : Heap) (v : V) : Kept2 H v H v := ⟨Nat.le_refl _, fun _ _ _ => rfl, .inl rfl⟩
theorem Kept2.trans {H0 H1 H2 : Heap} {v0 v1 v2 : V} (a : Kept2 H0 v0 H1 v1) (b : Kept2 H1 v1 H2 v2) : Kept2 H0 v0 H2 v2 := by
  refine ⟨Nat.le_trans a.len b.len, fun j hj hn => ?_, ?_⟩
  · rw [b.same j (Nat.lt_of_lt_of_le hj a.len) ?_, a.same j hj hn]
    rcases a.new with h | ⟨m, h, hm⟩
    · rw [h]; exact hn
    · rw [h]; intro e; cases e; omega
  · rcases b.new with h | ⟨m, h, hm⟩
    · rw [h]; exact a.new
    · exact .inr ⟨m, h, Nat.le_trans a.len hm⟩
theorem Kept2.fresh {H0 H1 : Heap} {v : V} (h : H1.length = H0.length + 1) (hs : ∀ j, j < H0.length → H1[j]? = H0[j]?) : Kept2 H0 v H1 v := ⟨by omega, fun j hj _ => hs j hj, .inl rfl⟩
theorem Appended.kept {α : Type} {enc : α → List V} {k n0 : Nat} {out : List α} {H H' : Heap} {v v' : V} {c : Cls} (h : Appended enc k H n0 out v H' v' c) : Kept2 H v H' v' := ⟨h.len, h.same, h.nums⟩
theorem intV_len (n : Int) : (intV n).length = 1 := rfl
theorem intV_flat (n : Int) : V.flats (intV n) = true := rfl
theorem intV_one (n : Int) : (intV n).all V.one = true := rfl
theorem F209 : cfg.F 209 = some Tryz.f209 := rfl
set_option maxHeartbeats 8000000 in
theorem vars4_ent : ∀ (t : T), t.Fit → nodeT t = true → ∀ (H0 : Heap) (out : List Int) (v : V), Rep intV 1 H0 0 out v → out.length + nT t ≤ 100000 →
    ∃ r, E 209 [.agg (tV t), v] H0 = some r ∧ r.pan = false ∧ Rep intV 1 r.H 0 (varsT t out) r.v ∧ Kept2 H0 v r.H r.v := by
  refine T_ind ?_
  intro k n f l ih hfit hnode H0 out v hrep hroom
  rw [T.Fit] at hfit
  obtain ⟨hn0, hk, hk1, hl8, hch⟩ := nodeT_mk hnode
  rw [nT] at hroom
  rw [tV_mk, varsT]
  refine enter_wp (P := fun r => r.pan = false ∧ Rep intV 1 r.H 0 _ r.v ∧ Kept2 H0 v r.H r.v) F209 rfl ?_
  simp only [show Tryz.f209.ntmps = 34 from rfl, List.length_cons, List.length_nil, List.replicate, List.cons_append, List.nil_append]
  refine wp_seq ?_
  refine wp_region ?_
  refine run_new rfl rfl (fun m => (by dsimp only [putTm, List.set])) ?_
  intro m H1 hm hl1 hb hold
  have hrep1 : Rep intV 1 H1 0 out v := hrep.heap fun j hj => hold j (by have := hrep.lt hj; omega)
  have hk1' : Kept2 H0 v H1 v := .fresh (by omega) fun j hj => hold j (by omega)
  repeat (first | refine zL hb ?_ | refine zM hb ?_ | refine zO hb ?_ | refine zE ?_ | refine zP ?_ | refine zD ?_ | refine zQ ?_ | refine zR ?_ | refine zS ?_ | refine wN ?_ | refine wM ?_ | refine wR ?_ | refine wS ?_ | refine wB ?_ | refine wG ?_ | refine wD ?_ | refine wY ?_ | refine wZ ?_ | refine wK ?_ | refine wT ?_ | refine wX ?_)
  cases h1 : (k == 1)
  case true =>
    rw [if_pos (by simpa using h1)]
    have hk' : k = 1 := by simpa using h1
    repeat (first | refine zL hb ?_ | refine zM hb ?_ | refine zO hb ?_ | refine zE ?_ | refine zP ?_ | refine zD ?_ | refine zQ ?_ | refine zR ?_ | refine zS ?_ | refine wN ?_ | refine wM ?_ | refine wR ?_ | refine wS ?_ | refine wB ?_ | refine wG ?_ | refine wD ?_ | refine wY ?_ | refine wZ ?_ | refine wK ?_ | refine wT ?_ | refine wX ?_)
    refine zF (step_call rfl rfl ((in_fn out out.isEmpty n (by omega)).call_strip (by decide) rfl (strips_cons (hrep1.strips intV_len intV_flat) (strips_cons rfl rfl)))) ?_
    repeat (first | refine zE ?_ | refine zP ?_ | refine zD ?_ | refine zQ ?_ | refine zR ?_ | refine zS ?_ | refine wN ?_ | refine wM ?_ | refine wR ?_ | refine wS ?_ | refine wB ?_ | refine wG ?_ | refine wD ?_ | refine wY ?_ | refine wZ ?_ | refine wK ?_ | refine wT ?_ | refine wX ?_)
    cases h2 : out.contains n
    case true =>
      rw [if_pos rfl]
      repeat (first | refine zE ?_ | refine zP ?_ | refine zD ?_ | refine zQ ?_ | refine zR ?_ | refine zS ?_ | refine wN ?_ | refine wM ?_ | refine wR ?_ | refine wS ?_ | refine wB ?_ | refine wG ?_ | refine wD ?_ | refine wY ?_ | refine wZ ?_ | refine wK ?_ | refine wT ?_ | refine wX ?_)
      exact ⟨.inr rfl, _, rfl, (by first | rfl | trivial), hrep1, hk1'⟩
    rw [if_neg (by simp)]
    repeat (first | refine zL hb ?_ | refine zM hb ?_ | refine zO hb ?_ | refine zE ?_ | refine zP ?_ | refine zD ?_ | refine zQ ?_ | refine zR ?_ | refine zS ?_ | refine wN ?_ | refine wM ?_ | refine wR ?_ | refine wS ?_ | refine wB ?_ | refine wG ?_ | refine wD ?_ | refine wY ?_ | refine wZ ?_ | refine wK ?_ | refine wT ?_ | refine wX ?_)
    obtain ⟨D, v', H', c, hD, hr, ha⟩ := append_rep (fid := 209) (dst := 18) (tt := 27) intV_len (by decide) intV_one rfl rfl rfl rfl (by decide) rfl hrep1 [n] (by simp) (by simp; omega) (Nat.zero_le _) true 1 rfl
    refine zF (step_append rfl rfl rfl rfl hD (hr _ rfl)) ?_
    repeat (first | refine zE ?_ | refine zP ?_ | refine zD ?_ | refine zQ ?_ | refine zR ?_ | refine zS ?_ | refine wN ?_ | refine wM ?_ | refine wR ?_ | refine wS ?_ | refine wB ?_ | refine wG ?_ | refine wD ?_ | refine wY ?_ | refine wZ ?_ | refine wK ?_ | refine wT ?_ | refine wX ?_)
    exact ⟨.inr rfl, _, rfl, (by first | rfl | trivial), ha.rep, hk1'.trans ha.kept⟩
  rw [if_neg (by simpa using h1)]
  repeat (first | refine zE ?_ | refine zP ?_ | refine zD ?_ | refine zQ ?_ | refine zR ?_ | refine zS ?_ | refine wN ?_ | refine wM ?_ | refine wR ?_ | refine wS ?_ | refine wB ?_ | refine wG ?_ | refine wD ?_ | refine wY ?_ | refine wZ ?_ | refine wK ?_ | refine wT ?_ | refine wX ?_)
  refine wp_loop2 28 (fun a : Nat × V => [.agg [.int .i64 k, .int .i64 n, .sl l.length f (rows tV l)], a.2, .bp m 0, .junk, .sl 0 true [], .int .i64 (a.1 : Int)]) (fun a H => a.1 ≤ l.length ∧ H[m]? = some (.box [.int .i64 k, .int .i64 n, .sl l.length f (rows tV l)]) ∧ ∃ o, Rep intV 1 H 0 o a.2 ∧ Kept2 H0 v H a.2 ∧ varsL (l.drop a.1) o = varsL l out ∧ o.length + nsT (l.drop a.1) ≤ 100000) (fun a => l.length - a.1) (0, v) ⟨_, rfl, rfl, Nat.zero_le _, hb, out, hrep1, hk1', rfl, by simp only [List.drop_zero]; omega⟩ ?_
  rintro ⟨i, v2⟩ H d u ⟨hi, hb2, o, hrep2, hkept2, hc, hroom2⟩
  dsimp only at hi hrep2 hkept2 hc hroom2 ⊢
  clear hb hrep1 hk1' hold
  (rw [show (List.range 28).map u = [u 0, u 1, u 2, u 3, u 4, u 5, u 6, u 7, u 8, u 9, u 10, u 11, u 12, u 13, u 14, u 15, u 16, u 17, u 18, u 19, u 20, u 21, u 22, u 23, u 24, u 25, u 26, u 27] from rfl]; simp only [List.cons_append, List.nil_append])
  repeat (first | refine zL hb2 ?_ | refine zM hb2 ?_ | refine zO hb2 ?_ | refine zE ?_ | refine zP ?_ | refine zD ?_ | refine zQ ?_ | refine zR ?_ | refine zS ?_ | refine wN ?_ | refine wM ?_ | refine wR ?_ | refine wS ?_ | refine wB ?_ | refine wG ?_ | refine wD ?_ | refine wY ?_ | refine wZ ?_ | refine wK ?_ | refine wT ?_ | refine wX ?_)
  by_cases hlt : i < l.length
  · refine wp_yes rfl (decide_eq_true (by omega)) ?_
    obtain ⟨x, hx⟩ := get_of hlt
    have hmem := List.mem_of_getElem? hx
    rw [drop_of hx, varsL] at hc
    rw [drop_of hx, nsT] at hroom2
    repeat (first | refine zL hb2 ?_ | refine zM hb2 ?_ | refine zO hb2 ?_ | refine zE ?_ | refine zP ?_ | refine zD ?_ | refine zQ ?_ | refine zR ?_ | refine zS ?_ | refine wN ?_ | refine wM ?_ | refine wR ?_ | refine wS ?_ | refine wB ?_ | refine wG ?_ | refine wD ?_ | refine wY ?_ | refine wZ ?_ | refine wK ?_ | refine wT ?_ | refine wX ?_)
    refine zF (step_idx rfl rfl rfl rfl rfl rfl ⟨by omega, by omega⟩ (drop_rows (k := 3) tV_len hx)) ?_
    refine zF (step_enc rfl rfl rfl (tV_len _) rfl) ?_
    repeat (first | refine zE ?_ | refine zP ?_ | refine zD ?_ | refine zQ ?_ | refine zR ?_ | refine zS ?_ | refine wN ?_ | refine wM ?_ | refine wR ?_ | refine wS ?_ | refine wB ?_ | refine wG ?_ | refine wD ?_ | refine wY ?_ | refine wZ ?_ | refine wK ?_ | refine wT ?_ | refine wX ?_)
    obtain ⟨r, he, hpan, hrep3, hkept3⟩ := ih x hmem (hfit.2.at hmem) (hch x hmem) H o v2 hrep2 (by omega)
    refine zF (step_call rfl rfl (call_kept (by decide) rfl he hpan)) ?_
    repeat (first | refine zE ?_ | refine zP ?_ | refine zD ?_ | refine zQ ?_ | refine zR ?_ | refine zS ?_ | refine wN ?_ | refine wM ?_ | refine wR ?_ | refine wS ?_ | refine wB ?_ | refine wG ?_ | refine wD ?_ | refine wY ?_ | refine wZ ?_ | refine wK ?_ | refine wT ?_ | refine wX ?_)
    rw [wrap_succ (by omega)]
    have hvl := varsT_len x o
    refine ⟨(i + 1, r.v), _, rfl, rfl, ⟨hlt, ?_, varsT x o, hrep3, hkept2.trans hkept3, hc, (by first | omega | (dsimp only; omega))⟩, (by first | omega | (dsimp only; omega))⟩
    rw [hkept3.same m (get_lt hb2) (hrep2.apart hb2)]
    exact hb2
  · refine wp_no rfl (decide_eq_false (by omega)) ?_
    have hil : i = l.length := by omega
    subst hil
    rw [List.drop_length, varsL] at hc
    rw [← hc]
    repeat (first | refine zE ?_ | refine zP ?_ | refine zD ?_ | refine zQ ?_ | refine zR ?_ | refine zS ?_ | refine wN ?_ | refine wM ?_ | refine wR ?_ | refine wS ?_ | refine wB ?_ | refine wG ?_ | refine wD ?_ | refine wY ?_ | refine wZ ?_ | refine wK ?_ | refine wT ?_ | refine wX ?_)
    exact ⟨.inr rfl, _, rfl, (by first | rfl | trivial), hrep2, hkept2⟩
def varsA (l : List T) : List Int := if l.all treeB then varsL l [] else []
end Go.Av
namespace Go.Av
open Go.Proofs
set_option maxRecDepth 100000
mutual
theorem cntT_nT : ∀ (t : T) (left deep n : Int), cntT t left deep = (n, true) → n + nT t = left
  | .mk k m f l, left, deep, n, h => by
    rw [cntT] at h
    split at h
    · simp at h
    · rename_i hc
      have := cntL_nT l (left - 1) deep n h
      rw [nT]; omega
theorem cntL_nT : ∀ (l : List T) (left deep n : Int), cntL l left deep = (n, true) → n + nsT l = left
  | [], left, deep, n, h => by simp [cntL] at h; rw [nsT]; omega
  | t :: l, left, deep, n, h => by
    rw [cntL] at h
    split at h
    · rename_i m hm
      have h1 := cntT_nT t left (deep + 1) m hm
      have := cntL_nT l m deep n h
      rw [nsT]; omega
    · simp at h
end
theorem treeB_nT {t : T} (h : treeB t = true) : nT t ≤ 2000 := by
  unfold treeB at h
  rw [Bool.and_eq_true] at h
  have h2 := cntT_nT t 2000 1 (cntT t 2000 1).1 (by rw [← h.1])
  have h3 := cntT_in t 2000 1 (cntT t 2000 1).1 (by rw [← h.1])
  omega
theorem treeB_node {t : T} (h : treeB t = true) : nodeT t = true := by
  unfold treeB at h
  rw [Bool.and_eq_true] at h
  exact h.2
theorem nsT_le : ∀ (l : List T), (∀ x, x ∈ l → treeB x = true) → nsT l ≤ l.length * 2000
  | [], _ => by simp [nsT]
  | t :: l, h => by
    have h1 := treeB_nT (h t (by simp))
    have h2 := nsT_le l fun x hx => h x (by simp [hx])
    rw [nsT, List.length_cons, Nat.add_mul]; omega
theorem F139 : cfg.F 139 = some Tryz.f139 := rfl
set_option maxHeartbeats 4000000 in
theorem vars4_fn (l : List T) (f : Bool) (hl : l.length ≤ 40) (hf : ∀ x, x ∈ l → x.Fit) : Fn 139 [.sl l.length f (rows tV l)] (slOf intV (varsA l)) := by
  unfold varsA
  refine Fn.of_wp F139 rfl ?_
  simp only [show Tryz.f139.ntmps = 23 from rfl, List.length_cons, List.length_nil, List.replicate, List.cons_append, List.nil_append]
  repeat (first | refine zE ?_ | refine zP ?_ | refine zD ?_ | refine zQ ?_ | refine zR ?_ | refine zS ?_ | refine wN ?_ | refine wM ?_ | refine wR ?_ | refine wS ?_ | refine wB ?_ | refine wG ?_ | refine wD ?_ | refine wY ?_ | refine wZ ?_ | refine wK ?_ | refine wT ?_ | refine wX ?_)
  refine zF (step_call rfl rfl ((all4_fn l f (by omega) hf).cl)) ?_
  repeat (first | refine zE ?_ | refine zP ?_ | refine zD ?_ | refine zQ ?_ | refine zR ?_ | refine zS ?_ | refine wN ?_ | refine wM ?_ | refine wR ?_ | refine wS ?_ | refine wB ?_ | refine wG ?_ | refine wD ?_ | refine wY ?_ | refine wZ ?_ | refine wK ?_ | refine wT ?_ | refine wX ?_)
  cases h1 : l.all treeB
  · repeat (first | refine zE ?_ | refine zP ?_ | refine zD ?_ | refine zQ ?_ | refine zR ?_ | refine zS ?_ | refine wN ?_ | refine wM ?_ | refine wR ?_ | refine wS ?_ | refine wB ?_ | refine wG ?_ | refine wD ?_ | refine wY ?_ | refine wZ ?_ | refine wK ?_ | refine wT ?_ | refine wX ?_)
    exact ⟨.inr rfl, _, rfl, rfl⟩
  rw [if_pos rfl]
  have hall : ∀ x, x ∈ l → treeB x = true := fun x hx => List.all_eq_true.1 h1 x hx
  have hns := nsT_le l hall
  repeat (first | refine zE ?_ | refine zP ?_ | refine zD ?_ | refine zQ ?_ | refine zR ?_ | refine zS ?_ | refine wN ?_ | refine wM ?_ | refine wR ?_ | refine wS ?_ | refine wB ?_ | refine wG ?_ | refine wD ?_ | refine wY ?_ | refine wZ ?_ | refine wK ?_ | refine wT ?_ | refine wX ?_)
  refine wp_loop2 18 (fun a : Nat × V => [.sl l.length f (rows tV l), .junk, .sl 0 true [], a.2, .int .i64 (a.1 : Int)]) (fun a H => a.1 ≤ l.length ∧ ∃ o, Rep intV 1 H 0 o a.2 ∧ varsL (l.drop a.1) o = varsL l [] ∧ o.length + nsT (l.drop a.1) ≤ 100000) (fun a => l.length - a.1) (0, .sl 0 true []) ⟨_, rfl, rfl, Nat.zero_le _, [], Rep.nil, rfl, by simp; omega⟩ ?_
  rintro ⟨i, v2⟩ H d u ⟨hi, o, hrep2, hc, hroom2⟩
  dsimp only at hi hrep2 hc hroom2 ⊢
  (rw [show (List.range 18).map u = [u 0, u 1, u 2, u 3, u 4, u 5, u 6, u 7, u 8, u 9, u 10, u 11, u 12, u 13, u 14, u 15, u 16, u 17] from rfl]; simp only [List.cons_append, List.nil_append])
  repeat (first | refine zE ?_ | refine zP ?_ | refine zD ?_ | refine zQ ?_ | refine zR ?_ | refine zS ?_ | refine wN ?_ | refine wM ?_ | refine wR ?_ | refine wS ?_ | refine wB ?_ | refine wG ?_ | refine wD ?_ | refine wY ?_ | refine wZ ?_ | refine wK ?_ | refine wT ?_ | refine wX ?_)
  by_cases hlt : i < l.length
  · refine wp_yes rfl (decide_eq_true (by omega)) ?_
    obtain ⟨x, hx⟩ := get_of hlt
    have hmem := List.mem_of_getElem? hx
    rw [drop_of hx, varsL] at hc
    rw [drop_of hx, nsT] at hroom2
    repeat (first | refine zE ?_ | refine zP ?_ | refine zD ?_ | refine zQ ?_ | refine zR ?_ | refine zS ?_ | refine wN ?_ | refine wM ?_ | refine wR ?_ | refine wS ?_ | refine wB ?_ | refine wG ?_ | refine wD ?_ | refine wY ?_ | refine wZ ?_ | refine wK ?_ | refine wT ?_ | refine wX ?_)
    refine zF (step_idx rfl rfl rfl rfl rfl rfl ⟨by omega, by omega⟩ (drop_rows (k := 3) tV_len hx)) ?_
    refine zF (step_enc rfl rfl rfl (tV_len _) rfl) ?_
    repeat (first | refine zE ?_ | refine zP ?_ | refine zD ?_ | refine zQ ?_ | refine zR ?_ | refine zS ?_ | refine wN ?_ | refine wM ?_ | refine wR ?_ | refine wS ?_ | refine wB ?_ | refine wG ?_ | refine wD ?_ | refine wY ?_ | refine wZ ?_ | refine wK ?_ | refine wT ?_ | refine wX ?_)
    obtain ⟨r, he, hpan, hrep3, hkept3⟩ := vars4_ent x (hf x hmem) (treeB_node (hall x hmem)) H o v2 hrep2 (by omega)
    refine zF (step_call rfl rfl (call_kept (by decide) rfl he hpan)) ?_
    repeat (first | refine zE ?_ | refine zP ?_ | refine zD ?_ | refine zQ ?_ | refine zR ?_ | refine zS ?_ | refine wN ?_ | refine wM ?_ | refine wR ?_ | refine wS ?_ | refine wB ?_ | refine wG ?_ | refine wD ?_ | refine wY ?_ | refine wZ ?_ | refine wK ?_ | refine wT ?_ | refine wX ?_)
    rw [wrap_succ (by omega)]
    have hvl := varsT_len x o
    exact ⟨(i + 1, r.v), _, rfl, rfl, ⟨hlt, varsT x o, hrep3, hc, (by first | omega | (dsimp only; omega))⟩, (by first | omega | (dsimp only; omega))⟩
  · refine wp_no rfl (decide_eq_false (by omega)) ?_
    have hil : i = l.length := by omega
    subst hil
    rw [List.drop_length, varsL] at hc
    rw [← hc]
    repeat (first | refine zE ?_ | refine zP ?_ | refine zD ?_ | refine zQ ?_ | refine zR ?_ | refine zS ?_ | refine wN ?_ | refine wM ?_ | refine wR ?_ | refine wS ?_ | refine wB ?_ | refine wG ?_ | refine wD ?_ | refine wY ?_ | refine wZ ?_ | refine wK ?_ | refine wT ?_ | refine wX ?_)
    exact ⟨.inr rfl, _, rfl, hrep2.strips intV_len intV_flat⟩
end Go.Av
namespace Go.Av
open Go.Proofs
set_option maxRecDepth 100000
theorem tV_one (t : T) : (tV t).all V.one = true := by obtain ⟨k, n, f, l⟩ := t; simp [tV, V.one]
def kindT : T → Int
  | .mk k _ _ _ => k
def othersL (b : T) (l : List C2) : List T := b :: l.flatMap fun c => [c.a, c.b]
theorem othersL_len (b : T) (l : List C2) : (othersL b l).length = 1 + l.length * 2 := by
  unfold othersL
  rw [List.length_cons]
  induction l with
  | nil => rfl
  | cons x l ih => rw [List.flatMap_cons, List.length_append, List.length_cons]; simp at ih ⊢; omega
theorem othersL_take {b : T} {l : List C2} {i : Nat} {x : C2} (h : l[i]? = some x) : othersL b (l.take (i + 1)) = othersL b (l.take i) ++ [x.a, x.b] := by
  unfold othersL
  rw [List.take_add_one, h, List.flatMap_append]
  simp
noncomputable def eqnB (s : S) (e : Eq2) : Bool :=
  !(decide ((e.vars.length : Int) > 64)) && (!(decide ((e.conds.length : Int) > 8)) && (!(kindT e.a != 2) && (within s.sorts.length e.vars && (alikeB s e.vars e.a e.b && (e.conds.all (fun c => alikeB s e.vars c.a c.b) && (varsA (othersL e.b e.conds)).all fun v => (varsA [e.a]).contains v)))))
theorem varsA_len (l : List T) (h : l.length ≤ 40) : (varsA l).length ≤ 80000 := by
  unfold varsA
  split
  · rename_i hl
    have h1 := varsL_len l []
    have h2 := nsT_le l fun x hx => List.all_eq_true.1 hl x hx
    simp at h1; omega
  · simp
theorem F115 : cfg.F 115 = some Tryz.f115 := rfl
set_option maxHeartbeats 16000000 in
theorem isEqn_fn (s : S) (e : Eq2) (hs : s.Fit) (he : e.Fit) : Fn 115 [.agg (sV s), .agg (eV e)] (.bool (eqnB s e)) := by
  obtain ⟨vs, fv, cs, fc, ⟨k1, n1, f1, l1⟩, ⟨k2, n2, f2, l2⟩⟩ := e
  unfold eqnB
  dsimp only [kindT]
  have hvs := he.vars
  have hcs := he.conds
  have hss := hs.sorts
  have haf := he.a
  have hbf := he.b
  have hcf := he.cond
  dsimp only at hvs hcs haf hbf hcf
  refine Fn.of_wp F115 rfl ?_
  simp only [show Tryz.f115.ntmps = 125 from rfl, List.length_cons, List.length_nil, List.replicate, List.cons_append, List.nil_append]
  repeat (first | refine zE ?_ | refine zP ?_ | refine zD ?_ | refine zQ ?_ | refine zR ?_ | refine zS ?_ | refine wN ?_ | refine wM ?_ | refine wR ?_ | refine wS ?_ | refine wB ?_ | refine wG ?_ | refine wD ?_ | refine wY ?_ | refine wZ ?_ | refine wK ?_ | refine wT ?_ | refine wX ?_)
  cases h1 : decide ((vs.length : Int) > 64)
  case true =>
    repeat (first | refine zE ?_ | refine zP ?_ | refine zD ?_ | refine zQ ?_ | refine zR ?_ | refine zS ?_ | refine wN ?_ | refine wM ?_ | refine wR ?_ | refine wS ?_ | refine wB ?_ | refine wG ?_ | refine wD ?_ | refine wY ?_ | refine wZ ?_ | refine wK ?_ | refine wT ?_ | refine wX ?_)
    exact ⟨.inr rfl, _, rfl, rfl⟩
  repeat (first | refine zE ?_ | refine zP ?_ | refine zD ?_ | refine zQ ?_ | refine zR ?_ | refine zS ?_ | refine wN ?_ | refine wM ?_ | refine wR ?_ | refine wS ?_ | refine wB ?_ | refine wG ?_ | refine wD ?_ | refine wY ?_ | refine wZ ?_ | refine wK ?_ | refine wT ?_ | refine wX ?_)
  cases h2 : decide ((cs.length : Int) > 8)
  case true =>
    repeat (first | refine zE ?_ | refine zP ?_ | refine zD ?_ | refine zQ ?_ | refine zR ?_ | refine zS ?_ | refine wN ?_ | refine wM ?_ | refine wR ?_ | refine wS ?_ | refine wB ?_ | refine wG ?_ | refine wD ?_ | refine wY ?_ | refine wZ ?_ | refine wK ?_ | refine wT ?_ | refine wX ?_)
    exact ⟨.inr rfl, _, rfl, rfl⟩
  repeat (first | refine zE ?_ | refine zP ?_ | refine zD ?_ | refine zQ ?_ | refine zR ?_ | refine zS ?_ | refine wN ?_ | refine wM ?_ | refine wR ?_ | refine wS ?_ | refine wB ?_ | refine wG ?_ | refine wD ?_ | refine wY ?_ | refine wZ ?_ | refine wK ?_ | refine wT ?_ | refine wX ?_)
  cases h3 : (k1 != 2)
  case true =>
    repeat (first | refine zE ?_ | refine zP ?_ | refine zD ?_ | refine zQ ?_ | refine zR ?_ | refine zS ?_ | refine wN ?_ | refine wM ?_ | refine wR ?_ | refine wS ?_ | refine wB ?_ | refine wG ?_ | refine wD ?_ | refine wY ?_ | refine wZ ?_ | refine wK ?_ | refine wT ?_ | refine wX ?_)
    exact ⟨.inr rfl, _, rfl, rfl⟩
  have h1' := of_decide_eq_false h1
  have h2' := of_decide_eq_false h2
  repeat (first | refine zE ?_ | refine zP ?_ | refine zD ?_ | refine zQ ?_ | refine zR ?_ | refine zS ?_ | refine wN ?_ | refine wM ?_ | refine wR ?_ | refine wS ?_ | refine wB ?_ | refine wG ?_ | refine wD ?_ | refine wY ?_ | refine wZ ?_ | refine wK ?_ | refine wT ?_ | refine wX ?_)
  refine wp_loop2 119 (fun i : Nat => [.agg (sV s), .agg (eV ⟨vs, fv, cs, fc, .mk k1 n1 f1 l1, .mk k2 n2 f2 l2⟩), .bp 0 0, .bp 1 0, .bool false, .int .i64 (i : Int)]) (fun i H => H = [.box (sV s), .box (eV ⟨vs, fv, cs, fc, .mk k1 n1 f1 l1, .mk k2 n2 f2 l2⟩)] ∧ i ≤ vs.length ∧ ∀ j, j < i → ∀ x, vs[j]? = some x → (decide (0 ≤ x) && decide (x < s.sorts.length)) = true) (fun i => vs.length - i) 0 ⟨_, rfl, rfl, rfl, Nat.zero_le _, fun j hj => by omega⟩ ?_
  rintro i H d u ⟨rfl, hi, hb⟩
  (rw [show (List.range 119).map u = [u 0, u 1, u 2, u 3, u 4, u 5, u 6, u 7, u 8, u 9, u 10, u 11, u 12, u 13, u 14, u 15, u 16, u 17, u 18, u 19, u 20, u 21, u 22, u 23, u 24, u 25, u 26, u 27, u 28, u 29, u 30, u 31, u 32, u 33, u 34, u 35, u 36, u 37, u 38, u 39, u 40, u 41, u 42, u 43, u 44, u 45, u 46, u 47, u 48, u 49, u 50, u 51, u 52, u 53, u 54, u 55, u 56, u 57, u 58, u 59, u 60, u 61, u 62, u 63, u 64, u 65, u 66, u 67, u 68, u 69, u 70, u 71, u 72, u 73, u 74, u 75, u 76, u 77, u 78, u 79, u 80, u 81, u 82, u 83, u 84, u 85, u 86, u 87, u 88, u 89, u 90, u 91, u 92, u 93, u 94, u 95, u 96, u 97, u 98, u 99, u 100, u 101, u 102, u 103, u 104, u 105, u 106, u 107, u 108, u 109, u 110, u 111, u 112, u 113, u 114, u 115, u 116, u 117, u 118] from rfl]; simp only [List.cons_append, List.nil_append])
  repeat (first | refine zE ?_ | refine zP ?_ | refine zD ?_ | refine zQ ?_ | refine zR ?_ | refine zS ?_ | refine wN ?_ | refine wM ?_ | refine wR ?_ | refine wS ?_ | refine wB ?_ | refine wG ?_ | refine wD ?_ | refine wY ?_ | refine wZ ?_ | refine wK ?_ | refine wT ?_ | refine wX ?_)
  by_cases hlt : i < vs.length
  · refine wp_yes rfl (decide_eq_true (by omega)) ?_
    obtain ⟨x, hx⟩ := get_of hlt
    have bad : (decide (0 ≤ x) && decide (x < s.sorts.length)) = false → within s.sorts.length vs = false := fun h => all_no hx h
    repeat (first | refine zE ?_ | refine zP ?_ | refine zD ?_ | refine zQ ?_ | refine zR ?_ | refine zS ?_ | refine wN ?_ | refine wM ?_ | refine wR ?_ | refine wS ?_ | refine wB ?_ | refine wG ?_ | refine wD ?_ | refine wY ?_ | refine wZ ?_ | refine wK ?_ | refine wT ?_ | refine wX ?_)
    refine zG (step_idx rfl rfl rfl rfl rfl rfl ⟨by omega, by omega⟩ (drop_rows (k := 1) (fun _ => rfl) hx)) ?_
    repeat (first | refine zE ?_ | refine zP ?_ | refine zD ?_ | refine zQ ?_ | refine zR ?_ | refine zS ?_ | refine wN ?_ | refine wM ?_ | refine wR ?_ | refine wS ?_ | refine wB ?_ | refine wG ?_ | refine wD ?_ | refine wY ?_ | refine wZ ?_ | refine wK ?_ | refine wT ?_ | refine wX ?_)
    cases h4 : decide (x < 0)
    case true =>
      rw [bad (by have := of_decide_eq_true h4; rw [decide_eq_false (by omega)]; rfl)]
      repeat (first | refine zE ?_ | refine zP ?_ | refine zD ?_ | refine zQ ?_ | refine zR ?_ | refine zS ?_ | refine wN ?_ | refine wM ?_ | refine wR ?_ | refine wS ?_ | refine wB ?_ | refine wG ?_ | refine wD ?_ | refine wY ?_ | refine wZ ?_ | refine wK ?_ | refine wT ?_ | refine wX ?_)
      exact ⟨.inr rfl, _, rfl, rfl⟩
    repeat (first | refine zE ?_ | refine zP ?_ | refine zD ?_ | refine zQ ?_ | refine zR ?_ | refine zS ?_ | refine wN ?_ | refine wM ?_ | refine wR ?_ | refine wS ?_ | refine wB ?_ | refine wG ?_ | refine wD ?_ | refine wY ?_ | refine wZ ?_ | refine wK ?_ | refine wT ?_ | refine wX ?_)
    refine zG (step_idx rfl rfl rfl rfl rfl rfl ⟨by omega, by omega⟩ (drop_rows (k := 1) (fun _ => rfl) hx)) ?_
    repeat (first | refine zE ?_ | refine zP ?_ | refine zD ?_ | refine zQ ?_ | refine zR ?_ | refine zS ?_ | refine wN ?_ | refine wM ?_ | refine wR ?_ | refine wS ?_ | refine wB ?_ | refine wG ?_ | refine wD ?_ | refine wY ?_ | refine wZ ?_ | refine wK ?_ | refine wT ?_ | refine wX ?_)
    cases h5 : decide (x ≥ (s.sorts.length : Int))
    case true =>
      rw [bad (by have := of_decide_eq_true h5; rw [decide_eq_false (show ¬ x < (s.sorts.length : Int) by omega), Bool.and_false])]
      repeat (first | refine zE ?_ | refine zP ?_ | refine zD ?_ | refine zQ ?_ | refine zR ?_ | refine zS ?_ | refine wN ?_ | refine wM ?_ | refine wR ?_ | refine wS ?_ | refine wB ?_ | refine wG ?_ | refine wD ?_ | refine wY ?_ | refine wZ ?_ | refine wK ?_ | refine wT ?_ | refine wX ?_)
      exact ⟨.inr rfl, _, rfl, rfl⟩
    repeat (first | refine zE ?_ | refine zP ?_ | refine zD ?_ | refine zQ ?_ | refine zR ?_ | refine zS ?_ | refine wN ?_ | refine wM ?_ | refine wR ?_ | refine wS ?_ | refine wB ?_ | refine wG ?_ | refine wD ?_ | refine wY ?_ | refine wZ ?_ | refine wK ?_ | refine wT ?_ | refine wX ?_)
    have h4' := of_decide_eq_false h4
    have h5' := of_decide_eq_false h5
    rw [wrap_succ (by omega)]
    exact ⟨i + 1, _, rfl, rfl, ⟨rfl, hlt, below_succ hb fun y hy => by rw [hx] at hy; cases hy; rw [decide_eq_true (by omega), decide_eq_true (by omega)]; rfl⟩, (by first | omega | (dsimp only; omega))⟩
  refine wp_no rfl (decide_eq_false (by omega)) ?_
  rw [show within s.sorts.length vs = true from all_yes fun j hj x hx => hb j (by omega) x hx]
  have hil : i = vs.length := by omega
  subst hil
  repeat (first | refine zE ?_ | refine zP ?_ | refine zD ?_ | refine zQ ?_ | refine zR ?_ | refine zS ?_ | refine wN ?_ | refine wM ?_ | refine wR ?_ | refine wS ?_ | refine wB ?_ | refine wG ?_ | refine wD ?_ | refine wY ?_ | refine wZ ?_ | refine wK ?_ | refine wT ?_ | refine wX ?_)
  refine zF (step_call rfl rfl ((alike_fn s vs fv hs hvs (.mk k1 n1 f1 l1) (.mk k2 n2 f2 l2) haf hbf).cl)) ?_
  repeat (first | refine zE ?_ | refine zP ?_ | refine zD ?_ | refine zQ ?_ | refine zR ?_ | refine zS ?_ | refine wN ?_ | refine wM ?_ | refine wR ?_ | refine wS ?_ | refine wB ?_ | refine wG ?_ | refine wD ?_ | refine wY ?_ | refine wZ ?_ | refine wK ?_ | refine wT ?_ | refine wX ?_)
  cases h4 : alikeB s vs (.mk k1 n1 f1 l1) (.mk k2 n2 f2 l2)
  · repeat (first | refine zE ?_ | refine zP ?_ | refine zD ?_ | refine zQ ?_ | refine zR ?_ | refine zS ?_ | refine wN ?_ | refine wM ?_ | refine wR ?_ | refine wS ?_ | refine wB ?_ | refine wG ?_ | refine wD ?_ | refine wY ?_ | refine wZ ?_ | refine wK ?_ | refine wT ?_ | refine wX ?_)
    exact ⟨.inr rfl, _, rfl, rfl⟩
  repeat (first | refine zE ?_ | refine zP ?_ | refine zD ?_ | refine zQ ?_ | refine zR ?_ | refine zS ?_ | refine wN ?_ | refine wM ?_ | refine wR ?_ | refine wS ?_ | refine wB ?_ | refine wG ?_ | refine wD ?_ | refine wY ?_ | refine wZ ?_ | refine wK ?_ | refine wT ?_ | refine wX ?_)
  refine zF (step_call rfl rfl ((vars4_fn [.mk k1 n1 f1 l1] true (by simp) (fun x hx => by simp at hx; subst hx; exact haf)).cl)) ?_
  repeat (first | refine zE ?_ | refine zP ?_ | refine zD ?_ | refine zQ ?_ | refine zR ?_ | refine zS ?_ | refine wN ?_ | refine wM ?_ | refine wR ?_ | refine wS ?_ | refine wB ?_ | refine wG ?_ | refine wD ?_ | refine wY ?_ | refine wZ ?_ | refine wK ?_ | refine wT ?_ | refine wX ?_)
  refine wp_loop2 115 (fun a : Nat × V => [.agg (sV s), .agg (eV ⟨vs, fv, cs, fc, .mk k1 n1 f1 l1, .mk k2 n2 f2 l2⟩), .bp 0 0, .bp 1 0, .bool false, .int .i64 (vs.length : Int), .bool true, slOf intV (varsA [.mk k1 n1 f1 l1]), a.2, .int .i64 (a.1 : Int)]) (fun a H => a.1 ≤ cs.length ∧ H[0]? = some (.box (sV s)) ∧ H[1]? = some (.box (eV ⟨vs, fv, cs, fc, .mk k1 n1 f1 l1, .mk k2 n2 f2 l2⟩)) ∧ RepL tV 3 H (othersL (.mk k2 n2 f2 l2) (cs.take a.1)) a.2 ∧ ∀ j, j < a.1 → ∀ x, cs[j]? = some x → alikeB s vs x.a x.b = true) (fun a => cs.length - a.1) (0, .sl 1 true (rows tV (othersL (.mk k2 n2 f2 l2) (cs.take 0)))) ⟨_, rfl, rfl, Nat.zero_le _, rfl, rfl, .inl rfl, fun j hj => by omega⟩ ?_
  rintro ⟨i, v8⟩ H d u2 ⟨hi, hb0, hb1, hrep, hb2⟩
  dsimp only at hi hrep hb2 ⊢
  rw [show (List.range 115).map u2 = [u2 0, u2 1, u2 2, u2 3, u2 4, u2 5, u2 6, u2 7, u2 8, u2 9, u2 10, u2 11, u2 12, u2 13, u2 14, u2 15, u2 16, u2 17, u2 18, u2 19, u2 20, u2 21, u2 22, u2 23, u2 24, u2 25, u2 26, u2 27, u2 28, u2 29, u2 30, u2 31, u2 32, u2 33, u2 34, u2 35, u2 36, u2 37, u2 38, u2 39, u2 40, u2 41, u2 42, u2 43, u2 44, u2 45, u2 46, u2 47, u2 48, u2 49, u2 50, u2 51, u2 52, u2 53, u2 54, u2 55, u2 56, u2 57, u2 58, u2 59, u2 60, u2 61, u2 62, u2 63, u2 64, u2 65, u2 66, u2 67, u2 68, u2 69, u2 70, u2 71, u2 72, u2 73, u2 74, u2 75, u2 76, u2 77, u2 78, u2 79, u2 80, u2 81, u2 82, u2 83, u2 84, u2 85, u2 86, u2 87, u2 88, u2 89, u2 90, u2 91, u2 92, u2 93, u2 94, u2 95, u2 96, u2 97, u2 98, u2 99, u2 100, u2 101, u2 102, u2 103, u2 104, u2 105, u2 106, u2 107, u2 108, u2 109, u2 110, u2 111, u2 112, u2 113, u2 114] from rfl]; simp only [List.cons_append, List.nil_append]
  repeat (first | refine zL hb0 ?_ | refine zM hb0 ?_ | refine zO hb0 ?_ | refine zL hb1 ?_ | refine zM hb1 ?_ | refine zO hb1 ?_ | refine zE ?_ | refine zP ?_ | refine zD ?_ | refine zQ ?_ | refine zR ?_ | refine zS ?_ | refine wN ?_ | refine wM ?_ | refine wR ?_ | refine wS ?_ | refine wB ?_ | refine wG ?_ | refine wD ?_ | refine wY ?_ | refine wZ ?_ | refine wK ?_ | refine wT ?_ | refine wX ?_)
  by_cases hlt : i < cs.length
  · refine wp_yes rfl (decide_eq_true (by omega)) ?_
    obtain ⟨x, hx⟩ := get_of hlt
    have hxf := hcf i x hx
    repeat (first | refine zL hb0 ?_ | refine zM hb0 ?_ | refine zO hb0 ?_ | refine zL hb1 ?_ | refine zM hb1 ?_ | refine zO hb1 ?_ | refine zE ?_ | refine zP ?_ | refine zD ?_ | refine zQ ?_ | refine zR ?_ | refine zS ?_ | refine wN ?_ | refine wM ?_ | refine wR ?_ | refine wS ?_ | refine wB ?_ | refine wG ?_ | refine wD ?_ | refine wY ?_ | refine wZ ?_ | refine wK ?_ | refine wT ?_ | refine wX ?_)
    refine zG (step_idx rfl rfl rfl rfl rfl rfl ⟨by omega, by omega⟩ (drop_conds hx)) ?_
    repeat (first | refine zL hb0 ?_ | refine zM hb0 ?_ | refine zO hb0 ?_ | refine zL hb1 ?_ | refine zM hb1 ?_ | refine zO hb1 ?_ | refine zE ?_ | refine zP ?_ | refine zD ?_ | refine zQ ?_ | refine zR ?_ | refine zS ?_ | refine wN ?_ | refine wM ?_ | refine wR ?_ | refine wS ?_ | refine wB ?_ | refine wG ?_ | refine wD ?_ | refine wY ?_ | refine wZ ?_ | refine wK ?_ | refine wT ?_ | refine wX ?_)
    refine zG (step_enc2 rfl rfl rfl (tV_len x.a) rfl rfl) ?_
    repeat (first | refine zL hb0 ?_ | refine zM hb0 ?_ | refine zO hb0 ?_ | refine zL hb1 ?_ | refine zM hb1 ?_ | refine zO hb1 ?_ | refine zE ?_ | refine zP ?_ | refine zD ?_ | refine zQ ?_ | refine zR ?_ | refine zS ?_ | refine wN ?_ | refine wM ?_ | refine wR ?_ | refine wS ?_ | refine wB ?_ | refine wG ?_ | refine wD ?_ | refine wY ?_ | refine wZ ?_ | refine wK ?_ | refine wT ?_ | refine wX ?_)
    refine zG (step_idx rfl rfl rfl rfl rfl rfl ⟨by omega, by omega⟩ (drop_conds hx)) ?_
    repeat (first | refine zL hb0 ?_ | refine zM hb0 ?_ | refine zO hb0 ?_ | refine zL hb1 ?_ | refine zM hb1 ?_ | refine zO hb1 ?_ | refine zE ?_ | refine zP ?_ | refine zD ?_ | refine zQ ?_ | refine zR ?_ | refine zS ?_ | refine wN ?_ | refine wM ?_ | refine wR ?_ | refine wS ?_ | refine wB ?_ | refine wG ?_ | refine wD ?_ | refine wY ?_ | refine wZ ?_ | refine wK ?_ | refine wT ?_ | refine wX ?_)
    refine zG (step_enc2 rfl rfl rfl (tV_len x.b) rfl (drop_tV _ _)) ?_
    refine zG (step_call rfl rfl ((alike_fn s vs fv hs hvs x.a x.b hxf.1 hxf.2).cl)) ?_
    repeat (first | refine zE ?_ | refine zP ?_ | refine zD ?_ | refine zQ ?_ | refine zR ?_ | refine zS ?_ | refine wN ?_ | refine wM ?_ | refine wR ?_ | refine wS ?_ | refine wB ?_ | refine wG ?_ | refine wD ?_ | refine wY ?_ | refine wZ ?_ | refine wK ?_ | refine wT ?_ | refine wX ?_)
    cases h5 : alikeB s vs x.a x.b
    · rw [show cs.all (fun c => alikeB s vs c.a c.b) = false from all_no hx h5]
      repeat (first | refine zE ?_ | refine zP ?_ | refine zD ?_ | refine zQ ?_ | refine zR ?_ | refine zS ?_ | refine wN ?_ | refine wM ?_ | refine wR ?_ | refine wS ?_ | refine wB ?_ | refine wG ?_ | refine wD ?_ | refine wY ?_ | refine wZ ?_ | refine wK ?_ | refine wT ?_ | refine wX ?_)
      exact ⟨.inr rfl, _, rfl, rfl⟩
    repeat (first | refine zL hb0 ?_ | refine zM hb0 ?_ | refine zO hb0 ?_ | refine zL hb1 ?_ | refine zM hb1 ?_ | refine zO hb1 ?_ | refine zE ?_ | refine zP ?_ | refine zD ?_ | refine zQ ?_ | refine zR ?_ | refine zS ?_ | refine wN ?_ | refine wM ?_ | refine wR ?_ | refine wS ?_ | refine wB ?_ | refine wG ?_ | refine wE ?_ | refine wY ?_ | refine wZ ?_ | refine wK ?_ | refine wT ?_ | refine wX ?_)
    refine zH (step_idx rfl rfl rfl rfl rfl rfl ⟨by omega, by omega⟩ (drop_conds hx)) ?_
    repeat (first | refine zL hb0 ?_ | refine zM hb0 ?_ | refine zO hb0 ?_ | refine zL hb1 ?_ | refine zM hb1 ?_ | refine zO hb1 ?_ | refine zE ?_ | refine zP ?_ | refine zD ?_ | refine zQ ?_ | refine zR ?_ | refine zS ?_ | refine wN ?_ | refine wM ?_ | refine wR ?_ | refine wS ?_ | refine wB ?_ | refine wG ?_ | refine wE ?_ | refine wY ?_ | refine wZ ?_ | refine wK ?_ | refine wT ?_ | refine wX ?_)
    refine zH (step_enc2 rfl rfl rfl (tV_len x.a) rfl rfl) ?_
    repeat (first | refine zL hb0 ?_ | refine zM hb0 ?_ | refine zO hb0 ?_ | refine zL hb1 ?_ | refine zM hb1 ?_ | refine zO hb1 ?_ | refine zE ?_ | refine zP ?_ | refine zD ?_ | refine zQ ?_ | refine zR ?_ | refine zS ?_ | refine wN ?_ | refine wM ?_ | refine wR ?_ | refine wS ?_ | refine wB ?_ | refine wG ?_ | refine wE ?_ | refine wY ?_ | refine wZ ?_ | refine wK ?_ | refine wT ?_ | refine wX ?_)
    refine zH (step_idx rfl rfl rfl rfl rfl rfl ⟨by omega, by omega⟩ (drop_conds hx)) ?_
    repeat (first | refine zL hb0 ?_ | refine zM hb0 ?_ | refine zO hb0 ?_ | refine zL hb1 ?_ | refine zM hb1 ?_ | refine zO hb1 ?_ | refine zE ?_ | refine zP ?_ | refine zD ?_ | refine zQ ?_ | refine zR ?_ | refine zS ?_ | refine wN ?_ | refine wM ?_ | refine wR ?_ | refine wS ?_ | refine wB ?_ | refine wG ?_ | refine wE ?_ | refine wY ?_ | refine wZ ?_ | refine wK ?_ | refine wT ?_ | refine wX ?_)
    refine zH (step_enc2 rfl rfl rfl (tV_len x.b) rfl (drop_tV _ _)) ?_
    obtain ⟨xa, xb⟩ := x
    obtain ⟨k3, n3, f3, l3⟩ := xa
    obtain ⟨k4, n4, f4, l4⟩ := xb
    repeat (first | refine zL hb0 ?_ | refine zM hb0 ?_ | refine zO hb0 ?_ | refine zL hb1 ?_ | refine zM hb1 ?_ | refine zO hb1 ?_ | refine zE ?_ | refine zP ?_ | refine zD ?_ | refine zQ ?_ | refine zR ?_ | refine zS ?_ | refine wN ?_ | refine wM ?_ | refine wR ?_ | refine wS ?_ | refine wB ?_ | refine wG ?_ | refine wE ?_ | refine wY ?_ | refine wZ ?_ | refine wK ?_ | refine wT ?_ | refine wX ?_)
    have hol := othersL_len (.mk k2 n2 f2 l2) (cs.take i)
    rw [List.length_take, Nat.min_eq_left (by omega)] at hol
    obtain ⟨D, v', H', c, hD, hr, hrep', hsame⟩ := append_repL (fid := 115) (dst := 109) (tt := 60) tV_len (by decide) tV_one rfl rfl rfl rfl (by decide) rfl hrep [.mk k3 n3 f3 l3, .mk k4 n4 f4 l4] (by simp) (by rw [hol]; simp; omega) true 2 rfl
    refine zH (step_append rfl rfl rfl rfl hD (hr _ rfl)) ?_
    repeat (first | refine zE ?_ | refine zP ?_ | refine zD ?_ | refine zQ ?_ | refine zR ?_ | refine zS ?_ | refine wN ?_ | refine wM ?_ | refine wR ?_ | refine wS ?_ | refine wB ?_ | refine wG ?_ | refine wD ?_ | refine wY ?_ | refine wZ ?_ | refine wK ?_ | refine wT ?_ | refine wX ?_)
    rw [wrap_succ (by omega)]
    refine ⟨(i + 1, v'), _, rfl, rfl, ⟨hlt, ?_, ?_, ?_, below_succ hb2 fun y hy => by rw [hx] at hy; cases hy; exact h5⟩, (by first | omega | (dsimp only; omega))⟩
    · rw [hsame 0 (get_lt hb0) (hrep.apart hb0)]; exact hb0
    · rw [hsame 1 (get_lt hb1) (hrep.apart hb1)]; exact hb1
    · rw [othersL_take hx]; exact hrep'
  refine wp_no rfl (decide_eq_false (by omega)) ?_
  rw [show cs.all (fun c => alikeB s vs c.a c.b) = true from all_yes fun j hj x hx => hb2 j (by omega) x hx]
  have hil : i = cs.length := by omega
  subst hil
  rw [List.take_length] at hrep
  repeat (first | refine zE ?_ | refine zP ?_ | refine zD ?_ | refine zQ ?_ | refine zR ?_ | refine zS ?_ | refine wN ?_ | refine wM ?_ | refine wR ?_ | refine wS ?_ | refine wB ?_ | refine wG ?_ | refine wD ?_ | refine wY ?_ | refine wZ ?_ | refine wK ?_ | refine wT ?_ | refine wX ?_)
  have hol := othersL_len (.mk k2 n2 f2 l2) cs
  obtain ⟨fl, hst⟩ := hrep.strips (m := 998) tV_len flat_tV
  refine zF (step_call rfl rfl ((vars4_fn (othersL (.mk k2 n2 f2 l2) cs) fl (by omega) (fun x hx => ?_)).call_strip (by decide) rfl (strips_cons hst rfl))) ?_
  · unfold othersL at hx
    rcases List.mem_cons.1 hx with rfl | hx
    · exact hbf
    · obtain ⟨c, hc, hx⟩ := List.mem_flatMap.1 hx
      obtain ⟨j, hj⟩ := List.getElem?_of_mem hc
      have := hcf j c hj
      simp at hx
      rcases hx with rfl | rfl
      · exact this.1
      · exact this.2
  have hvl := varsA_len (othersL (.mk k2 n2 f2 l2) cs) (by omega)
  have hvl1 := varsA_len [.mk k1 n1 f1 l1] (by simp)
  generalize varsA (othersL (.mk k2 n2 f2 l2) cs) = more at hvl ⊢
  generalize varsA [.mk k1 n1 f1 l1] = own at hvl1 ⊢
  repeat (first | refine zE ?_ | refine zP ?_ | refine zD ?_ | refine zQ ?_ | refine zR ?_ | refine zS ?_ | refine wN ?_ | refine wM ?_ | refine wR ?_ | refine wS ?_ | refine wB ?_ | refine wG ?_ | refine wD ?_ | refine wY ?_ | refine wZ ?_ | refine wK ?_ | refine wT ?_ | refine wX ?_)
  refine wp_loop2 112 (fun i : Nat => [.agg (sV s), .agg (eV ⟨vs, fv, cs, fc, .mk k1 n1 f1 l1, .mk k2 n2 f2 l2⟩), .bp 0 0, .bp 1 0, .bool false, .int .i64 (vs.length : Int), .bool true, slOf intV own, v8, .int .i64 (cs.length : Int), u2 0, slOf intV more, .int .i64 (i : Int)]) (fun i H => i ≤ more.length ∧ ∀ j, j < i → ∀ x, more[j]? = some x → own.contains x = true) (fun i => more.length - i) 0 ⟨_, rfl, rfl, Nat.zero_le _, fun j hj => by omega⟩ ?_
  rintro i H d u3 ⟨hi, hb3⟩
  rw [show (List.range 112).map u3 = [u3 0, u3 1, u3 2, u3 3, u3 4, u3 5, u3 6, u3 7, u3 8, u3 9, u3 10, u3 11, u3 12, u3 13, u3 14, u3 15, u3 16, u3 17, u3 18, u3 19, u3 20, u3 21, u3 22, u3 23, u3 24, u3 25, u3 26, u3 27, u3 28, u3 29, u3 30, u3 31, u3 32, u3 33, u3 34, u3 35, u3 36, u3 37, u3 38, u3 39, u3 40, u3 41, u3 42, u3 43, u3 44, u3 45, u3 46, u3 47, u3 48, u3 49, u3 50, u3 51, u3 52, u3 53, u3 54, u3 55, u3 56, u3 57, u3 58, u3 59, u3 60, u3 61, u3 62, u3 63, u3 64, u3 65, u3 66, u3 67, u3 68, u3 69, u3 70, u3 71, u3 72, u3 73, u3 74, u3 75, u3 76, u3 77, u3 78, u3 79, u3 80, u3 81, u3 82, u3 83, u3 84, u3 85, u3 86, u3 87, u3 88, u3 89, u3 90, u3 91, u3 92, u3 93, u3 94, u3 95, u3 96, u3 97, u3 98, u3 99, u3 100, u3 101, u3 102, u3 103, u3 104, u3 105, u3 106, u3 107, u3 108, u3 109, u3 110, u3 111] from rfl]; simp only [List.cons_append, List.nil_append]
  repeat (first | refine zE ?_ | refine zP ?_ | refine zD ?_ | refine zQ ?_ | refine zR ?_ | refine zS ?_ | refine wN ?_ | refine wM ?_ | refine wR ?_ | refine wS ?_ | refine wB ?_ | refine wG ?_ | refine wD ?_ | refine wY ?_ | refine wZ ?_ | refine wK ?_ | refine wT ?_ | refine wX ?_)
  by_cases hlt : i < more.length
  · refine wp_yes rfl (decide_eq_true (by omega)) ?_
    obtain ⟨x, hx⟩ := get_of hlt
    repeat (first | refine zE ?_ | refine zP ?_ | refine zD ?_ | refine zQ ?_ | refine zR ?_ | refine zS ?_ | refine wN ?_ | refine wM ?_ | refine wR ?_ | refine wS ?_ | refine wB ?_ | refine wG ?_ | refine wD ?_ | refine wY ?_ | refine wZ ?_ | refine wK ?_ | refine wT ?_ | refine wX ?_)
    refine zF (step_idx rfl rfl rfl rfl rfl rfl ⟨by omega, by omega⟩ (drop_rows (k := 1) (fun _ => rfl) hx)) ?_
    repeat (first | refine zE ?_ | refine zP ?_ | refine zD ?_ | refine zQ ?_ | refine zR ?_ | refine zS ?_ | refine wN ?_ | refine wM ?_ | refine wR ?_ | refine wS ?_ | refine wB ?_ | refine wG ?_ | refine wD ?_ | refine wY ?_ | refine wZ ?_ | refine wK ?_ | refine wT ?_ | refine wX ?_)
    refine zF (step_call rfl rfl ((in5_fn own own.isEmpty x (by omega)).cl)) ?_
    repeat (first | refine zE ?_ | refine zP ?_ | refine zD ?_ | refine zQ ?_ | refine zR ?_ | refine zS ?_ | refine wN ?_ | refine wM ?_ | refine wR ?_ | refine wS ?_ | refine wB ?_ | refine wG ?_ | refine wD ?_ | refine wY ?_ | refine wZ ?_ | refine wK ?_ | refine wT ?_ | refine wX ?_)
    cases h6 : own.contains x
    · rw [all_no hx h6]
      repeat (first | refine zE ?_ | refine zP ?_ | refine zD ?_ | refine zQ ?_ | refine zR ?_ | refine zS ?_ | refine wN ?_ | refine wM ?_ | refine wR ?_ | refine wS ?_ | refine wB ?_ | refine wG ?_ | refine wD ?_ | refine wY ?_ | refine wZ ?_ | refine wK ?_ | refine wT ?_ | refine wX ?_)
      exact ⟨.inr rfl, _, rfl, rfl⟩
    repeat (first | refine zE ?_ | refine zP ?_ | refine zD ?_ | refine zQ ?_ | refine zR ?_ | refine zS ?_ | refine wN ?_ | refine wM ?_ | refine wR ?_ | refine wS ?_ | refine wB ?_ | refine wG ?_ | refine wD ?_ | refine wY ?_ | refine wZ ?_ | refine wK ?_ | refine wT ?_ | refine wX ?_)
    rw [wrap_succ (by omega)]
    exact ⟨i + 1, _, rfl, rfl, ⟨hlt, below_succ hb3 fun y hy => by rw [hx] at hy; cases hy; exact h6⟩, (by first | omega | (dsimp only; omega))⟩
  refine wp_no rfl (decide_eq_false (by omega)) ?_
  rw [all_yes fun j hj x hx => hb3 j (by omega) x hx]
  repeat (first | refine zE ?_ | refine zP ?_ | refine zD ?_ | refine zQ ?_ | refine zR ?_ | refine zS ?_ | refine wN ?_ | refine wM ?_ | refine wR ?_ | refine wS ?_ | refine wB ?_ | refine wG ?_ | refine wD ?_ | refine wY ?_ | refine wZ ?_ | refine wK ?_ | refine wT ?_ | refine wX ?_)
  exact ⟨.inr rfl, _, rfl, rfl⟩
end Go.Av
